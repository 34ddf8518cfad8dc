/- A region that draws its order: whatever order, what the evaluator says holds: the theorem. -/
import Derived.Test.YtcnapkdccjibpaaGreatDoorEng8
namespace Go.Proofs.YtcnapkdccjibpaaGreatDoor.Eng
open Go Go.RowKit
set_option linter.unusedVariables false
set_option linter.unnecessarySimpa false
set_option linter.unusedSimpArgs false

/-- The boxes as they stand while the order is drawn. -/
def curN (h0 : Heap) (p : Nat → Bool) : WS → Heap
  | [] => h0
  | (k, _, h1) :: r => if p k = true then h1 else curN h0 p r
/-- What turns the boxes comes up in order. -/
def Closed (p : Nat → Bool) : WS → Prop
  | [] => True
  | x :: r => (p x.1 = true → ∀ y ∈ r, p y.1 = true) ∧ Closed p r

structure Inv (w0 : World) (G : List Addr) (nt : Nat) (all : Array Oper) (env0 : Env) (h0 : Heap) (A : Nat) (vals : Vals) (F : FL) (W : WS) (ρ : List Blk) (listed : Array Bool) (a : Act) (w : World) : Prop where
  len : listed.size = all.size
  base : ER ρ G (dstsOf all.toList ++ env0) a.tmps
  baseW : (∃ j, j < all.size ∧ listed.getD j false = false) → ER ρ G (dstsW all.toList.length all.toList ++ env0) a.tmps
  ent : ∀ j d v, listed.getD j false = true → vals[j]? = some (some (d, some v)) → a.tmps[d]? = some (v.conc ρ G) ∧ v.wf ρ
  hr : HR w0 ρ (curN (fillH (fun k => listed.getD k false) (base0 h0 A) F) (fun k => listed.getD k false) W) w
  size : a.tmps.size = nt
  defers : a.defers = []
  closed : Closed (fun k => listed.getD k false) W
  ldone : ∀ j o, all[j]? = some o → listed.getD j false = true → ∀ k, waitsFor o k = true → listed.getD k false = true
  unb : ∀ f ∈ F, listed.getD f.1 false = false → (blk ρ f.2.1).ok = false
  first : ∀ x ∈ W, listed.getD x.1 false = true → ∀ f ∈ F, listed.getD f.1 false = true

theorem cur_all {h0 : Heap} {p : Nat → Bool} : ∀ {W : WS}, (∀ y ∈ W, p y.1 = true) → curN h0 p W = headH h0 W
  | [], _ => rfl
  | (k, st, h1) :: r, h => by simp only [curN, headH]; rw [if_pos (h _ (List.mem_cons_self ..))]
theorem cur_none {h0 : Heap} {p : Nat → Bool} : ∀ {A W : WS}, (∀ y ∈ A, p y.1 = false) → curN h0 p (A ++ W) = curN h0 p W
  | [], W, _ => rfl
  | (k, st, h1) :: r, W, h => by
    simp only [List.cons_append, curN]
    rw [if_neg (by rw [h (k, st, h1) (List.mem_cons_self ..)]; simp), cur_none fun y hy => h y (List.mem_cons_of_mem _ hy)]
theorem cur_congr {h0 : Heap} {p q : Nat → Bool} : ∀ {W : WS}, (∀ y ∈ W, p y.1 = q y.1) → curN h0 p W = curN h0 q W
  | [], _ => rfl
  | (k, st, h1) :: r, h => by
    simp only [curN]
    rw [h (k, st, h1) (List.mem_cons_self ..), cur_congr (W := r) fun y hy => h y (List.mem_cons_of_mem _ hy)]
theorem closed_right {p : Nat → Bool} : ∀ {A W : WS}, Closed p (A ++ W) → Closed p W
  | [], W, h => h
  | x :: r, W, h => closed_right (A := r) h.2
theorem closed_left {p : Nat → Bool} : ∀ {A : WS} {x : Nat × Option (Option Nat) × Heap} {W : WS}, Closed p (A ++ x :: W) → p x.1 = false → ∀ y ∈ A, p y.1 = false
  | [], x, W, h, hx, y, hy => by cases hy
  | z :: r, x, W, h, hx, y, hy => by
    rcases List.mem_cons.1 hy with rfl | hy
    · cases hp : p y.1 with
      | false => rfl
      | true =>
        have := h.1 hp x (by simp)
        rw [this] at hx; cases hx
    · exact closed_left h.2 hx y hy
theorem closed_none {p : Nat → Bool} : ∀ {A W : WS}, (∀ y ∈ A, p y.1 = false) → Closed p W → Closed p (A ++ W)
  | [], W, _, h => h
  | x :: r, W, hA, h => ⟨fun hp => absurd hp (by rw [hA x (List.mem_cons_self ..)]; simp), closed_none (fun y hy => hA y (List.mem_cons_of_mem _ hy)) h⟩
theorem closed_congr {p q : Nat → Bool} : ∀ {W : WS}, (∀ y ∈ W, p y.1 = q y.1) → Closed p W → Closed q W
  | [], _, _ => trivial
  | x :: r, h, hc => ⟨fun hq y hy => by
      rw [← h y (List.mem_cons_of_mem _ hy)]
      exact hc.1 (by rw [h x (List.mem_cons_self ..)]; exact hq) y hy, closed_congr (fun y hy => h y (List.mem_cons_of_mem _ hy)) hc.2⟩

theorem chain_right {h0 : Heap} : ∀ {A W : WS}, Chain h0 (A ++ W) → Chain h0 W
  | [], W, h => h
  | (k, st, h1) :: r, W, h => chain_right (A := r) h.2

/-- What has come up and is not waited for has added boxes. -/
theorem cur_more {b0 b1 bf : Heap} {p : Nat → Bool} {o : Oper} (hp : isPure o.op = false) (h01 : More b0 b1) (h1f : (∀ x, b1 = x → True)) : ∀ (A ws : WS), Chain bf (A ++ ws) → Closed p (A ++ ws) → (∀ x ∈ ws, waitsFor o x.1 = true → p x.1 = true) →
    ((∃ x ∈ A ++ ws, p x.1 = true) → b1 = bf) → okN o none ws = true → (∀ x ∈ A, p x.1 = true → x.2.1 = none) → More (heapN b0 o ws) (curN b1 p (A ++ ws))
  | [], [], _, _, _, _, _, _ => h01
  | [], (k, st, h1) :: r, hc, hcl, hw, hb, hok, hA => by
    simp only [List.nil_append] at hc hcl hb ⊢
    simp only [curN, heapN]
    cases hwk : waitsFor o k with
    | true =>
      rw [if_pos (hw (k, st, h1) (List.mem_cons_self ..) hwk)]
      exact More.refl _
    | false =>
      simp only [okN, hwk, hp, Bool.false_or, Bool.and_eq_true] at hok
      have ih := cur_more hp h01 h1f [] r hc.2 hcl.2 (fun x hx => hw x (List.mem_cons_of_mem _ hx)) (fun ⟨x, hx, hpx⟩ => hb ⟨x, List.mem_cons_of_mem _ hx, hpx⟩) hok.2 (fun x hx => by cases hx)
      simp only [List.nil_append] at ih
      rw [if_neg (show ¬ (false = true) by simp)]
      by_cases hpk : p k = true
      · rw [if_pos hpk]
        match st, hc, hok with
        | some (some b), _, hok => exact absurd hok.1 (by simp [spares, otherB])
        | some none, _, hok => exact absurd hok.1 (by simp [spares])
        | none, hc, hok =>
          obtain ⟨n', hn'⟩ := hc.1
          rw [cur_all (hcl.1 hpk), hb ⟨_, List.mem_cons_self .., hpk⟩] at ih
          rw [hn']
          exact ih.trans (More.app _ _)
      · rw [if_neg hpk]; exact ih
  | (k, st, h1) :: A, ws, hc, hcl, hw, hb, hok, hA => by
    simp only [List.cons_append] at hc hcl hb ⊢
    have ih := cur_more hp h01 h1f A ws hc.2 hcl.2 hw (fun ⟨x, hx, hpx⟩ => hb ⟨x, List.mem_cons_of_mem _ hx, hpx⟩) hok (fun x hx => hA x (List.mem_cons_of_mem _ hx))
    simp only [curN]
    by_cases hpk : p k = true
    · rw [if_pos hpk]
      have := hA (k, st, h1) (List.mem_cons_self ..) hpk
      simp only at this
      subst this
      obtain ⟨n', hn'⟩ := hc.1
      rw [cur_all (hcl.1 hpk), hb ⟨_, List.mem_cons_self .., hpk⟩] at ih
      rw [hn']
      exact ih.trans (More.app _ _)
    · rw [if_neg hpk]; exact ih

/-- What has come up and is not waited for has left box c. -/
theorem cur_load {b0 b1 bf : Heap} {p : Nat → Bool} {o : Oper} {c : Nat} {cs : List PC} (hp : isPure o.op = false) (h01 : More b0 b1) (hcs : cs ≠ []) : ∀ (A ws : WS), Chain bf (A ++ ws) → Closed p (A ++ ws) → (∀ x ∈ ws, waitsFor o x.1 = true → p x.1 = true) →
    ((∃ x ∈ A ++ ws, p x.1 = true) → b1 = bf) → okN o (some c) ws = true → (∀ x ∈ A, p x.1 = true → ∀ b, x.2.1 = some b → ∃ b', b = some b' ∧ c ≠ b') → (heapN b0 o ws)[c]? = some cs → (curN b1 p (A ++ ws))[c]? = some cs
  | [], [], _, _, _, _, _, _, h => h01 c cs h hcs
  | [], (k, st, h1) :: r, hc, hcl, hw, hb, hok, hA, h => by
    simp only [List.nil_append] at hc hcl hb ⊢
    simp only [curN, heapN] at h ⊢
    cases hwk : waitsFor o k with
    | true =>
      rw [hwk, if_pos rfl] at h
      rw [if_pos (hw (k, st, h1) (List.mem_cons_self ..) hwk)]
      exact h
    | false =>
      rw [hwk, if_neg (show ¬ (false = true) by simp)] at h
      simp only [okN, hwk, hp, Bool.false_or, Bool.and_eq_true] at hok
      have ih := cur_load hp h01 hcs [] r hc.2 hcl.2 (fun x hx => hw x (List.mem_cons_of_mem _ hx)) (fun ⟨x, hx, hpx⟩ => hb ⟨x, List.mem_cons_of_mem _ hx, hpx⟩) hok.2 (fun x hx => by cases hx) h
      simp only [List.nil_append] at ih
      by_cases hpk : p k = true
      · rw [if_pos hpk]
        rw [cur_all (hcl.1 hpk), hb ⟨_, List.mem_cons_self .., hpk⟩] at ih
        match st, hc, hok with
        | some (some b), hc, hok =>
          have hne : c ≠ b := by
            have := hok.1
            simp only [spares, otherB, Bool.false_or, Bool.not_eq_true'] at this
            intro e
            subst e
            rw [Nat.beq_refl] at this
            cases this
          rw [hc.1 c hne]; exact ih
        | some none, _, hok => exact absurd hok.1 (by simp [spares])
        | none, hc, hok =>
          obtain ⟨n', hn'⟩ := hc.1
          rw [hn', List.getElem?_append_left (List.getElem?_eq_some_iff.1 ih).1]; exact ih
      · rw [if_neg hpk]; exact ih
  | (k, st, h1) :: A, ws, hc, hcl, hw, hb, hok, hA, h => by
    simp only [List.cons_append] at hc hcl hb ⊢
    have ih := cur_load hp h01 hcs A ws hc.2 hcl.2 hw (fun ⟨x, hx, hpx⟩ => hb ⟨x, List.mem_cons_of_mem _ hx, hpx⟩) hok (fun x hx => hA x (List.mem_cons_of_mem _ hx)) h
    simp only [curN]
    by_cases hpk : p k = true
    · rw [if_pos hpk]
      rw [cur_all (hcl.1 hpk), hb ⟨_, List.mem_cons_self .., hpk⟩] at ih
      match st, hc, hA with
      | some b, hc, hA =>
        obtain ⟨b', e1, hne⟩ := hA (k, some b, h1) (List.mem_cons_self ..) hpk b rfl
        subst e1
        rw [hc.1 c hne]; exact ih
      | none, hc, _ =>
        obtain ⟨n', hn'⟩ := hc.1
        rw [hn', List.getElem?_append_left (List.getElem?_eq_some_iff.1 ih).1]; exact ih
    · rw [if_neg hpk]; exact ih

theorem unl {listed : Array Bool} {i n : Nat} (hl : listed.size = n) (hi : i < n) : listed.getD i true = listed.getD i false := by
  simp [show i < listed.size by omega]

theorem getD_set_self {listed : Array Bool} {i : Nat} (h : i < listed.size) : (listed.setIfInBounds i true).getD i false = true := by
  simp [h]

section
variable {P : Program} {w0 : World} {T : Tab} {O : Orc} {G : List Addr} {g : Gv} {nt : Nat} {all : Array Oper} {env0 : Env} {h0 : Heap} {A : Nat} {vals : Vals} {F : FL} {W : WS} {L : Lds}

theorem draw_wp (hT : ∀ t d, T t = some d → TdOk P t d) (hO : Sound P O) (hG : GV G g w0)
    (hd : ∀ o ∈ all, ∀ d, o.dst = some d → d < nt) (hap : apartD all.toList = true)
    (hlen : vals.length = all.size) (hkeys : ∀ x ∈ W, x.1 < all.size) (hfkeys : ∀ f ∈ F, f.1 < all.size) (hFA : F.length = A) (hfo : FlOk h0 A F) (hch : Chain (fullH h0 A F) W) (hlate : Late all L W W)
    (hsp : ∀ j o, all[j]? = some o → Sp T O g all env0 h0 A vals F W L j o) {Q : Exit → Act → World → Prop} {ρs : List Blk} (hρs : ρs.length = h0.length)
    (hQ : ∀ ρ a w, Lq ρs ρ → SR w0 G nt ρ (valsEnv vals ++ env0) (headH (fullH h0 A F) W) a w → Q .normal a w) :
    ∀ (fuel : Nat) (ρ : List Blk) (listed : Array Bool) (a : Act) (w : World), left all.size listed ≤ fuel → Lq ρs ρ → Inv w0 G nt all env0 h0 A vals F W ρ listed a w → wpAny P .any all Q fuel listed a w := by
  -- all listed: the end
  have fin : ∀ (ρ : List Blk) (listed : Array Bool) (a : Act) (w : World), Lq ρs ρ → Inv w0 G nt all env0 h0 A vals F W ρ listed a w → (∀ j, j < all.size → listed.getD j false = true) → Q .normal a w := by
    intro ρ listed a w hLq I hall
    refine hQ ρ a w hLq ⟨?_, ?_, I.size, I.defers⟩
    · -- the slots
      have hv : ∀ (vs : Vals) (t : Nat) (x : Option SV), (t, x) ∈ valsEnv vs → some (t, x) ∈ vs := by
        intro vs
        induction vs with
        | nil => intro t x h; simp [valsEnv] at h
        | cons y r ih =>
          intro t x h
          cases y with
          | none => simp only [valsEnv] at h; exact List.mem_cons_of_mem _ (ih t x h)
          | some y =>
            simp only [valsEnv] at h
            rcases List.mem_cons.1 h with h | h
            · subst h; exact List.mem_cons_self ..
            · exact List.mem_cons_of_mem _ (ih t x h)
      have key : ∀ t v, look (valsEnv vals ++ env0) t = some v → a.tmps[t]? = some (v.conc ρ G) ∧ v.wf ρ := by
        intro t v ht
        rcases look_append ht with h | h
        · obtain ⟨j, hj, he⟩ := List.getElem_of_mem (hv vals t _ h)
          exact I.ent j t v (hall j (by omega)) (by rw [List.getElem?_eq_getElem hj, he])
        · by_cases hmem : ∃ o ∈ all.toList, o.dst = some t
          · -- it has an entry, ahead of env0
            obtain ⟨o, ho, hdst⟩ := hmem
            obtain ⟨j, hj, he⟩ := List.getElem_of_mem ho
            have hjo : all[j]? = some o := by
              have hj' : j < all.size := by simpa using hj
              rw [Array.getElem?_eq_getElem hj']; simpa using he
            obtain ⟨v', hv', _⟩ := hsp j o hjo
            rw [hdst] at hv'
            simp only [Option.map_some] at hv'
            -- look finds the first entry of t
            have : ∀ vs : Vals, some (t, v') ∈ vs → ∃ v'', look (valsEnv vs ++ env0) t = v'' ∧ (t, v'') ∈ valsEnv vs := by
              intro vs
              induction vs with
              | nil => intro h; simp at h
              | cons y r ih =>
                intro h
                cases y with
                | none =>
                  simp only [valsEnv]
                  exact ih (by simpa using h)
                | some y =>
                  simp only [valsEnv, List.cons_append]
                  obtain ⟨ty, vy⟩ := y
                  by_cases e : t = ty
                  · subst e; exact ⟨vy, by simp [look], List.mem_cons_self ..⟩
                  · have h' : some (t, v') ∈ r := by
                      rcases List.mem_cons.1 h with h | h
                      · simp at h; exact absurd h.1 e
                      · exact h
                    obtain ⟨v'', h1, h2⟩ := ih h'
                    exact ⟨v'', by simp only [look]; rw [if_neg e]; exact h1, List.mem_cons_of_mem _ h2⟩
            obtain ⟨v'', h1, h2⟩ := this vals (List.mem_of_getElem? hv')
            rw [ht] at h1
            subst h1
            obtain ⟨j2, hj2, he2⟩ := List.getElem_of_mem (hv vals t _ h2)
            exact I.ent j2 t v (hall j2 (by omega)) (by rw [List.getElem?_eq_getElem hj2, he2])
          · have hb : look (dstsOf all.toList ++ env0) t = some v := by
              rw [look_append_no]
              · exact h
              · intro v' hv'
                exact hmem (dstsOf_mem hv')
            exact ⟨I.base.at_ t v hb, I.base.wf t v hb⟩
      exact ⟨fun t v ht => (key t v ht).1, fun t v ht => (key t v ht).2⟩
    · have := I.hr
      rw [cur_all (fun y hy => hall y.1 (hkeys y hy)), fill_congr' (q := fun _ => true) fun f hf => hall f.1 (hfkeys f hf)] at this
      exact this
  intro fuel
  induction fuel with
  | zero =>
    intro ρ listed a w hl hLq I
    have hall : ∀ j, j < all.size → listed.getD j false = true := by
      intro j hj
      have h0 : left all.size listed = 0 := by omega
      unfold left at h0
      rw [List.countP_eq_zero] at h0
      have := h0 j (List.mem_range.2 hj)
      rw [← unl I.len hj]
      simpa using this
    refine ⟨?_, fin ρ listed a w hLq I hall⟩
    rw [List.eq_nil_iff_forall_not_mem]
    intro j hj
    obtain ⟨h1, o, ho, _⟩ := mem_ready.1 hj
    have hlt := (Array.getElem?_eq_some_iff.1 ho).1
    rw [unl I.len hlt, hall j hlt] at h1
    cases h1
  | succ fuel ih =>
    intro ρ listed a w hl hLq I
    refine ⟨?_, ?_⟩
    · -- nothing is ready: all have come up
      intro hr
      refine fin ρ listed a w hLq I ?_
      intro j
      induction j using Nat.strongRecOn with
      | _ j ihj =>
        intro hj
        cases hlj : listed.getD j false with
        | true => rfl
        | false =>
          exfalso
          have ho : all[j]? = some all[j] := Array.getElem?_eq_getElem hj
          obtain ⟨v, hv, hedge, _⟩ := hsp j _ ho
          have : j ∈ Region.ready .any all listed := by
            refine mem_ready.2 ⟨by rw [unl I.len hj]; exact hlj, all[j], ho, ?_⟩
            intro e he hb
            exact ihj e.on (hedge e he hb) (by have := hedge e he hb; omega)
          rw [hr] at this
          simp at this
    · intro i hi
      obtain ⟨hun, o, ho, hall⟩ := mem_ready.1 hi
      have hlt := (Array.getElem?_eq_some_iff.1 ho).1
      have hun' : listed.getD i false = false := by rw [← unl I.len hlt]; exact hun
      obtain ⟨v, hv, hedge, hcase0⟩ := hsp i o ho
      have hdo := hd o (Array.mem_of_getElem? ho)
      have hleft := left_set I.len hlt hun
      -- the slots that it reads
      have hER : ER ρ G (envD all.toList env0 vals o) a.tmps := by
        unfold envD
        refine (I.baseW ⟨i, hlt, hun'⟩).append ?_
        intro t s hs
        obtain ⟨e, he, hb, hve⟩ := mem_entries hs
        exact I.ent e.on t s (hall e (by simpa using he) hb) hve
      -- who else puts into its slot: nobody
      have hother : ∀ j d s, j ≠ i → vals[j]? = some (some (d, some s)) → o.dst ≠ some d := by
        intro j d s hji hj hod
        have hjl : j < all.size := by rw [← hlen]; exact (List.getElem?_eq_some_iff.1 hj).1
        have hjo : all[j]? = some all[j] := Array.getElem?_eq_getElem hjl
        obtain ⟨v', hv', _⟩ := hsp j _ hjo
        rw [hj] at hv'
        simp only [Option.some.injEq] at hv'
        cases hdj : all[j].dst with
        | none => rw [hdj] at hv'; simp at hv'
        | some d' =>
          rw [hdj] at hv'
          simp at hv'
          refine hji (apartD_spec hap j i all[j] o d ?_ ?_ (by rw [hdj, hv'.1]) hod)
          · simpa using hjo
          · simpa using ho
      have hwait : ∀ k, waitsFor o k = true → listed.getD k false = true := by
        intro k hk
        obtain ⟨e, he, hb⟩ := List.any_eq_true.1 hk
        simp at hb
        have := hall e (by simpa using he) hb.1
        rw [hb.2] at this
        exact this
      -- what holds behind it
      have next : ∀ (ρ1 : List Blk) (x : Value) (w' : World) (v' : Option SV), vals[i]? = some (o.dst.map (·, v')) → Le ρ ρ1 → (∀ s, v' = some s → x = s.conc ρ1 G ∧ s.wf ρ1) →
          HR w0 ρ1 (curN (fillH (fun k => (listed.setIfInBounds i true).getD k false) (base0 h0 A) F) (fun k => (listed.setIfInBounds i true).getD k false) W) w' →
          Closed (fun k => (listed.setIfInBounds i true).getD k false) W →
          (∀ f ∈ F, (listed.setIfInBounds i true).getD f.1 false = false → (blk ρ1 f.2.1).ok = false) →
          (∀ x ∈ W, (listed.setIfInBounds i true).getD x.1 false = true → ∀ f ∈ F, (listed.setIfInBounds i true).getD f.1 false = true) →
          Inv w0 G nt all env0 h0 A vals F W ρ1 (listed.setIfInBounds i true) (a.put o.dst x) w' := by
        intro ρ1 x w' v' hv' hle hval hHR hcl' hunb hfirst
        refine ⟨by simp [I.len], ?_, ?_, ?_, hHR, by rw [put_size, I.size], by rw [put_defers, I.defers], hcl', ?_, hunb, hfirst⟩
        · -- the others
          have hb0 := I.base.grow hle
          constructor
          · intro t s hs
            have hne2 := (look_masked (fun x hx => dstsOf_none hx) hs).1
            have hat := hb0.at_ t s hs
            cases hod : o.dst with
            | none => exact hat
            | some d =>
              simp only [Act.put]
              by_cases e : t = d
              · subst e
                exact absurd (mem_dstsOf ⟨o, by simpa using Array.mem_of_getElem? ho, hod⟩) (hne2 none)
              · rw [Array.getElem?_setIfInBounds_ne (Ne.symm e)]; exact hat
          · exact hb0.wf
        · rintro ⟨j, hj, hjl⟩
          have hji : j ≠ i := by
            rintro rfl
            rw [getD_set_self (by rw [I.len]; exact hj)] at hjl
            cases hjl
          rw [getD_set_ne false (Ne.symm hji)] at hjl
          have hlast : lastOf all.toList.length o = false := by
            cases hc : lastOf all.toList.length o with
            | false => rfl
            | true =>
              exfalso
              unfold lastOf at hc
              simp only [Bool.and_eq_true] at hc
              have hle2 := Nat.le_of_ble_eq_true hc.2
              have wi : waitsFor o i = false := by
                cases hw : waitsFor o i with
                | false => rfl
                | true => have := hwait i hw; rw [hun'] at this; cases this
              have wj : waitsFor o j = false := by
                cases hw : waitsFor o j with
                | false => rfl
                | true => have := hwait j hw; rw [hjl] at this; cases this
              have := cntW_two (Ne.symm hji) wi wj all.toList.length (by simpa using hlt) (by simpa using hj)
              omega
          have hb0 := (I.baseW ⟨i, hlt, hun'⟩).grow hle
          constructor
          · intro t s hs
            have hne2 := (look_masked (fun x hx => dstsW_none hx) hs).1
            have hat := hb0.at_ t s hs
            cases hod : o.dst with
            | none => exact hat
            | some d =>
              simp only [Act.put]
              by_cases e : t = d
              · subst e
                exact absurd (mem_dstsW ⟨o, by simpa using Array.mem_of_getElem? ho, hod, hlast⟩) (hne2 none)
              · rw [Array.getElem?_setIfInBounds_ne (Ne.symm e)]; exact hat
          · exact hb0.wf
        · intro j d s hj hjv
          by_cases e : j = i
          · subst e
            rw [hjv] at hv'
            simp only [Option.some.injEq] at hv'
            cases hod : o.dst with
            | none => rw [hod] at hv'; simp at hv'
            | some d' =>
              rw [hod] at hv'
              simp at hv'
              obtain ⟨rfl, rfl⟩ := hv'
              have := hval s rfl
              simp only [Act.put]
              have hds := hdo d hod
              rw [← I.size] at hds
              refine ⟨?_, this.2⟩
              simp [hds, this.1]
          · rw [getD_set_ne false (Ne.symm e)] at hj
            have hent := I.ent j d s hj hjv
            have hnd := hother j d s e hjv
            refine ⟨?_, SV.wf_mono hent.2 hle⟩
            rw [SV.conc_ext hent.2 hle]
            cases hod : o.dst with
            | none => exact hent.1
            | some d' =>
              simp only [Act.put]
              rw [Array.getElem?_setIfInBounds_ne (fun e' => hnd (by rw [hod, e']))]
              exact hent.1
        · intro j o' ho' hj k hk
          have hkl : listed.getD k false = true := by
            by_cases e : j = i
            · subst e
              rw [ho] at ho'
              obtain rfl := Option.some.inj ho'
              exact hwait k hk
            · rw [getD_set_ne false (Ne.symm e)] at hj
              exact I.ldone j o' ho' hj k hk
          by_cases e2 : k = i
          · subst e2; exact getD_set_self (by rw [I.len]; exact hlt)
          · rw [getD_set_ne false (Ne.symm e2)]; exact hkl
      have hpure : pureAt all.toList i = isPure o.op := by
        cases hp : pureAt all.toList i with
        | true =>
          obtain ⟨o', h1, h2⟩ := pureAt_get hp
          have : all[i]? = some o' := by simpa using h1
          rw [ho] at this
          obtain rfl := Option.some.inj this
          exact h2.symm
        | false =>
          cases hq : isPure o.op with
          | false => rfl
          | true =>
            exfalso
            have key : ∀ (l : List Oper) (j : Nat), l[j]? = some o → pureAt l j = true := by
              intro l
              induction l with
              | nil => intro j h; simp at h
              | cons x r ih =>
                intro j h
                cases j with
                | zero => simp at h; subst h; exact hq
                | succ j => exact ih j (by simpa using h)
            rw [key all.toList i (by simpa using ho)] at hp; cases hp
      rcases hcase0 with ⟨hgf, hvt, hniW, hnF⟩ | ⟨hgt, hcase⟩
      · -- passed over
        have hgo : Region.wanted o (yielded all a.tmps) = false := goes_ok hER hgf
        subst hvt
        unfold wpOp
        rw [ho]
        simp only []
        rw [hgo]
        simp only [Bool.false_eq_true, if_false]
        have hset : ∀ k, k ≠ i → (fun k => listed.getD k false) k = (fun k => (listed.setIfInBounds i true).getD k false) k := fun k hk => by
          simp only
          rw [getD_set_ne false (Ne.symm hk)]
        have hsame : ∀ y ∈ W, (fun k => listed.getD k false) y.1 = (fun k => (listed.setIfInBounds i true).getD k false) y.1 := fun y hy => hset y.1 (hniW y hy)
        have hfillsame : fillH (fun k => (listed.setIfInBounds i true).getD k false) (base0 h0 A) F = fillH (fun k => listed.getD k false) (base0 h0 A) F := (fill_congr' fun f hf => hset f.1 (hnF f hf)).symm
        refine ih ρ _ _ w (by omega) hLq (next ρ undef w _ hv (Lq.refl ρ).le ?_ ?_ (closed_congr hsame I.closed) ?_ ?_)
        · intro s hs
          obtain rfl := Option.some.inj hs
          exact ⟨rfl, fun x hx => by cases hx⟩
        · rw [hfillsame]
          have := cur_congr (h0 := fillH (fun k => listed.getD k false) (base0 h0 A) F) (p := fun k => listed.getD k false) (q := fun k => (listed.setIfInBounds i true).getD k false) (W := W) hsame
          rw [← this]; exact I.hr
        · intro f hf hpf
          rw [getD_set_ne false (Ne.symm (hnF f hf))] at hpf
          exact I.unb f hf hpf
        · intro x hx hpx f hf
          rw [getD_set_ne false (Ne.symm (hniW x hx))] at hpx
          have := I.first x hx hpx f hf
          rw [getD_set_ne false (Ne.symm (hnF f hf))]; exact this
      have hgo : Region.wanted o (yielded all a.tmps) = true := goes_ok hER hgt
      unfold wpOp
      rw [ho]
      simp only []
      rw [hgo]
      simp only [if_true]
      have hun' : listed.getD i false = false := by rw [← unl I.len hlt]; exact hun
      have hset : ∀ k, k ≠ i → (fun k => listed.getD k false) k = (fun k => (listed.setIfInBounds i true).getD k false) k := fun k hk => by
        simp only
        rw [getD_set_ne false (Ne.symm hk)]
      have hset1 : (fun k => (listed.setIfInBounds i true).getD k false) i = true := getD_set_self (by rw [I.len]; exact hlt)
      rcases hcase with ⟨hfree, hniW, k, cs, h', hmem, hop, hcs⟩ | ⟨hnF, ws, pre, hW, hokN, hwsk, hcase⟩
      · -- a box that is made in any order
        have hpl := (flok_place hfo).2 _ hmem
        simp only at hpl
        have hnoW : ∀ x ∈ W, listed.getD x.1 false = false := by
          intro x hx
          cases hp : listed.getD x.1 false with
          | false => rfl
          | true =>
            have := I.first x hx hp _ hmem
            rw [hun'] at this; cases this
        have hnoW' : ∀ x ∈ W, (listed.setIfInBounds i true).getD x.1 false = false := by
          intro x hx
          rw [getD_set_ne false (Ne.symm (hniW x hx))]; exact hnoW x hx
        have hcur := cur_none (h0 := fillH (fun k => listed.getD k false) (base0 h0 A) F) (p := fun k => listed.getD k false) (A := W) (W := []) hnoW
        have hcur' := cur_none (h0 := fillH (fun k => (listed.setIfInBounds i true).getD k false) (base0 h0 A) F) (p := fun k => (listed.setIfInBounds i true).getD k false) (A := W) (W := []) hnoW'
        simp only [List.append_nil, curN] at hcur hcur'
        have hHR := I.hr
        rw [hcur] at hHR
        obtain ⟨hadd, hemp⟩ := fill_add (p := fun k => listed.getD k false) (q := fun k => (listed.setIfInBounds i true).getD k false) (b := base0 h0 A) hun' hset1 hset hfo hmem
        rw [base_empty (by omega) (by omega)] at hemp
        obtain ⟨cs', x, e, he, hrun, hval⟩ := free_run (P := P) (G := G) (w := w) hT hER hfree hop
        have hlk : (h0 ++ List.replicate k ([] : List PC)).length = h0.length + k := by simp
        have hcs' : cs' = cs := by
          rw [he, List.getElem?_append_right (by rw [hlk]; exact Nat.le_refl _), hlk, Nat.sub_self] at hcs
          simpa using hcs
        subst hcs'
        have hfill := hHR.fill hemp cs' e
        rw [← hadd] at hfill
        have hil : h0.length + k < ρ.length := by
          rw [hHR.len, fill_len]; simp [base0]; omega
        have hbi : blk (ρ.set (h0.length + k) ⟨w.heap.size, cs'.length, true⟩) (h0.length + k) = ⟨w.heap.size, cs'.length, true⟩ := by simp [blk, List.getD, hil]
        have hbo : ∀ j, j ≠ h0.length + k → blk (ρ.set (h0.length + k) ⟨w.heap.size, cs'.length, true⟩) j = blk ρ j := by
          intro j hj; simp [blk, List.getD, List.getElem?_set_ne (Ne.symm hj)]
        have hunbi := I.unb _ hmem hun'
        simp only at hunbi
        refine .inl (wp_of_value hrun ?_)
        have hLq' : Lq ρs (ρ.set (h0.length + k) ⟨w.heap.size, cs'.length, true⟩) := ⟨by simp [hLq.1], fun j hj => by rw [hbo j (by omega)]; exact hLq.2 j hj⟩
        refine ih _ _ _ _ (by omega) hLq' (next _ x _ v hv ?_ ?_ ?_ ?_ ?_ ?_)
        · intro j hj
          by_cases e : j = h0.length + k
          · subst e; rw [hunbi] at hj; cases hj
          · exact hbo j e
        · exact hval _ (by rw [hlk]; exact hbi)
        · rw [hcur']; exact hfill
        · have := closed_none (p := fun k => (listed.setIfInBounds i true).getD k false) (A := W) (W := []) hnoW' trivial
          rw [List.append_nil] at this
          exact this
        · intro f hf hpf
          have hne : f.2.1 ≠ h0.length + k := by
            intro heq
            have : f = (i, h0.length + k, cs') := by
              -- two of one place
              have key : ∀ {F : FL}, FlOk h0 A F → ∀ f1 ∈ F, ∀ f2 ∈ F, f1.2.1 = f2.2.1 → f1 = f2 := by
                intro F
                induction F with
                | nil => intro _ f1 h1; cases h1
                | cons z r ihr =>
                  obtain ⟨j0, i0, c0⟩ := z
                  intro hok f1 h1 f2 h2 he
                  obtain ⟨q1, q2, q3, q4⟩ := hok
                  have hp := (flok_place q4).2
                  rcases List.mem_cons.1 h1 with rfl | h1 <;> rcases List.mem_cons.1 h2 with rfl | h2
                  · rfl
                  · have := hp _ h2; simp only at he; omega
                  · have := hp _ h1; simp only at he; omega
                  · exact ihr q4 f1 h1 f2 h2 he
              exact key hfo f hf _ hmem heq
            rw [this] at hpf
            simp only at hpf
            have h1 : (listed.setIfInBounds i true).getD i false = true := hset1
            rw [h1] at hpf; cases hpf
          rw [hbo _ hne]
          refine I.unb f hf ?_
          have hfi : f.1 ≠ i := by
            intro heq
            rw [heq] at hpf
            have h1 : (listed.setIfInBounds i true).getD i false = true := hset1
            rw [h1] at hpf; cases hpf
          rw [getD_set_ne false (Ne.symm hfi)] at hpf
          exact hpf
        · intro x hx hpx
          rw [hnoW' x hx] at hpx; cases hpx
      have hfillsame : fillH (fun k => (listed.setIfInBounds i true).getD k false) (base0 h0 A) F = fillH (fun k => listed.getD k false) (base0 h0 A) F := (fill_congr' fun f hf => hset f.1 (hnF f hf)).symm
      have hunbsame : ∀ ρ1, Lq ρ ρ1 → (∀ f ∈ F, (listed.setIfInBounds i true).getD f.1 false = false → (blk ρ1 f.2.1).ok = false) := by
        intro ρ1 hq f hf hpf
        rw [getD_set_ne false (Ne.symm (hnF f hf))] at hpf
        have h1 := I.unb f hf hpf
        have hpl := (flok_place hfo).2 f hf
        have hll : f.2.1 < ρ.length := by
          have h2 := hLq.1
          have h3 : ρ.length = (curN (fillH (fun k => listed.getD k false) (base0 h0 A) F) (fun k => listed.getD k false) W).length := I.hr.len
          have hno : ∀ x ∈ W, listed.getD x.1 false = false := by
            intro x hx
            cases hp : listed.getD x.1 false with
            | false => rfl
            | true => have := I.first x hx hp f hf; rw [hpf] at this; cases this
          have hcur := cur_none (h0 := fillH (fun k => listed.getD k false) (base0 h0 A) F) (p := fun k => listed.getD k false) (A := W) (W := []) hno
          simp only [List.append_nil, curN] at hcur
          rw [hcur, fill_len] at h3
          simp [base0] at h3
          omega
        rw [hq.2 _ hll]; exact h1
      have hbfull : (∃ x ∈ W, listed.getD x.1 false = true) → fillH (fun k => listed.getD k false) (base0 h0 A) F = fullH h0 A F := by
        rintro ⟨x, hx, hpx⟩
        exact fill_congr' fun f hf => I.first x hx hpx f hf
      have hmore : More (fillH (waitsFor o) (base0 h0 A) F) (fillH (fun k => listed.getD k false) (base0 h0 A) F) := fill_more (fun k hk => hwait k hk) hfo
      rcases hcase with ⟨htn, hpk, hLj, hop⟩ | ⟨hwh, hwF, pre', st1, h1, hpre, hpk, hop⟩
      · -- it leaves the boxes as they are
        have hni : ∀ y ∈ W, y.1 ≠ i := by
          intro y hy
          rw [hW] at hy
          rcases List.mem_append.1 hy with h | h
          · have := hpk y h; omega
          · have := hwsk y h; omega
        have hsame : ∀ y ∈ W, (fun k => listed.getD k false) y.1 = (fun k => (listed.setIfInBounds i true).getD k false) y.1 := fun y hy => hset y.1 (hni y hy)
        have hop' : doOp T O g (envD all.toList env0 vals o) (curN (fillH (fun k => listed.getD k false) (base0 h0 A) F) (fun k => listed.getD k false) W) o.op = some (v, curN (fillH (fun k => listed.getD k false) (base0 h0 A) F) (fun k => listed.getD k false) W) := by
          cases hip : isPure o.op with
          | true => exact (doOp_pure hip hop).2 _
          | false =>
            have hcl := I.closed
            rw [hW] at hcl hch hbfull
            have hpre : ∀ x ∈ pre, listed.getD x.1 false = true → ∀ b, x.2.1 = some b → otherT b (ldAt L i) = true := by
              intro x hx hpx b hb
              obtain ⟨o', h1, h2⟩ := hlate x (by rw [hW]; exact List.mem_append_left _ hx) b hb
              rcases h2 i (hpk x hx) with h3 | h3 | h3 | h3 | h3
              · have := I.ldone x.1 o' h1 hpx i h3
                rw [this] at hun'; cases hun'
              · rw [hpure, hip] at h3; cases h3
              · obtain ⟨y, hy, he⟩ := isW_mem.1 h3
                exact absurd he (hni y hy)
              · exact h3
              · obtain ⟨k, o2, h4, h5, h6⟩ := byWay_out h3
                have h7 := I.ldone x.1 o' h1 hpx k h4
                have := I.ldone k o2 (by simpa using h5) h7 i h6
                rw [this] at hun'; cases hun'
            rw [hLj] at hpre
            cases hld : ldOf (envD all.toList env0 vals o) o.op with
            | none =>
              rw [hld] at hpre hokN
              have hm := cur_more hip hmore (fun _ _ => trivial) pre ws hch hcl (fun x _ hx => hwait _ hx) hbfull hokN (by
                intro x hx hpx
                cases hst2 : x.2.1 with
                | none => rfl
                | some b =>
                  have := hpre x hx hpx b hst2
                  cases b <;> simp [otherT, otherB] at this)
              rw [hW]
              exact doOp_more htn hop hm
            | some c =>
              rw [hld] at hpre hokN
              refine doOp_load hld hop fun cs hcs hne => ?_
              rw [hW]
              refine cur_load hip hmore hne pre ws hch hcl (fun x _ hx => hwait _ hx) hbfull hokN ?_ hcs
              intro x hx hpx b hb
              have := hpre x hx hpx b hb
              cases b with
              | none => simp [otherT] at this
              | some b =>
                refine ⟨b, rfl, fun e => ?_⟩
                subst e
                simp [otherT, otherB] at this
        refine .inl (doOp_wp hT hO hG hER I.hr hop' fun ρ1 x w' hb => ?_)
        refine ih ρ1 _ _ w' (by omega) (hLq.trans hb.1) (next ρ1 x w' v hv hb.1.le hb.2.2 ?_ (closed_congr hsame I.closed) (hunbsame ρ1 hb.1) ?_)
        · rw [hfillsame]
          have := cur_congr (h0 := fillH (fun k => listed.getD k false) (base0 h0 A) F) (p := fun k => listed.getD k false) (q := fun k => (listed.setIfInBounds i true).getD k false) (W := W) hsame
          rw [← this]; exact hb.2.1
        · intro x hx hpx f hf
          rw [getD_set_ne false (Ne.symm (hni x hx))] at hpx
          have := I.first x hx hpx f hf
          rw [getD_set_ne false (Ne.symm (hnF f hf))]; exact this
      · -- it turns them
        have hWi : W = pre' ++ (i, st1, h1) :: ws := by rw [hW, hpre]; simp
        have hcl := I.closed
        rw [hWi] at hcl
        have hpn := closed_left (p := fun k => listed.getD k false) hcl hun'
        have hws : ∀ y ∈ ws, listed.getD y.1 false = true := by
          cases hwe : ws with
          | nil => intro y hy; cases hy
          | cons z r =>
            intro y hy
            rw [hwe] at hwh hcl
            have hz : listed.getD z.1 false = true := hwait z.1 (by obtain ⟨k, st, h2⟩ := z; exact hwh)
            rcases List.mem_cons.1 hy with rfl | hy
            · exact hz
            · exact (closed_right hcl).2.1 hz y hy
        have hallF : ∀ f ∈ F, listed.getD f.1 false = true := fun f hf => hwait _ (hwF f hf)
        have hb1 : fillH (fun k => listed.getD k false) (base0 h0 A) F = fullH h0 A F := fill_congr' hallF
        have hb2 : fillH (waitsFor o) (base0 h0 A) F = fullH h0 A F := fill_congr' hwF
        have hcur : curN (fillH (fun k => listed.getD k false) (base0 h0 A) F) (fun k => listed.getD k false) W = heapN (fillH (waitsFor o) (base0 h0 A) F) o ws := by
          rw [hb1, hb2, hWi, cur_none hpn, heapN_head hwh]
          simp only [curN]
          rw [if_neg (by rw [hun']; simp)]
          exact cur_all hws
        have hop' : doOp T O g (envD all.toList env0 vals o) (curN (fillH (fun k => listed.getD k false) (base0 h0 A) F) (fun k => listed.getD k false) W) o.op = some (v, h1) := by rw [hcur]; exact hop
        have hpn' : ∀ y ∈ pre', (fun k => (listed.setIfInBounds i true).getD k false) y.1 = false := by
          intro y hy
          have hne : y.1 ≠ i := by
            have := hpk y hy
            omega
          rw [← hset _ hne]
          exact hpn y hy
        have hws' : ∀ y ∈ ws, (fun k => (listed.setIfInBounds i true).getD k false) y.1 = true := by
          intro y hy
          have hne : y.1 ≠ i := by
            have := hwsk y hy
            omega
          rw [← hset _ hne]
          exact hws y hy
        refine .inl (doOp_wp hT hO hG hER I.hr hop' fun ρ1 x w' hb => ?_)
        refine ih ρ1 _ _ w' (by omega) (hLq.trans hb.1) (next ρ1 x w' v hv hb.1.le hb.2.2 ?_ ?_ (hunbsame ρ1 hb.1) ?_)
        · rw [hWi, cur_none hpn']
          simp only [curN]
          rw [if_pos (getD_set_self (by rw [I.len]; exact hlt))]
          exact hb.2.1
        · rw [hWi]
          refine closed_none hpn' ⟨fun _ => hws', ?_⟩
          have hcr := (closed_right hcl).2
          refine closed_congr (fun y hy => ?_) hcr
          have h1 := hws y hy
          have h2 := hws' y hy
          simp only at h2 ⊢
          rw [h1, h2]
        · intro x hx hpx f hf
          rw [getD_set_ne false (Ne.symm (hnF f hf))]; exact hallF f hf

theorem doDraw_wp {id : Nat} (hmix : P.follows .mixedOrders = true) (hT : ∀ t d, T t = some d → TdOk P t d) (hO : Sound P O) (hG : GV G g w0)
    (hd : ∀ o ∈ all, ∀ d, o.dst = some d → d < nt) (hap : apartD all.toList = true) {s s' : St} {ρ : List Blk} {a : Act} {w : World} (S : SR w0 G nt ρ s.env s.heap a w)
    (hs : doDraw T O g all s = some s') {Q : Exit → Act → World → Prop} (hQ : ∀ ρ' a w, Lq ρ ρ' → SR w0 G nt ρ' s'.env s'.heap a w → Q .normal a w) : (Code.region id all true).wp P Q a w := by
  refine wp_region_any hmix ?_
  unfold doDraw at hs
  split at hs
  · rename_i vals F W hde
    simp at hs; subst hs
    obtain ⟨L, _, _, h2, ⟨pre, h3, h3'⟩, ⟨fpre, h4, h4'⟩, h5, h6, h7, h8, h9⟩ := doOpsD_spec all.toList [] [] [] [] vals F W hde (by simp) (by simp) rfl (by simp) (by simp) trivial (by simp) trivial (fun x hx => by cases hx)
    rw [List.append_nil] at h3 h4
    subst h3
    subst h4
    generalize hA : frees all.toList = A at *
    have hrep : ∀ j, (Array.replicate all.size false).getD j false = false := by
      intro j
      simp only [Array.getD_eq_getD_getElem?, Array.getElem?_replicate]
      split <;> rfl
    refine draw_wp (ρs := ρ) hT hO hG hd hap h2 (fun x hx => (h3' x hx).2) (fun f hf => (h4' f hf).2) h5 h6 h7 h8 (fun j o ho => h9 j o (by simp) ho) S.hr.len hQ all.size (ρ ++ List.replicate A ⟨0, 0, false⟩) _ a _ ?_ (Lq.app _ _) ?_
    · unfold left
      exact Nat.le_trans List.countP_le_length (by simp)
    · have hno : ∀ b : Heap, fillH (fun k => (Array.replicate all.size false).getD k false) b F = b := by
        intro b
        clear h4' h5 h6 h7 h8 h9 hde hQ
        induction F with
        | nil => rfl
        | cons f r ih => obtain ⟨j, i, cs⟩ := f; simp only [fillH]; rw [if_neg (by rw [hrep]; simp)]; exact ih
      have hS := S.er.grow (Lq.app ρ (List.replicate A ⟨0, 0, false⟩)).le
      refine ⟨by simp, ?_, ?_, ?_, ?_, S.size, S.defers, ?_, ?_, ?_, ?_⟩
      · constructor
        · intro t v hv
          exact hS.at_ t v (look_masked (fun x hx => dstsOf_none hx) hv).2
        · intro t v hv
          exact hS.wf t v (look_masked (fun x hx => dstsOf_none hx) hv).2
      · intro _
        constructor
        · intro t v hv
          exact hS.at_ t v (look_masked (fun x hx => dstsW_none hx) hv).2
        · intro t v hv
          exact hS.wf t v (look_masked (fun x hx => dstsW_none hx) hv).2
      · intro j d v hj
        rw [hrep] at hj; cases hj
      · have hc : curN (base0 s.heap A) (fun k => (Array.replicate all.size false).getD k false) W = base0 s.heap A := by
          have := cur_none (h0 := base0 s.heap A) (p := fun k => (Array.replicate all.size false).getD k false) (A := W) (W := []) (fun y _ => hrep _)
          rw [List.append_nil] at this
          exact this
        rw [hno, hc]
        refine HR.drew ⟨by simp [base0, S.hr.len], ?_, ?_, S.hr.below⟩
        · intro i cs hi hne
          unfold base0 at hi
          by_cases hlt : i < s.heap.length
          · rw [List.getElem?_append_left hlt] at hi
            rw [blk_left (by rw [S.hr.len]; exact hlt)]
            exact S.hr.cell i cs hi hne
          · rw [List.getElem?_append_right (by omega), List.getElem?_replicate] at hi
            split at hi
            · simp at hi; exact absurd hi hne
            · cases hi
        · intro i j ci cj hij hi hj hni hnj
          have key : ∀ (m : Nat) (cm : List PC), (base0 s.heap A)[m]? = some cm → cm ≠ [] → s.heap[m]? = some cm ∧ blk (ρ ++ List.replicate A ⟨0, 0, false⟩) m = blk ρ m := by
            intro m cm hm hn
            unfold base0 at hm
            by_cases hlt : m < s.heap.length
            · rw [List.getElem?_append_left hlt] at hm
              exact ⟨hm, blk_left (by rw [S.hr.len]; exact hlt)⟩
            · rw [List.getElem?_append_right (by omega), List.getElem?_replicate] at hm
              split at hm
              · simp at hm; exact absurd hm hn
              · cases hm
          obtain ⟨k1, k2⟩ := key i ci hi hni
          obtain ⟨k3, k4⟩ := key j cj hj hnj
          rw [k2, k4]
          exact S.hr.apart i j ci cj hij k1 k3 hni hnj
      · have := closed_none (p := fun k => (Array.replicate all.size false).getD k false) (A := W) (W := []) (fun y _ => hrep _) trivial
        rw [List.append_nil] at this
        exact this
      · intro j o' _ hl
        rw [hrep] at hl; cases hl
      · intro f hf _
        have hpl := (flok_place h6).2 f hf
        have : blk (ρ ++ List.replicate A ⟨0, 0, false⟩) f.2.1 = ⟨0, 0, false⟩ := by
          unfold blk
          rw [List.getD_eq_getElem?_getD, List.getElem?_append_right (by rw [S.hr.len]; omega), List.getElem?_replicate]
          split <;> rfl
        rw [this]
      · intro x hx hl
        rw [hrep] at hl; cases hl
  · cases hs
end
end Go.Proofs.YtcnapkdccjibpaaGreatDoor.Eng
