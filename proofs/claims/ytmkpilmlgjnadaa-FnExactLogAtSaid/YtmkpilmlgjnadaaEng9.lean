/- A region that draws its order: whatever order, what the evaluator says holds: the theorem. -/
import Derived.Test.YtmkpilmlgjnadaaEng8
namespace Go.Proofs.Ytmkpilmlgjnadaa.Eng
open Go Go.RowKit
set_option linter.unusedVariables false
set_option linter.unnecessarySimpa false
set_option linter.unusedSimpArgs false

/-- The boxes as they stand while the order is drawn, ahead of the store. -/
def midHeap (h0 : Heap) (m : Option (Nat × Heap)) (listed : Array Bool) : Heap :=
  match m with
  | some (k, h1) => if listed.getD k false = true then h1 else h0
  | none => h0

def curHeap (h0 : Heap) (m : Option (Nat × Heap)) (hE : Option (Nat × Heap)) (listed : Array Bool) : Heap :=
  match hE with
  | some (s, hf) => if listed.getD s false = true then hf else midHeap h0 m listed
  | none => midHeap h0 m listed

structure Inv (w0 : World) (G : List Addr) (nt : Nat) (all : Array Oper) (env0 : Env) (h0 : Heap) (vals : Vals) (m : Option (Nat × Heap)) (hE : Option (Nat × Heap)) (ρ : List Nat) (listed : Array Bool) (a : Act) (w : World) : Prop where
  len : listed.size = all.size
  base : ER ρ G (dstsOf all.toList ++ env0) a.tmps
  ent : ∀ j d v, listed.getD j false = true → vals[j]? = some (some (d, some v)) → a.tmps[d]? = some (v.conc ρ G) ∧ v.wf ρ.length
  hr : HR w0 ρ (curHeap h0 m hE listed) w
  size : a.tmps.size = nt
  defers : a.defers = []
  last : ∀ s hf, hE = some (s, hf) → listed.getD s false = true → ∀ j, j < s → listed.getD j false = true ∨ pureAt all.toList j = true

theorem unl {listed : Array Bool} {i n : Nat} (hl : listed.size = n) (hi : i < n) : listed.getD i true = listed.getD i false := by
  simp [show i < listed.size by omega]

theorem getD_set_self {listed : Array Bool} {i : Nat} (h : i < listed.size) : (listed.setIfInBounds i true).getD i false = true := by
  simp [h]

section
variable {P : Program} {w0 : World} {T : Tab} {O : Orc} {G : List Addr} {g : List PC} {nt : Nat} {all : Array Oper} {env0 : Env} {h0 : Heap} {vals : Vals} {m : Option (Nat × Heap)} {hE : Option (Nat × Heap)}

theorem curHeap_other {listed : Array Bool} {i : Nat} (h1 : ∀ k h, m = some (k, h) → k ≠ i) (h2 : ∀ s hf, hE = some (s, hf) → s ≠ i) :
    curHeap h0 m hE (listed.setIfInBounds i true) = curHeap h0 m hE listed := by
  have hm : midHeap h0 m (listed.setIfInBounds i true) = midHeap h0 m listed := by
    unfold midHeap
    cases m with
    | none => rfl
    | some x => simp only []; rw [getD_set_ne false (Ne.symm (h1 x.1 x.2 rfl))]
  unfold curHeap
  cases hE with
  | none => exact hm
  | some x => obtain ⟨s, hf⟩ := x; simp only []; rw [getD_set_ne false (Ne.symm (h2 s hf rfl)), hm]

theorem draw_wp (hT : ∀ t d, T t = some d → TdOk P t d) (hO : Sound P O) (hG : GR G g w0)
    (hd : ∀ o ∈ all, ∀ d, o.dst = some d → d < nt) (hap : apartD all.toList = true)
    (hlen : vals.length = all.size) (hm : ∀ k h1, m = some (k, h1) → k < all.size) (hne : ∀ s hf, hE = some (s, hf) → s < all.size)
    (hsp : ∀ j o, all[j]? = some o → Sp T O g all env0 h0 vals m hE j o) {Q : Exit → Act → World → Prop}
    (hQ : ∀ ρ a w, SR w0 G nt ρ (valsEnv vals ++ env0) (endHeap h0 m hE) a w → Q .normal a w) :
    ∀ (fuel : Nat) (ρ : List Nat) (listed : Array Bool) (a : Act) (w : World), left all.size listed ≤ fuel → Inv w0 G nt all env0 h0 vals m hE ρ listed a w → wpAny P .any all Q fuel listed a w := by
  -- all listed: the end
  have fin : ∀ (ρ : List Nat) (listed : Array Bool) (a : Act) (w : World), Inv w0 G nt all env0 h0 vals m hE ρ listed a w → (∀ j, j < all.size → listed.getD j false = true) → Q .normal a w := by
    intro ρ listed a w I hall
    refine hQ ρ a w ⟨?_, ?_, I.size, I.defers⟩
    · -- the slots
      have hv : ∀ (vs : Vals) (t : Nat) (x : Option SV), (t, x) ∈ valsEnv vs → some (t, x) ∈ vs := by
        intro vs
        induction vs with
        | nil => intro t x h; simp [valsEnv] at h
        | cons y r ih =>
          intro t x h
          cases y with
          | none => simp only [valsEnv] at h; exact List.mem_cons_of_mem _ (ih t x h)
          | some y =>
            simp only [valsEnv] at h
            rcases List.mem_cons.1 h with h | h
            · subst h; exact List.mem_cons_self ..
            · exact List.mem_cons_of_mem _ (ih t x h)
      have key : ∀ t v, look (valsEnv vals ++ env0) t = some v → a.tmps[t]? = some (v.conc ρ G) ∧ v.wf ρ.length := by
        intro t v ht
        rcases look_append ht with h | h
        · obtain ⟨j, hj, he⟩ := List.getElem_of_mem (hv vals t _ h)
          exact I.ent j t v (hall j (by omega)) (by rw [List.getElem?_eq_getElem hj, he])
        · by_cases hmem : ∃ o ∈ all.toList, o.dst = some t
          · -- it has an entry, ahead of env0
            obtain ⟨o, ho, hdst⟩ := hmem
            obtain ⟨j, hj, he⟩ := List.getElem_of_mem ho
            have hjo : all[j]? = some o := by
              have hj' : j < all.size := by simpa using hj
              rw [Array.getElem?_eq_getElem hj']; simpa using he
            obtain ⟨v', hv', _⟩ := hsp j o hjo
            rw [hdst] at hv'
            simp only [Option.map_some] at hv'
            -- look finds the first entry of t
            have : ∀ vs : Vals, some (t, v') ∈ vs → ∃ v'', look (valsEnv vs ++ env0) t = v'' ∧ (t, v'') ∈ valsEnv vs := by
              intro vs
              induction vs with
              | nil => intro h; simp at h
              | cons y r ih =>
                intro h
                cases y with
                | none =>
                  simp only [valsEnv]
                  exact ih (by simpa using h)
                | some y =>
                  simp only [valsEnv, List.cons_append]
                  obtain ⟨ty, vy⟩ := y
                  by_cases e : t = ty
                  · subst e; exact ⟨vy, by simp [look], List.mem_cons_self ..⟩
                  · have h' : some (t, v') ∈ r := by
                      rcases List.mem_cons.1 h with h | h
                      · simp at h; exact absurd h.1 e
                      · exact h
                    obtain ⟨v'', h1, h2⟩ := ih h'
                    exact ⟨v'', by simp only [look]; rw [if_neg e]; exact h1, List.mem_cons_of_mem _ h2⟩
            obtain ⟨v'', h1, h2⟩ := this vals (List.mem_of_getElem? hv')
            rw [ht] at h1
            subst h1
            obtain ⟨j2, hj2, he2⟩ := List.getElem_of_mem (hv vals t _ h2)
            exact I.ent j2 t v (hall j2 (by omega)) (by rw [List.getElem?_eq_getElem hj2, he2])
          · have hb : look (dstsOf all.toList ++ env0) t = some v := by
              rw [look_append_no]
              · exact h
              · intro v' hv'
                exact hmem (dstsOf_mem hv')
            exact ⟨I.base.at_ t v hb, I.base.wf t v hb⟩
      exact ⟨fun t v ht => (key t v ht).1, fun t v ht => (key t v ht).2⟩
    · have := I.hr
      have hc : curHeap h0 m hE listed = endHeap h0 m hE := by
        unfold curHeap endHeap midHeap
        cases hhE : hE with
        | none =>
          cases hmm : m with
          | none => rfl
          | some x => simp only []; rw [if_pos (hall x.1 (hm x.1 x.2 hmm))]
        | some x =>
          obtain ⟨s, hf⟩ := x
          simp only []
          rw [if_pos (hall _ (hne s hf hhE))]
      rw [hc] at this
      exact this
  intro fuel
  induction fuel with
  | zero =>
    intro ρ listed a w hl I
    have hall : ∀ j, j < all.size → listed.getD j false = true := by
      intro j hj
      have h0 : left all.size listed = 0 := by omega
      unfold left at h0
      rw [List.countP_eq_zero] at h0
      have := h0 j (List.mem_range.2 hj)
      rw [← unl I.len hj]
      simpa using this
    refine ⟨?_, fin ρ listed a w I hall⟩
    rw [List.eq_nil_iff_forall_not_mem]
    intro j hj
    obtain ⟨h1, o, ho, _⟩ := mem_ready.1 hj
    have hlt := (Array.getElem?_eq_some_iff.1 ho).1
    rw [unl I.len hlt, hall j hlt] at h1
    cases h1
  | succ fuel ih =>
    intro ρ listed a w hl I
    refine ⟨?_, ?_⟩
    · -- nothing is ready: all have come up
      intro hr
      refine fin ρ listed a w I ?_
      intro j
      induction j using Nat.strongRecOn with
      | _ j ihj =>
        intro hj
        cases hlj : listed.getD j false with
        | true => rfl
        | false =>
          exfalso
          have ho : all[j]? = some all[j] := Array.getElem?_eq_getElem hj
          obtain ⟨v, hv, hedge, _⟩ := hsp j _ ho
          have : j ∈ Region.ready .any all listed := by
            refine mem_ready.2 ⟨by rw [unl I.len hj]; exact hlj, all[j], ho, ?_⟩
            intro e he hb
            exact ihj e.on (hedge e he hb) (by have := hedge e he hb; omega)
          rw [hr] at this
          simp at this
    · intro i hi
      obtain ⟨hun, o, ho, hall⟩ := mem_ready.1 hi
      have hlt := (Array.getElem?_eq_some_iff.1 ho).1
      have hun' : listed.getD i false = false := by rw [← unl I.len hlt]; exact hun
      obtain ⟨v, hv, hedge, hcase⟩ := hsp i o ho
      have hdo := hd o (Array.mem_of_getElem? ho)
      have hleft := left_set I.len hlt hun
      -- the slots that it reads
      have hER : ER ρ G (envD all.toList env0 vals o) a.tmps := by
        unfold envD
        refine I.base.append ?_
        intro t s hs
        obtain ⟨e, he, hb, hve⟩ := mem_entries hs
        exact I.ent e.on t s (hall e (by simpa using he) hb) hve
      -- who else puts into its slot: nobody
      have hother : ∀ j d s, j ≠ i → vals[j]? = some (some (d, some s)) → o.dst ≠ some d := by
        intro j d s hji hj hod
        have hjl : j < all.size := by rw [← hlen]; exact (List.getElem?_eq_some_iff.1 hj).1
        have hjo : all[j]? = some all[j] := Array.getElem?_eq_getElem hjl
        obtain ⟨v', hv', _⟩ := hsp j _ hjo
        rw [hj] at hv'
        simp only [Option.some.injEq] at hv'
        cases hdj : all[j].dst with
        | none => rw [hdj] at hv'; simp at hv'
        | some d' =>
          rw [hdj] at hv'
          simp at hv'
          refine hji (apartD_spec hap j i all[j] o d ?_ ?_ (by rw [hdj, hv'.1]) hod)
          · simpa using hjo
          · simpa using ho
      -- what holds behind it
      have next : ∀ (σ : List Nat) (x : Value) (w' : World) (h' : Heap) (v' : Option SV), vals[i]? = some (o.dst.map (·, v')) → Behind w0 ρ G h' v' σ x w' → h' = curHeap h0 m hE (listed.setIfInBounds i true) →
          (∀ s hf, hE = some (s, hf) → i = s → ∀ j, j < s → listed.getD j false = true ∨ pureAt all.toList j = true) →
          Inv w0 G nt all env0 h0 vals m hE (ρ ++ σ) (listed.setIfInBounds i true) (a.put o.dst x) w' := by
        intro σ x w' h' v' hv' hb hh' hlast
        refine ⟨by simp [I.len], ?_, ?_, by rw [← hh']; exact hb.1, by rw [put_size, I.size], by rw [put_defers, I.defers], ?_⟩
        · -- the others
          have hb0 := I.base.grow (σ := σ)
          constructor
          · intro t s hs
            have hne2 := (look_masked (fun x hx => dstsOf_none hx) hs).1
            have hat := hb0.at_ t s hs
            cases hod : o.dst with
            | none => exact hat
            | some d =>
              simp only [Act.put]
              by_cases e : t = d
              · subst e
                exact absurd (mem_dstsOf ⟨o, by simpa using Array.mem_of_getElem? ho, hod⟩) (hne2 none)
              · rw [Array.getElem?_setIfInBounds_ne (Ne.symm e)]; exact hat
          · exact hb0.wf
        · intro j d s hj hjv
          by_cases e : j = i
          · subst e
            rw [hjv] at hv'
            simp only [Option.some.injEq] at hv'
            cases hod : o.dst with
            | none => rw [hod] at hv'; simp at hv'
            | some d' =>
              rw [hod] at hv'
              simp at hv'
              obtain ⟨rfl, rfl⟩ := hv'
              have := hb.2 s rfl
              simp only [Act.put]
              have hds := hdo d hod
              rw [← I.size] at hds
              refine ⟨?_, this.2⟩
              simp [hds, this.1]
          · rw [getD_set_ne false (Ne.symm e)] at hj
            have hent := I.ent j d s hj hjv
            have hnd := hother j d s e hjv
            refine ⟨?_, SV.wf_mono hent.2 (by simp)⟩
            rw [SV.conc_ext hent.2]
            cases hod : o.dst with
            | none => exact hent.1
            | some d' =>
              simp only [Act.put]
              rw [Array.getElem?_setIfInBounds_ne (fun e' => hnd (by rw [hod, e']))]
              exact hent.1
        · intro s hf hs hl2 j hj
          by_cases e : j = i
          · subst e; exact .inl (getD_set_self (by rw [I.len]; exact hlt))
          · rw [getD_set_ne false (Ne.symm e)]
            by_cases e2 : i = s
            · exact hlast s hf hs e2 j hj
            · rw [getD_set_ne false e2] at hl2
              exact I.last s hf hs hl2 j hj
      -- the store has not come up where this one, ahead of it, hasn't
      have hcur : pureAt all.toList i = false → (∀ s hf, hE = some (s, hf) → i ≤ s) → curHeap h0 m hE listed = midHeap h0 m listed := by
        intro hnp hle
        unfold curHeap
        cases hhE : hE with
        | none => rfl
        | some x =>
          obtain ⟨s, hf⟩ := x
          simp only []
          rw [if_neg]
          intro hl3
          have h1 := hle s hf hhE
          by_cases e : i = s
          · subst e; rw [hl3] at hun'; cases hun'
          · rcases I.last s hf hhE hl3 i (by omega) with h2 | h2
            · rw [h2] at hun'; cases hun'
            · rw [h2] at hnp; cases hnp
      have hpure : pureAt all.toList i = isPure o.op := by
        cases hp : pureAt all.toList i with
        | true =>
          obtain ⟨o', h1, h2⟩ := pureAt_get hp
          have : all[i]? = some o' := by simpa using h1
          rw [ho] at this
          obtain rfl := Option.some.inj this
          exact h2.symm
        | false =>
          cases hq : isPure o.op with
          | false => rfl
          | true =>
            exfalso
            have key : ∀ (l : List Oper) (j : Nat), l[j]? = some o → pureAt l j = true := by
              intro l
              induction l with
              | nil => intro j h; simp at h
              | cons x r ih =>
                intro j h
                cases j with
                | zero => simp at h; subst h; exact hq
                | succ j => exact ih j (by simpa using h)
            rw [key all.toList i (by simpa using ho)] at hp; cases hp
      have hwait : ∀ k, waitsFor o k = true → listed.getD k false = true := by
        intro k hk
        obtain ⟨e, he, hb⟩ := List.any_eq_true.1 hk
        simp at hb
        have := hall e (by simpa using he) hb.1
        rw [hb.2] at this
        exact this
      unfold wpOp
      rw [ho]
      simp only []
      rcases hcase with ⟨hmk, hls, hgo⟩ | ⟨hg, hst, hls, h1, n, hmm, hhf, hh1, hop⟩ | ⟨hg, hmk, hw, hf, hhE, hop⟩ | ⟨hg, hmk, s0, hf, hhE, hs0, hw, hop⟩
      · have hsame : curHeap h0 m hE (listed.setIfInBounds i true) = curHeap h0 m hE listed := curHeap_other hmk (fun s hf hs e => by have := hls s hf hs; omega)
        rcases hgo with ⟨hg, rfl⟩ | ⟨hg, hst, hop⟩
        · rw [goes_ok hER hg]
          simp only [Bool.false_eq_true, if_false]
          refine ih (ρ ++ []) _ _ w (by omega) (next [] undef w _ none hv ⟨by rw [List.append_nil]; exact I.hr, fun s hs => by cases hs⟩ hsame.symm (fun s hf hs e => by have := hls s hf hs; omega))
        · rw [goes_ok hER hg]
          simp only [if_true]
          have hop' : doOp T O g (envD all.toList env0 vals o) (curHeap h0 m hE listed) o.op = some (v, curHeap h0 m hE listed) := by
            cases hip : isPure o.op with
            | true => exact (doOp_pure hip hop).2 _
            | false =>
            rw [hcur (by rw [hpure]; exact hip) (fun s hf hs => by have := hls s hf hs; omega)]
            unfold midHeap
            cases hmm : m with
            | none => rw [hmm] at hop; exact hop
            | some x =>
              obtain ⟨k, h1⟩ := x
              rw [hmm] at hop
              simp only [heapFor] at hop
              simp only []
              cases hwk : waitsFor o k with
              | true =>
                rw [hwk, if_pos rfl] at hop
                rw [if_pos (hwait k hwk)]
                exact hop
              | false =>
                rw [hwk, if_neg (by simp)] at hop
                by_cases hlk : listed.getD k false = true
                · rw [if_pos hlk]
                  -- the box is there already: more boxes change nothing
                  have hk := hm k h1 hmm
                  have hko : all[k]? = some all[k] := Array.getElem?_eq_getElem hk
                  obtain ⟨_, _, _, hc2⟩ := hsp k _ hko
                  have : ∃ n, h1 = h0 ++ n := by
                    rcases hc2 with ⟨c1, _⟩ | ⟨_, _, _, h2, n, c1, _, c2, _⟩ | ⟨_, c1, _⟩ | ⟨_, c1, _⟩
                    · exact absurd rfl (c1 k h1 hmm)
                    · rw [hmm] at c1; simp at c1; exact ⟨n, by rw [c1]; exact c2⟩
                    · exact absurd rfl (c1 k h1 hmm)
                    · exact absurd rfl (c1 k h1 hmm)
                  obtain ⟨n, hn⟩ := this
                  rw [hn]
                  exact doOp_ext hst hop
                · rw [if_neg hlk]; exact hop
          refine .inl (doOp_wp hT hO hG hER I.hr hop' fun σ x w' hb => ?_)
          exact ih (ρ ++ σ) _ _ w' (by omega) (next σ x w' _ v hv hb hsame.symm (fun s hf hs e => by have := hls s hf hs; omega))
      · rw [goes_ok hER hg]
        simp only [if_true]
        cases hip : isPure o.op with
        | true =>
          have hp2 := doOp_pure hip hop
          have hsame : curHeap h0 m hE (listed.setIfInBounds i true) = curHeap h0 m hE listed := by
            have e1 : midHeap h0 m (listed.setIfInBounds i true) = midHeap h0 m listed := by
              unfold midHeap
              rw [hmm]
              simp only []
              rw [hp2.1]
              simp
            unfold curHeap
            cases hhE : hE with
            | none => exact e1
            | some y =>
              obtain ⟨s, hf⟩ := y
              have := hls s hf hhE
              simp only []
              rw [getD_set_ne false (show i ≠ s by omega), e1]
          refine .inl (doOp_wp hT hO hG hER I.hr (hp2.2 _) fun σ x w' hb => ?_)
          exact ih (ρ ++ σ) _ _ w' (by omega) (next σ x w' _ v hv hb hsame.symm (fun s hf hs e => by have := hls s hf hs; omega))
        | false =>
        have hnl : ∀ s hf, hE = some (s, hf) → ¬ listed.getD s false = true := by
          intro s hf hhE hl3
          rcases I.last s hf hhE hl3 i (hls s hf hhE) with h2 | h2
          · rw [h2] at hun'; cases hun'
          · rw [hpure, hip] at h2; cases h2
        have hc0 : curHeap h0 m hE listed = h0 := by
          rw [hcur (by rw [hpure]; exact hip) (fun s hf hs => by have := hls s hf hs; omega), hmm]
          simp only [midHeap]
          rw [if_neg (by rw [hun']; simp)]
        have hop' : doOp T O g (envD all.toList env0 vals o) (curHeap h0 m hE listed) o.op = some (v, h1) := by rw [hc0]; exact hop
        refine .inl (doOp_wp hT hO hG hER I.hr hop' fun σ x w' hb => ?_)
        refine ih (ρ ++ σ) _ _ w' (by omega) (next σ x w' _ v hv hb ?_ (fun s hf hs e => by have := hls s hf hs; omega))
        unfold curHeap midHeap
        cases hhE : hE with
        | none => rw [hmm]; simp only []; rw [if_pos (getD_set_self (by rw [I.len]; exact hlt))]
        | some y =>
          obtain ⟨s, hf⟩ := y
          have hil := hls s hf hhE
          simp only []
          rw [getD_set_ne false (show i ≠ s by omega), if_neg, hmm]
          · simp only []
            rw [if_pos (getD_set_self (by rw [I.len]; exact hlt))]
          · exact hnl s hf hhE
      · rw [goes_ok hER hg]
        simp only [if_true]
        have hop' : doOp T O g (envD all.toList env0 vals o) (curHeap h0 m hE listed) o.op = some (v, hf) := by
          have hcur2 : curHeap h0 m hE listed = midHeap h0 m listed := by
            unfold curHeap
            rw [hhE]
            simp only []
            rw [if_neg (by rw [hun']; simp)]
          rw [hcur2]
          unfold midHeap
          cases hmm : m with
          | none => rw [hmm] at hop; exact hop
          | some x =>
            obtain ⟨k, h1⟩ := x
            rw [hmm] at hop
            have hne2 := hmk k _ hmm
            simp only [heapFor] at hop
            simp only []
            have hk := hm k h1 hmm
            have hko : all[k]? = some all[k] := Array.getElem?_eq_getElem hk
            obtain ⟨_, _, _, hc2⟩ := hsp k _ hko
            by_cases hki : k < i
            · rcases hw k hki with hwk | hpk
              · rw [hwk, if_pos rfl] at hop
                rw [if_pos (hwait k hwk)]
                exact hop
              · -- it makes no box
                obtain ⟨o2, g1, g2⟩ := pureAt_get hpk
                have : all[k]? = some o2 := by simpa using g1
                rw [hko] at this
                obtain rfl := Option.some.inj this
                have : h1 = h0 := by
                  rcases hc2 with ⟨c1, _⟩ | ⟨_, _, _, h2, n, c1, _, _, c2⟩ | ⟨_, c1, _⟩ | ⟨_, c1, _⟩
                  · exact absurd rfl (c1 k h1 hmm)
                  · rw [hmm] at c1; simp at c1; rw [c1]; exact (doOp_pure g2 c2).1
                  · exact absurd rfl (c1 k h1 hmm)
                  · exact absurd rfl (c1 k h1 hmm)
                rw [this] at hop ⊢
                simp only [ite_self] at hop ⊢
                exact hop
            · exfalso
              rcases hc2 with ⟨c1, _⟩ | ⟨_, _, c3, _⟩ | ⟨_, c1, _⟩ | ⟨_, c1, _⟩
              · exact absurd rfl (c1 k h1 hmm)
              · have := c3 i hf hhE; omega
              · exact absurd rfl (c1 k h1 hmm)
              · exact absurd rfl (c1 k h1 hmm)
        refine .inl (doOp_wp hT hO hG hER I.hr hop' fun σ x w' hb => ?_)
        refine ih (ρ ++ σ) _ _ w' (by omega) (next σ x w' _ v hv hb ?_ ?_)
        · unfold curHeap
          rw [hhE]
          simp only []
          rw [if_pos (getD_set_self (by rw [I.len]; exact hlt))]
        · intro s hf' hs e j hj
          rw [hhE] at hs
          simp at hs
          rcases hw j (by omega) with h2 | h2
          · exact .inl (hwait j h2)
          · exact .inr h2
      · rw [goes_ok hER hg]
        simp only [if_true]
        have hls0 := hwait s0 hw
        have hc0 : curHeap h0 m hE listed = hf := by
          unfold curHeap
          rw [hhE]
          simp only []
          rw [if_pos hls0]
        have hop' : doOp T O g (envD all.toList env0 vals o) (curHeap h0 m hE listed) o.op = some (v, hf) := by rw [hc0]; exact hop
        refine .inl (doOp_wp hT hO hG hER I.hr hop' fun σ x w' hb => ?_)
        refine ih (ρ ++ σ) _ _ w' (by omega) (next σ x w' _ v hv hb ?_ ?_)
        · unfold curHeap
          rw [hhE]
          simp only []
          rw [getD_set_ne false (show i ≠ s0 by omega), if_pos hls0]
        · intro s hf' hs e j hj
          rw [hhE] at hs
          simp at hs
          omega

theorem doDraw_wp {id : Nat} (hmix : P.follows .mixedOrders = true) (hT : ∀ t d, T t = some d → TdOk P t d) (hO : Sound P O) (hG : GR G g w0)
    (hd : ∀ o ∈ all, ∀ d, o.dst = some d → d < nt) (hap : apartD all.toList = true) {s s' : St} {ρ : List Nat} {a : Act} {w : World} (S : SR w0 G nt ρ s.env s.heap a w)
    (hs : doDraw T O g all s = some s') {Q : Exit → Act → World → Prop} (hQ : ∀ ρ a w, SR w0 G nt ρ s'.env s'.heap a w → Q .normal a w) : (Code.region id all true).wp P Q a w := by
  refine wp_region_any hmix ?_
  unfold doDraw at hs
  split at hs
  · rename_i vals m e hde
    simp at hs; subst hs
    obtain ⟨_, h2, _, h4, h5, h6⟩ := doOpsD_spec all.toList [] none vals m e hde (by simp) (by simp) (by simp)
    refine draw_wp hT hO hG hd hap h2 (fun k h1 hk => ?_) (fun s hf hs => (h5 s hf hs).2) (fun j o ho => h6 j o (by simp) ho) hQ all.size ρ _ a _ ?_ ?_
    · rcases h4 k h1 hk with h | h
      · cases h
      · exact h.2
    · unfold left
      exact Nat.le_trans List.countP_le_length (by simp)
    · have hrep : ∀ j, (Array.replicate all.size false).getD j false = false := by
        intro j
        simp only [Array.getD_eq_getD_getElem?, Array.getElem?_replicate]
        split <;> rfl
      refine ⟨by simp, ?_, ?_, ?_, S.size, S.defers, ?_⟩
      · constructor
        · intro t v hv
          exact S.er.at_ t v (look_masked (fun x hx => dstsOf_none hx) hv).2
        · intro t v hv
          exact S.er.wf t v (look_masked (fun x hx => dstsOf_none hx) hv).2
      · intro j d v hj
        rw [hrep] at hj; cases hj
      · have hc : curHeap s.heap m e (Array.replicate all.size false) = s.heap := by
          unfold curHeap midHeap
          cases e with
          | none => cases m with
            | none => rfl
            | some x => simp only []; rw [hrep, if_neg (by simp)]
          | some y =>
            obtain ⟨s1, hf⟩ := y
            simp only []
            rw [hrep, if_neg (by simp)]
            cases m with
            | none => rfl
            | some x => simp only []; rw [hrep, if_neg (by simp)]
        rw [hc]
        exact S.hr.drew
      · intro _ _ _ hl
        rw [hrep] at hl; cases hl
  · cases hs
end
end Go.Proofs.Ytmkpilmlgjnadaa.Eng
