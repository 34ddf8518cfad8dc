/- Regions: one whose order stands, and one that draws its order. -/
import Derived.Test.YtcnapkdccjibpaaGreatDoorEng5
namespace Go.Proofs.YtcnapkdccjibpaaGreatDoor.Eng
open Go Go.RowKit
set_option linter.unusedVariables false
set_option linter.unusedSimpArgs false

section
variable {P : Program} {w0 : World}

/-- The state told stands in the machine. -/
structure SR (w0 : World) (G : List Addr) (nt : Nat) (ρ : List Blk) (env : Env) (h : Heap) (a : Act) (w : World) : Prop where
  er : ER ρ G env a.tmps
  hr : HR w0 ρ h w
  size : a.tmps.size = nt
  defers : a.defers = []

theorem goes_ok {G : List Addr} {ρ : List Blk} {env : Env} {tmps : Array Value} (hE : ER ρ G env tmps) {ops : Array Oper} {o : Oper} {b : Bool} (hg : goes env ops o = some b) :
    Region.wanted o (yielded ops tmps) = b := by
  unfold goes at hg
  unfold Region.wanted
  split at hg
  · rename_i h0
    simp at hg; subst hg
    simp [h0]
  · rename_i j want h0
    split at hg
    · rename_i d hd
      split at hg
      · rename_i t ht
        simp at hg; subst hg
        have := hE.at_ d _ ht
        simp only [h0]
        have hy : yielded ops tmps j = some t := by
          unfold yielded
          rw [hd]
          simp [this, SV.conc, AV.conc, Cl.conc, PC.conc]
        rw [hy]
        simp
      · rename_i ht
        simp at hg; subst hg
        have := hE.at_ d _ ht
        simp only [h0]
        have hy : yielded ops tmps j = none := by
          unfold yielded
          rw [hd]
          simp [this, SV.conc]
        rw [hy]
        simp
      · cases hg
    · cases hg

theorem put_step {G : List Addr} {nt : Nat} {ρ ρ' : List Blk} {env : Env} {h h' : Heap} {a : Act} {w w' : World} (S : SR w0 G nt ρ env h a w) {o : Oper} (ho : ∀ d, o.dst = some d → d < nt) {v : Option SV} {x : Value}
    (hb : Behind w0 ρ G h' v ρ' x w') : SR w0 G nt ρ' (putE env o.dst v) h' (a.put o.dst x) w' where
  er := (S.er.grow hb.1.le).put (fun t ht => by rw [S.size]; exact ho t ht) hb.2.2
  hr := hb.2.1
  size := by rw [put_size, S.size]
  defers := by rw [put_defers, S.defers]

theorem put_undef {G : List Addr} {nt : Nat} {ρ : List Blk} {env : Env} {h : Heap} {a : Act} {w : World} (S : SR w0 G nt ρ env h a w) {o : Oper} (ho : ∀ d, o.dst = some d → d < nt) :
    SR w0 G nt ρ (putE env o.dst (some (.tup []))) h (a.put o.dst undef) w where
  er := S.er.put (fun t ht => by rw [S.size]; exact ho t ht) (fun s hs => by
    obtain rfl := Option.some.inj hs
    exact ⟨rfl, fun x hx => by cases hx⟩)
  hr := S.hr
  size := by rw [put_size, S.size]
  defers := by rw [put_defers, S.defers]

theorem doOps_wp {T : Tab} {O : Orc} {G : List Addr} {g : Gv} {nt : Nat} (hT : ∀ t d, T t = some d → TdOk P t d) (hO : Sound P O) (hG : GV G g w0)
    {all : Array Oper} (hd : ∀ o ∈ all, ∀ d, o.dst = some d → d < nt) {Q : Exit → Act → World → Prop} :
    ∀ (l : List Oper) (k : Nat), all.toList.drop k = l → ∀ (s s' : St) (ρ : List Blk) (a : Act) (w : World), SR w0 G nt ρ s.env s.heap a w →
      doOps T O g all l s = some s' → (∀ ρ' a' w', Lq ρ ρ' → SR w0 G nt ρ' s'.env s'.heap a' w' → Q .normal a' w') →
      wpOps P all Q (List.range' k l.length) a w
  | [], k, hl, s, s', ρ, a, w, S, hs, hQ => by
    simp [doOps] at hs; subst hs
    exact hQ ρ a w (Lq.refl ρ) S
  | o :: r, k, hl, s, s', ρ, a, w, S, hs, hQ => by
    have hk : all[k]? = some o := by
      have h1 : (all.toList.drop k)[0]? = some o := by rw [hl]; rfl
      simpa using h1
    have hr : all.toList.drop (k + 1) = r := by
      rw [← List.drop_drop, hl]; rfl
    have ho := hd o (Array.mem_of_getElem? hk)
    simp only [List.length_cons, List.range'_succ, wpOps, hk]
    simp only [doOps] at hs
    split at hs
    · rename_i hg
      rw [goes_ok S.er hg]
      split at hs
      · rename_i v h' hop
        refine .inl (doOp_wp hT hO hG S.er S.hr hop fun ρ1 x w' hb => ?_)
        exact doOps_wp hT hO hG hd r (k + 1) hr _ s' ρ1 _ w' (put_step S ho hb) hs (fun ρ' a' w' hl => hQ ρ' a' w' (hb.1.trans hl))
      · cases hs
    · rename_i hg
      rw [goes_ok S.er hg]
      simp only [Bool.false_eq_true, if_false]
      exact doOps_wp hT hO hG hd r (k + 1) hr _ s' ρ _ w (put_undef S ho) hs hQ
    · cases hs

/-! ### A region that draws -/

/-- What is told of boxes stays told. -/
def More (h h' : Heap) : Prop := ∀ (i : Nat) (cs : List PC), h[i]? = some cs → cs ≠ [] → h'[i]? = some cs
theorem More.refl (h : Heap) : More h h := fun _ _ h _ => h
theorem More.trans {a b c : Heap} (h1 : More a b) (h2 : More b c) : More a c := fun i cs hi hne => h2 i cs (h1 i cs hi hne) hne
theorem More.app (h n : Heap) : More h (h ++ n) := fun i cs hi _ => by rw [List.getElem?_append_left (List.getElem?_eq_some_iff.1 hi).1]; exact hi
theorem More.fill {h : Heap} {i : Nat} {cs : List PC} (hi : (h[i]?).getD [] = []) : More h (h.set i cs) := fun j ds hj hne => by
  by_cases e : i = j
  · subst e; rw [hj] at hi; simp at hi; exact absurd hi hne
  · rw [List.getElem?_set_ne e]; exact hj

theorem loadCell_ext {h h' : Heap} {g : Gv} {q : Pt} {c : PC} (m : More h h') (hq : loadCell h g q = some c) : loadCell h' g q = some c := by
  cases q with
  | own i o =>
    simp only [loadCell, Option.bind_eq_some_iff] at hq ⊢
    obtain ⟨cs, hi, ho⟩ := hq
    exact ⟨cs, m i cs hi (ne_of_get ho), ho⟩
  | giv j => exact hq
  | abs a => exact hq

theorem trPts_ext {h h' : Heap} {g : Gv} (m : More h h') : ∀ {qs : List Pt} {acc : List PC} {x : List Pt × List PC}, trPts h g acc qs = some x → trPts h' g acc qs = some x
  | [], acc, x, hx => hx
  | q :: r, acc, x, hx => by
    simp only [trPts] at hx ⊢
    split at hx
    · rename_i c hc
      rw [loadCell_ext m hc]
      split at hx
      · rename_i qs a h2
        simp only [trPts_ext m h2]
        exact hx
      · cases hx
    · cases hx

theorem trArgs_ext {h h' : Heap} {g : Gv} (m : More h h') : ∀ {xs : List AV} {acc : List PC} {x : List AV × List PC}, trArgs h g acc xs = some x → trArgs h' g acc xs = some x
  | [], acc, x, hx => hx
  | .agg zs :: r, acc, x, hx => by
    simp only [trArgs] at hx ⊢
    split at hx
    · rename_i l a h2
      simp only [trArgs_ext m h2]; exact hx
    · cases hx
  | .c (.p z) :: r, acc, x, hx => by
    simp only [trArgs] at hx ⊢
    split at hx
    · rename_i l a h2
      simp only [trArgs_ext m h2]; exact hx
    · cases hx
  | .c (.clo f caps) :: r, acc, x, hx => by
    simp only [trArgs] at hx ⊢
    split at hx
    · rename_i qs a1 hq
      simp only [trPts_ext m hq]
      split at hx
      · rename_i l a h2
        simp only [trArgs_ext m h2]; exact hx
      · cases hx
    · cases hx
  | .c (.ptr q) :: r, acc, x, hx => by
    simp only [trArgs] at hx ⊢
    split at hx
    · rename_i qs a1 hq
      simp only [trPts_ext m hq]
      split at hx
      · rename_i l a h2
        simp only [trArgs_ext m h2]; exact hx
      · cases hx
    · cases hx
  | .c (.row i o k z) :: r, acc, x, hx => by simp [trArgs] at hx
  | .c (.emp i o) :: r, acc, x, hx => by simp [trArgs] at hx

theorem sliceF_ext {d : TD} {h h' : Heap} (m : More h h') {x r : AV} {l : Int} {hi mx : Option Int} (hs : sliceF d h x l hi mx = some r) : sliceF d h' x l hi mx = some r := by
  unfold sliceF at hs ⊢
  split at hs
  · rename_i i o n z
    split at hs
    · rename_i cs hcs
      split at hs
      · rename_i hc
        try simp only
        rw [m i cs hcs hc.2.2.2.2]
        simp only
        rw [if_pos hc]
        exact hs
      · cases hs
    · cases hs
  · exact hs
  · cases hs

theorem rowCells_more {h h' : Heap} {g : Gv} {z : Nat} {x : AV} {n : Nat} {cs : List PC} (m : More h h') (hx : rowCells z h g.m x = some (n, cs)) : rowCells z h' g.m x = some (n, cs) := by
  unfold rowCells at hx ⊢
  split at hx
  · rename_i i o n' z'
    split at hx
    · rename_i hz
      simp only [if_pos hz]
      split at hx
      · rename_i bs hb
        split at hx
        · rename_i hle
          rw [m i bs hb hle.2]
          simp only
          rw [if_pos hle]
          exact hx
        · cases hx
      · cases hx
    · cases hx
  · exact hx
  · exact hx
  · cases hx

/-- More boxes change nothing for what makes none. -/
theorem doOp_more {T : Tab} {O : Orc} {g : Gv} {env : Env} {h h' : Heap} {op : Op} {v : Option SV} (hs : touch O env op = none) (hd : doOp T O g env h op = some (v, h)) (m : More h h') :
    doOp T O g env h' op = some (v, h') := by
  cases op <;> simp only [doOp] at hd ⊢ <;> try (cases hd; done)
  case move x => split at hd <;> simp_all
  case assign x => split at hd <;> simp_all
  case pick c x y =>
    split at hd
    · split at hd <;> simp_all
    · cases hd
  case alloc t =>
    split at hd
    · split at hd <;> simp at hd
    · cases hd
  case box t x =>
    split at hd
    · split at hd <;> simp at hd
    · cases hd
  case load t x =>
    split at hd
    · rename_i i o d hx hT
      try simp only
      split at hd
      · rename_i cs hcs
        split at hd
        · rename_i ha
          split at hd
          · rename_i hle
            rw [m i cs hcs hle.2]
            simp only
            rw [if_pos ha, if_pos hle]
            simp at hd; simp [hd]
          · cases hd
        · rename_i ha
          split at hd
          · rename_i c hc
            rw [m i cs hcs (ne_of_get hc)]
            simp only
            rw [if_neg ha, hc]
            simp at hd; simp [hd]
          · cases hd
      · cases hd
    · rename_i hx hT
      try simp only
      split at hd
      · cases hd
      · rename_i ha
        rw [if_neg ha]
        split at hd
        · simp at hd; simp [hd]
        · cases hd
    · rename_i hx hT
      try simp only
      split at hd
      · rename_i ha
        rw [if_pos ha]
        split at hd
        · simp at hd; simp [hd]
        · cases hd
      · rename_i ha
        rw [if_neg ha]
        split at hd
        · simp at hd; simp [hd]
        · cases hd
    · cases hd
  case store t x y => simp [touch] at hs
  case binOp op t x y ty =>
    split at hd
    · split at hd <;> simp_all
    · cases hd
  case unOp op t x =>
    split at hd
    · split at hd <;> simp_all
    · cases hd
  case convert u t x =>
    split at hd
    · split at hd <;> simp_all
    · rename_i s du d hx hTu hTd
      split at hd
      · rename_i r h2 hr
        simp at hd; obtain ⟨rfl, rfl⟩ := hd
        unfold byteF at hr
        split at hr <;> simp at hr
      · cases hd
    · rename_i b du d hni hni2 hx hTu hTd
      split at hd
      · rename_i r hr
        obtain ⟨n, cs, hrc, _, _, _⟩ := textF_out hr
        have hrc' := rowCells_more m hrc
        rw [hrc] at hr
        simp only [hrc', hr]
        simp at hd; simp [hd]
      · cases hd
    · cases hd
  case makeFunc fn first caps =>
    split at hd
    · split at hd
      · split at hd
        · split at hd <;> simp_all
        · cases hd
      · cases hd
    · cases hd
  case makeSlice t l c =>
    split at hd
    · split at hd
      · simp at hd
      · cases hd
    · cases hd
  case slice t x lo hi mx =>
    split at hd
    · try simp only
      split at hd
      · rename_i r hr
        rw [sliceF_ext m hr]
        simp at hd; simp [hd]
      · cases hd
    · cases hd
  case nilCheck x =>
    split at hd <;> simp_all
  case fieldAddr t x f =>
    split at hd
    · split at hd <;> simp_all
    · cases hd
  case field t x f =>
    split at hd
    · split at hd <;> simp_all
    · cases hd
  case indexAddr t x ix =>
    split at hd
    · split at hd <;> simp_all
    · split at hd <;> simp_all
    · cases hd
  case index t x ix =>
    split at hd
    · split at hd
      · split at hd <;> simp_all
      · cases hd
    · split at hd
      · split at hd <;> simp_all
      · cases hd
    · cases hd
  case build t parts =>
    split at hd
    · split at hd
      · split at hd <;> simp_all
      · cases hd
    · cases hd
  case buildSlice t k parts =>
    split at hd
    · split at hd
      · split at hd <;> simp at hd
      · cases hd
    · cases hd
  case extract x j =>
    split at hd
    · split at hd <;> simp_all
    · cases hd
  case call c =>
    split at hd
    · rename_i f hf
      split at hd
      · rename_i fa hfa
        split at hd
        · rename_i k caps args hk ha
          have hm0 : O.m k = none := by
            obtain ⟨cal, l, ts⟩ := c
            simp only at hf
            subst hf
            simp only [touch, hfa, touchC, hk] at hs
            cases hq : O.m k with
            | none => rfl
            | some M => rw [hq] at hs; simp at hs
          split at hd
          · rename_i r h2 hc
            simp at hd; obtain ⟨rfl, rfl⟩ := hd
            have : callF O h' g k (args ++ caps.map fun q => AV.c (.ptr q)) = some (r, h') := by
              unfold callF at hc ⊢
              rw [hm0] at hc ⊢
              simp only at hc ⊢
              split at hc
              · rename_i l g' ht
                simp only [trArgs_ext m ht]
                split at hc
                · rename_i pre r' new hO1
                  split at hc
                  · rename_i hpre
                    rw [if_pos hpre]
                    cases new with
                    | nil => simp [grow] at hc ⊢; exact hc
                    | cons b bs => simp [grow] at hc
                  · cases hc
                · cases hc
              · cases hc
            simp only [hk, ha, this]
          · cases hd
        · cases hd
      · cases hd
    · split at hd
      · split at hd <;> simp_all
      · cases hd
    · rename_i hcal
      obtain ⟨cal, l, ts⟩ := c
      simp only at hcal
      subst hcal
      simp [touch] at hs
    · split at hd
      · split at hd <;> simp_all
      · cases hd
    · cases hd

/-- A load reads one box. -/
theorem doOp_load {T : Tab} {O : Orc} {g : Gv} {env : Env} {h h1 : Heap} {op : Op} {v : Option SV} {c : Nat} (hl : ldOf env op = some c) (hd : doOp T O g env h op = some (v, h))
    (hc : ∀ cs, h[c]? = some cs → cs ≠ [] → h1[c]? = some cs) : doOp T O g env h1 op = some (v, h1) := by
  cases op <;> simp only [ldOf] at hl <;> try (cases hl; done)
  rename_i t x
  simp only [doOp] at hd ⊢
  split at hd
  · rename_i i o d hx hT
    rw [hx] at hl
    simp [boxOf] at hl
    subst hl
    split at hd
    · rename_i cs hcs
      split at hd
      · rename_i ha
        split at hd
        · rename_i hle
          rw [hc cs hcs hle.2]
          simp only
          rw [if_pos ha, if_pos hle]; simp at hd; rw [hd]
        · cases hd
      · rename_i ha
        split at hd
        · rename_i c1 hc1
          rw [hc cs hcs (ne_of_get hc1)]
          simp only
          rw [if_neg ha, hc1]
          simp at hd; simp [hd]
        · cases hd
    · cases hd
  · rename_i j d hx hT
    rw [hx] at hl
    simp [boxOf] at hl
  · rename_i j d hx hT
    rw [hx] at hl
    simp [boxOf] at hl
  · cases hd

theorem doOp_len {T : Tab} {O : Orc} {g : Gv} {env : Env} {h h' : Heap} {op : Op} {v : Option SV} (hs : touch O env op = none) (hd : doOp T O g env h op = some (v, h')) :
    ∃ n, h' = h ++ n := by
  cases op <;> simp only [doOp] at hd <;> try (cases hd; done)
  case alloc t =>
    split at hd
    · split at hd <;> simp at hd; exact ⟨_, hd.2.symm⟩
    · cases hd
  case box t x =>
    split at hd
    · split at hd <;> simp at hd; exact ⟨_, hd.2.symm⟩
    · cases hd
  case store t x y => simp [touch] at hs
  case buildSlice t k parts =>
    split at hd
    · split at hd
      · split at hd <;> simp at hd; exact ⟨_, hd.2.symm⟩
      · cases hd
    · cases hd
  case makeSlice t l c =>
    split at hd
    · split at hd <;> simp at hd; exact ⟨_, hd.2.symm⟩
    · cases hd
  case convert u t x =>
    split at hd
    · split at hd <;> simp at hd; exact ⟨[], by simp [hd.2]⟩
    · rename_i s du d hx hTu hTd
      split at hd
      · rename_i r h2 hr
        simp at hd; obtain ⟨rfl, rfl⟩ := hd
        unfold byteF at hr
        split at hr
        · simp at hr; exact ⟨_, hr.2.symm⟩
        · cases hr
      · cases hd
    · split at hd <;> simp at hd; exact ⟨[], by simp [hd.2]⟩
    · cases hd
  case call c =>
    split at hd
    · rename_i f hf
      split at hd
      · rename_i fa hfa
        split at hd
        · rename_i k caps args hk ha
          have hm0 : O.m k = none := by
            obtain ⟨cal, l, ts⟩ := c
            simp only at hf
            subst hf
            simp only [touch, hfa, touchC, hk] at hs
            cases hq : O.m k with
            | none => rfl
            | some M => rw [hq] at hs; simp at hs
          split at hd
          · rename_i r h2 hc
            simp at hd; obtain ⟨rfl, rfl⟩ := hd
            unfold callF at hc
            rw [hm0] at hc
            simp only at hc
            split at hc
            · split at hc
              · rename_i pre r' new hO1
                split at hc
                · cases new with
                  | nil => simp [grow] at hc; exact ⟨[], by simp [hc.2]⟩
                  | cons b bs => simp [grow] at hc; exact ⟨_, hc.2.symm⟩
                · cases hc
              · cases hc
            · cases hc
          · cases hd
        · cases hd
      · cases hd
    · split at hd
      · split at hd <;> simp at hd; exact ⟨[], by simp [hd.2]⟩
      · cases hd
    · rename_i hcal
      obtain ⟨cal, l, ts⟩ := c
      simp only at hcal
      subst hcal
      simp [touch] at hs
    · split at hd
      · split at hd <;> simp at hd; exact ⟨[], by simp [hd.2]⟩
      · cases hd
    · cases hd
  all_goals
    refine ⟨[], ?_⟩
    rw [List.append_nil]
    (repeat' split at hd) <;> first | (cases hd; done) | (simp at hd; exact hd.2.symm)

/-- What makes a box out of values alone: what the machine does, wherever the box comes to stand. -/
theorem free_run {T : Tab} {O : Orc} {G : List Addr} {g : Gv} (hT : ∀ t d, T t = some d → TdOk P t d) {ρ : List Blk} {env : Env} {h h' : Heap} {a : Act} {w : World} (hE : ER ρ G env a.tmps) {o : Oper} {v : Option SV}
    (hf : isFree o = true) (hd : doOp T O g env h o.op = some (v, h')) :
    ∃ cs x e, h' = h ++ [cs] ∧ (execOp a.eval o).run P w = .ok (.value x) (w.alloc (.cells (cs.map PC.conc).toArray e)) ∧
      ∀ ρ', blk ρ' h.length = ⟨w.heap.size, cs.length, true⟩ → ∀ s, v = some s → x = s.conc ρ' G ∧ s.wf ρ' := by
  have hptr : ∀ {cs : List PC} (ρ' : List Blk), blk ρ' h.length = ⟨w.heap.size, cs.length, true⟩ → (.pointer (some ⟨w.heap.size, 0, none⟩) : Value) = SV.conc ρ' G (.v (.c (.ptr (.own h.length 0)))) ∧ SV.wf ρ' (.v (.c (.ptr (.own h.length 0)))) := by
    intro cs ρ' hb
    constructor
    · simp only [SV.conc, AV.conc, Cl.conc, Pt.conc, Pt.addr]
      rw [hb]
    · show (blk ρ' h.length).ok = true
      rw [hb]
  cases hop : o.op <;> simp only [hop, doOp] at hd <;> first | (cases hd; done) | (simp [isFree, isNew, hop] at hf; done) | skip
  case alloc t =>
    split at hd
    · rename_i d hT'
      split at hd
      · rename_i hz0
        simp at hd; obtain ⟨rfl, rfl⟩ := hd
        have hd' := hT t d hT'
        have hz := hd'.zero hz0 w
        have hcells : (if d.agg then aggOf d.zero else (d.zero.getD 0 (.bool false)).conc).cells = (d.zero.map PC.conc).toArray := by
          cases ha : d.agg with
          | true => simp [aggOf, Value.cells]
          | false =>
            have h1 := hd'.one hz0 ha
            match hz : d.zero, h1 with
            | [c], _ => simp [PC.cells_conc]
        refine ⟨d.zero, .pointer (some ⟨w.heap.size, 0, none⟩), t, rfl, ?_, fun ρ' hb s es => ?_⟩
        · simp only [execOp, hop, Instr.alloc, Sem.run_bind, hz, Result.andThen_ok, newVar, newRow, hcells, run_newObj, Sem.run_pure]
          rfl
        · obtain rfl := Option.some.inj es
          exact hptr ρ' hb
      · cases hd
    · cases hd
  case box t x =>
    split at hd
    · rename_i b hb
      split at hd
      · rename_i cs hcs
        simp at hd; obtain ⟨rfl, rfl⟩ := hd
        have h1 := hE.opdA hb
        have hc := cellsOf_conc hcs ρ G
        refine ⟨cs, .pointer (some ⟨w.heap.size, 0, none⟩), t, rfl, ?_, fun ρ' hb s es => ?_⟩
        · simp only [execOp, hop, Instr.box, Sem.run_bind, h1.1, newVar, newRow, hc, run_newObj, Sem.run_pure, Result.andThen_ok]
          rfl
        · obtain rfl := Option.some.inj es
          exact hptr ρ' hb
      · cases hd
    · cases hd
  case buildSlice t n parts =>
    split at hd
    · rename_i d ps hTd hps
      split at hd
      · rename_i hc
        split at hd
        · rename_i cs hcs
          simp at hd; obtain ⟨rfl, rfl⟩ := hd
          have hp := partsA_ok hE hps
          have hd' := hT t d hTd
          obtain ⟨_, _, _, _, _, _, _, _, hpos, _, _⟩ := hd'.row hc.1
          have hp2 : Parts ps (parts.map fun (i, x) => (i, a.eval x)).toList := by rw [Array.toList_map]; exact hp
          obtain ⟨e, hb⟩ := buildSlice_ok hd' hc.1 hc.2 hp2 hcs w
          have hlen := fillR_len hcs
          have hl2 : cs.length = n * d.ez1.length := by rw [hlen]; simp
          refine ⟨cs, .slice (some ⟨w.heap.size, 0, none⟩) n n, e, rfl, ?_, fun ρ' hb' s es => ?_⟩
          · simp only [execOp, hop, Sem.run_bind, hb, Result.andThen_ok, Sem.run_pure]
          · obtain rfl := Option.some.inj es
            rw [hl2] at hb'
            by_cases h0 : n = 0
            · rw [if_pos h0]
              subst h0
              constructor
              · simp only [SV.conc, AV.conc, Cl.conc]
                rw [hb']
              · show (blk ρ' h.length).ok = true
                rw [hb']
            · rw [if_neg h0]
              constructor
              · simp only [SV.conc, AV.conc, Cl.conc]
                rw [hb']
                simp only [Nat.sub_zero]
                rw [Nat.mul_div_cancel n hpos]
              · show (blk ρ' h.length).ok = true
                rw [hb']
        · cases hd
      · cases hd
    · cases hd

/-- A box that said nothing, now made. -/
theorem HR.fill {ρ : List Blk} {h : Heap} {w : World} (H : HR w0 ρ h w) {i : Nat} (hi : h[i]? = some []) (cs : List PC) (e : TypeId) :
    HR w0 (ρ.set i ⟨w.heap.size, cs.length, true⟩) (h.set i cs) (w.alloc (.cells (cs.map PC.conc).toArray e)) := by
  have hil : i < ρ.length := by rw [H.len]; exact (List.getElem?_eq_some_iff.1 hi).1
  have hb : blk (ρ.set i ⟨w.heap.size, cs.length, true⟩) i = ⟨w.heap.size, cs.length, true⟩ := by simp [blk, List.getD, hil]
  have hne : ∀ j, i ≠ j → blk (ρ.set i ⟨w.heap.size, cs.length, true⟩) j = blk ρ j := by
    intro j hj; simp [blk, List.getD, List.getElem?_set_ne hj]
  have hils : i < h.length := by rw [← H.len]; exact hil
  refine ⟨by simp [H.len], ?_, ?_, H.below.alloc H.below.size _⟩
  · intro j ds hj hd
    by_cases eij : i = j
    · subst eij
      simp [hils] at hj
      subst hj
      rw [hb]
      refine ⟨rfl, H.below.size, ⟨e, (0, 0), .inl rfl⟩, [], ?_, by simp⟩
      show (w.heap.push _)[w.heap.size]? = _
      simp
    · rw [List.getElem?_set_ne eij] at hj
      rw [hne j eij]
      obtain ⟨h1, h2, e', ex', he, hk⟩ := H.cell j ds hj hd
      refine ⟨h1, h2, e', ex', ?_, hk⟩
      rw [Below.heap_alloc _ _ _ (H.lt hj hd).1]
      exact he
  · intro j k cj ck hjk hj hk hnj hnk
    by_cases e1 : i = j
    · subst e1
      rw [hb, hne k hjk]
      rw [List.getElem?_set_ne hjk] at hk
      exact Ne.symm (Nat.ne_of_lt (H.lt hk hnk).1)
    · rw [List.getElem?_set_ne e1] at hj
      rw [hne j e1]
      by_cases e2 : i = k
      · subst e2
        rw [hb]
        exact Nat.ne_of_lt (H.lt hj hnj).1
      · rw [List.getElem?_set_ne e2] at hk
        rw [hne k e2]
        exact H.apart j k cj ck hjk hj hk hnj hnk

end
end Go.Proofs.YtcnapkdccjibpaaGreatDoor.Eng
