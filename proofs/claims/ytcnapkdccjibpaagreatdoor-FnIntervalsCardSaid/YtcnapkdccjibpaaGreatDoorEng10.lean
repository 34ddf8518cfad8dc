/- A function's code: what is to be shown of it, and what follows. -/
import Derived.Test.YtcnapkdccjibpaaGreatDoorEng9
namespace Go.Proofs.YtcnapkdccjibpaaGreatDoor.Eng
open Go Go.RowKit
set_option linter.unusedVariables false
set_option linter.unusedSimpArgs false

inductive Ex where
  | normal
  | ret
  | exit (id : Nat)

def Ex.of : Ex → Exit
  | .normal => .normal
  | .ret => .ret
  | .exit i => .exit i

def seqK (N : St → Prop) (Q : Ex → St → Prop) (e : Ex) (s : St) : Prop := match e with
  | .normal => N s
  | .ret => Q .ret s
  | .exit i => Q (.exit i) s

def blockK (id : Nat) (Q : Ex → St → Prop) (e : Ex) (s : St) : Prop := match e with
  | .normal => Q .normal s
  | .ret => Q .ret s
  | .exit i => if i = id then Q .normal s else Q (.exit i) s

/-- Slots lie within the frame; drawn regions put into a slot once. -/
def codeOk (nt : Nat) : Code → Bool
  | .region _ ops draw => ops.toList.all (fun o => match o.dst with
    | some d => decide (d < nt)
    | none => true) && (!draw || apartD ops.toList)
  | .seq a b => codeOk nt a && codeOk nt b
  | .cond _ a b => codeOk nt a && codeOk nt b
  | .block _ body => codeOk nt body
  | .loop body => codeOk nt body
  | _ => true

def Lift (w0 : World) (ρ0 : List Blk) (G : List Addr) (nt : Nat) (Q : Ex → St → Prop) (e : Exit) (a : Act) (w : World) : Prop :=
  ∃ ex s ρ, e = ex.of ∧ Q ex s ∧ SR w0 G nt ρ s.env s.heap a w ∧ Lq ρ0 ρ

theorem dsts_ok {nt : Nat} {ops : Array Oper} (h : ops.toList.all (fun o => match o.dst with
    | some d => decide (d < nt)
    | none => true) = true) : ∀ o ∈ ops, ∀ d, o.dst = some d → d < nt := by
  intro o ho d hd
  have := List.all_eq_true.1 h o (by simpa using ho)
  rw [hd] at this
  simpa using this

section
variable {P : Program} {w0 : World} {T : Tab} {O : Orc} {G : List Addr} {g : Gv} {nt : Nat}

/-! ### Results -/

def cellV (d : TD) (o : Nat) : Option (List PC) → Option AV
  | some cs => if d.agg then (if o + d.size ≤ cs.length then some (.agg ((cs.drop o).take d.size)) else none) else match cs[o]? with
    | some c => some (.c (.p c))
    | none => none
  | none => none
def resC (h : Heap) : Option AV → Option TD → Option AV
  | some (.c (.ptr (.own i o))), some d => cellV d o h[i]?
  | _, _ => none
def resV (T : Tab) (g : Gv) (s : St) : ResultVar → Option AV
  | .tmp t => opdA s.env (.tmp t)
  | .cell a t => resC s.heap (opdA s.env (.tmp a)) (T t)

def resAll (T : Tab) (g : Gv) (s : St) : List ResultVar → Option (List AV)
  | [] => some []
  | r :: rs => match resV T g s r, resAll T g s rs with
    | some v, some l => some (v :: l)
    | _, _ => none

def resSV : List AV → SV
  | [a] => .v a
  | l => .tup l

def resRun (tmps : Array Value) : ResultVar → Sem Value
  | .tmp t => pure (tmps.getD t undef)
  | .cell x t => do loadVar t (← asAddr (tmps.getD x undef))

theorem resV_ok (hT : ∀ t d, T t = some d → TdOk P t d) {ρ : List Blk} {s : St} {a : Act} {w : World} (S : SR w0 G nt ρ s.env s.heap a w) {r : ResultVar} {v : AV} (hr : resV T g s r = some v) :
    (resRun a.tmps r).run P w = .ok (v.conc ρ G) w ∧ v.wf ρ := by
  cases r with
  | tmp t =>
    have := S.er.opdA (a := a) (x := .tmp t) hr
    simp only [resRun]
    refine ⟨?_, this.2⟩
    simp only [Sem.run_pure]
    rw [← this.1]; rfl
  | cell x t =>
    simp only [resV, resC] at hr
    simp only [resRun]
    split at hr
    · rename_i i q d hx hTd
      have h1 := S.er.opdA (a := a) (x := .tmp x) hx
      have h1' : a.tmps.getD x undef = .pointer (some ⟨(blk ρ i).b, q, none⟩) := h1.1
      have hd' := hT t d hTd
      unfold cellV at hr
      split at hr
      · rename_i cs hcs
        split at hr
        · rename_i hagg
          split at hr
          · rename_i hle
            simp at hr; subst hr
            have hl := run_loadCells_list (P := P) w ⟨(blk ρ i).b, q, none⟩ (((cs.drop q).take d.size).map PC.conc) (fun j v hv => by
              rw [add_lit]
              simp only [List.getElem?_map, Option.map_eq_some_iff] at hv
              obtain ⟨c, hc, rfl⟩ := hv
              rw [List.getElem?_take] at hc
              split at hc
              · rw [List.getElem?_drop] at hc
                exact own_cell S.hr hcs hc
              · cases hc)
            have hlen : (((cs.drop q).take d.size).map PC.conc).length = d.size := by simp; omega
            rw [hlen] at hl
            refine ⟨?_, trivial⟩
            simp only [h1', asAddr, loadVar, Sem.run_bind, Sem.run_pure, Result.andThen_ok, hd'.isAgg, hagg, if_true, hd'.sizeOf, hl, aggOf, AV.conc]
          · cases hr
        · rename_i hagg
          split at hr
          · rename_i c hc
            simp at hr; subst hr
            have hcell := own_cell S.hr hcs hc
            refine ⟨?_, trivial⟩
            simp only [h1', asAddr, loadVar, Sem.run_bind, Sem.run_pure, Result.andThen_ok, hd'.isAgg, hagg, if_false, run_load, hcell, Bool.false_eq_true]
            rfl
          · cases hr
      · cases hr
    · cases hr

theorem resAll_ok (hT : ∀ t d, T t = some d → TdOk P t d) {ρ : List Blk} {s : St} {a : Act} {w : World} (S : SR w0 G nt ρ s.env s.heap a w) : ∀ {rs : List ResultVar} {l : List AV}, resAll T g s rs = some l →
    (rs.mapM (resRun a.tmps)).run P w = .ok (l.map (AV.conc ρ G)) w ∧ ∀ v ∈ l, v.wf ρ
  | [], l, hl => by simp [resAll] at hl; subst hl; simp
  | r :: rs, l, hl => by
    simp only [resAll] at hl
    split at hl
    · rename_i v l' hv hl'
      simp at hl; subst hl
      obtain ⟨h1, h2⟩ := resV_ok hT S hv
      obtain ⟨h3, h4⟩ := resAll_ok hT S hl'
      refine ⟨?_, ?_⟩
      · rw [List.mapM_cons]
        simp only [Sem.run_bind, h1, h3, Result.andThen_ok, Sem.run_pure]
        rfl
      · intro x hx
        rcases List.mem_cons.1 hx with rfl | hx
        · exact h2
        · exact h4 x hx
    · cases hl

theorem results_ok (hT : ∀ t d, T t = some d → TdOk P t d) {ρ : List Blk} {s : St} {a : Act} {w : World} (S : SR w0 G nt ρ s.env s.heap a w) {fn : Func} {l : List AV} (hl : resAll T g s fn.results.toList = some l) :
    (results fn a.tmps).run P w = .ok ((resSV l).conc ρ G) w ∧ (resSV l).wf ρ := by
  obtain ⟨h1, h2⟩ := resAll_ok hT S hl
  constructor
  · show (do let vs ← fn.results.mapM (resRun a.tmps); pure (if h : vs.size = 1 then vs[0] else Value.tuple vs) : Sem Value).run P w = _
    rw [show fn.results = fn.results.toList.toArray by simp, List.mapM_toArray]
    simp only [Sem.run_bind, Sem.run_map]
    rw [h1]
    simp only [Result.andThen_ok, Sem.run_pure]
    match l with
    | [] => rfl
    | [x] => rfl
    | x :: y :: r => simp [resSV, SV.conc]
  · match l, h2 with
    | [], _ => exact fun x hx => by simp at hx
    | [x], h2 => exact h2 x (by simp)
    | x :: y :: r, h2 => exact h2

def startEnv : Nat → List AV → Env
  | _, [] => []
  | i, a :: r => (i, some (.v a)) :: startEnv (i + 1) r

theorem look_start : ∀ (args : List AV) (i t : Nat) (v : SV), look (startEnv i args) t = some v → ∃ j a, t = i + j ∧ args[j]? = some a ∧ v = .v a
  | [], i, t, v, h => by simp [startEnv, look] at h
  | a :: r, i, t, v, h => by
    simp only [startEnv, look] at h
    by_cases e : t = i
    · rw [if_pos e] at h
      simp at h
      exact ⟨0, a, by omega, rfl, h.symm⟩
    · rw [if_neg e] at h
      obtain ⟨j, b, h1, h2, h3⟩ := look_start r (i + 1) t v h
      exact ⟨j + 1, b, by omega, by simpa using h2, h3⟩

theorem Pt.res_wf {ρ : List Blk} {h : Heap} (ho : ∀ i, full h i → (blk ρ i).ok = true) {q : Pt} (hq : q.res h) : q.wf ρ := by cases q with
  | own i o => exact ho i hq
  | giv j => trivial
  | abs a => trivial
theorem Cl.res_wf {ρ : List Blk} {h : Heap} (ho : ∀ i, full h i → (blk ρ i).ok = true) {x : Cl} (hx : x.res h) : x.wf ρ := by cases x with
  | p x => trivial
  | ptr q => exact Pt.res_wf (q := q) ho hx
  | clo f caps => exact fun q hq => Pt.res_wf ho (hx q hq)
  | row i o n z => exact ho i hx
  | emp i o => exact ho i hx
theorem AV.res_wf {ρ : List Blk} {h : Heap} (ho : ∀ i, full h i → (blk ρ i).ok = true) {x : AV} (hx : x.res h) : x.wf ρ := by cases x with
  | c x => exact Cl.res_wf (x := x) ho hx
  | agg xs => trivial
theorem SV.res_wf {ρ : List Blk} {h : Heap} (ho : ∀ i, full h i → (blk ρ i).ok = true) {x : SV} (hx : x.res h) : x.wf ρ := by cases x with
  | v x => exact AV.res_wf (x := x) ho hx
  | tup xs => exact fun q hq => AV.res_wf ho (hx q hq)

theorem HR.take {ρ : List Blk} {h : Heap} {w : World} (H : HR w0 ρ h w) (n : Nat) : HR w0 (ρ.take n) (h.take n) w := by
  have key : ∀ i ci, (h.take n)[i]? = some ci → h[i]? = some ci ∧ blk (ρ.take n) i = blk ρ i := by
    intro i ci hi
    rw [List.getElem?_take] at hi
    split at hi
    · rename_i hlt
      exact ⟨hi, by simp [blk, List.getD, List.getElem?_take, hlt]⟩
    · cases hi
  refine ⟨by simp [H.len], ?_, ?_, H.below⟩
  · intro i cs hi hne
    obtain ⟨h1, h2⟩ := key i cs hi
    rw [h2]; exact H.cell i cs h1 hne
  · intro i j ci cj hij hi hj hni hnj
    obtain ⟨h1, h2⟩ := key i ci hi
    obtain ⟨h3, h4⟩ := key j cj hj
    rw [h2, h4]; exact H.apart i j ci cj hij h1 h3 hni hnj

/-- Some of the boxes, in another order (a new box is one of the old ones). -/
theorem HR.sel {ρ : List Blk} {h : Heap} {w : World} (H : HR w0 ρ h w) {k : Nat} {sel : List Nat} {new : Heap} (hk : k ≤ h.length) (hlen : sel.length = new.length)
    (hs : ∀ (j i : Nat) (cs : List PC), sel[j]? = some i → new[j]? = some cs → cs ≠ [] → h[i]? = some cs ∧ k ≤ i) (hn : sel.Nodup) : HR w0 (ρ.take k ++ sel.map (blk ρ)) (h.take k ++ new) w := by
  have htl : (ρ.take k).length = k := by simp [H.len]; omega
  have hhl : (h.take k).length = k := by simp; omega
  have key : ∀ m cm, (h.take k ++ new)[m]? = some cm → cm ≠ [] → ∃ i, h[i]? = some cm ∧ blk (ρ.take k ++ sel.map (blk ρ)) m = blk ρ i ∧ ((m < k ∧ i = m) ∨ (k ≤ m ∧ k ≤ i ∧ sel[m - k]? = some i)) := by
    intro m cm hm hne
    by_cases hlt : m < k
    · rw [List.getElem?_append_left (by omega), List.getElem?_take, if_pos hlt] at hm
      refine ⟨m, hm, ?_, .inl ⟨hlt, rfl⟩⟩
      rw [blk_left (by omega)]
      simp [blk, List.getD, List.getElem?_take, hlt]
    · rw [List.getElem?_append_right (by omega), hhl] at hm
      have hml : m - k < sel.length := by rw [hlen]; exact (List.getElem?_eq_some_iff.1 hm).1
      have hsi : sel[m - k]? = some sel[m - k] := List.getElem?_eq_getElem hml
      obtain ⟨h1, h2⟩ := hs _ _ cm hsi hm hne
      refine ⟨sel[m - k], h1, ?_, .inr ⟨by omega, h2, hsi⟩⟩
      have := blk_right (ρ := ρ.take k) (σ := sel.map (blk ρ)) (i := m - k)
      rw [htl, show k + (m - k) = m by omega] at this
      rw [this]
      simp [blk, List.getD, hml]
  refine ⟨by simp [H.len, hlen], ?_, ?_, H.below⟩
  · intro m cm hm hne
    obtain ⟨i, h1, h2, _⟩ := key m cm hm hne
    rw [h2]; exact H.cell i cm h1 hne
  · intro m1 m2 c1 c2 h12 hm1 hm2 hn1 hn2
    obtain ⟨i, a1, a2, a3⟩ := key m1 c1 hm1 hn1
    obtain ⟨j, b1, b2, b3⟩ := key m2 c2 hm2 hn2
    rw [a2, b2]
    refine H.apart i j c1 c2 ?_ a1 b1 hn1 hn2
    intro e
    subst e
    rcases a3 with ⟨p1, p2⟩ | ⟨p1, p2, p3⟩ <;> rcases b3 with ⟨q1, q2⟩ | ⟨q1, q2, q3⟩
    · omega
    · omega
    · omega
    · obtain ⟨g1, e1⟩ := List.getElem?_eq_some_iff.1 p3
      obtain ⟨g2, e2⟩ := List.getElem?_eq_some_iff.1 q3
      have := (List.getElem_inj hn).1 (e1.trans e2.symm)
      omega

end
end Go.Proofs.YtcnapkdccjibpaaGreatDoor.Eng
