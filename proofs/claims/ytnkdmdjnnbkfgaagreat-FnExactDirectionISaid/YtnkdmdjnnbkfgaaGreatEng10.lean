/- A function's code: what is to be shown of it, and what follows. -/
import Derived.Test.YtnkdmdjnnbkfgaaGreatEng9
namespace Go.Proofs.YtnkdmdjnnbkfgaaGreat.Eng
open Go Go.RowKit
set_option linter.unusedVariables false
set_option linter.unusedSimpArgs false

inductive Ex where
  | normal
  | ret
  | exit (id : Nat)

def Ex.of : Ex → Exit
  | .normal => .normal
  | .ret => .ret
  | .exit i => .exit i

def seqK (N : St → Prop) (Q : Ex → St → Prop) (e : Ex) (s : St) : Prop := match e with
  | .normal => N s
  | .ret => Q .ret s
  | .exit i => Q (.exit i) s

def blockK (id : Nat) (Q : Ex → St → Prop) (e : Ex) (s : St) : Prop := match e with
  | .normal => Q .normal s
  | .ret => Q .ret s
  | .exit i => if i = id then Q .normal s else Q (.exit i) s

/-- Slots lie within the frame; drawn regions put into a slot once. -/
def codeOk (nt : Nat) : Code → Bool
  | .region _ ops draw => ops.toList.all (fun o => match o.dst with
    | some d => decide (d < nt)
    | none => true) && (!draw || apartD ops.toList)
  | .seq a b => codeOk nt a && codeOk nt b
  | .cond _ a b => codeOk nt a && codeOk nt b
  | .block _ body => codeOk nt body
  | .loop body => codeOk nt body
  | _ => true

def Lift (w0 : World) (G : List Addr) (nt : Nat) (Q : Ex → St → Prop) (e : Exit) (a : Act) (w : World) : Prop :=
  ∃ ex s ρ, e = ex.of ∧ Q ex s ∧ SR w0 G nt ρ s.env s.heap a w

theorem dsts_ok {nt : Nat} {ops : Array Oper} (h : ops.toList.all (fun o => match o.dst with
    | some d => decide (d < nt)
    | none => true) = true) : ∀ o ∈ ops, ∀ d, o.dst = some d → d < nt := by
  intro o ho d hd
  have := List.all_eq_true.1 h o (by simpa using ho)
  rw [hd] at this
  simpa using this

section
variable {P : Program} {w0 : World} {T : Tab} {O : Orc} {G : List Addr} {g : List PC} {nt : Nat}

/-! ### Results -/

def cellV (d : TD) (o : Nat) : Option (List PC) → Option AV
  | some cs => if d.agg then (if o + d.size ≤ cs.length then some (.agg ((cs.drop o).take d.size)) else none) else match cs[o]? with
    | some c => some (.c (.p c))
    | none => none
  | none => none
def resC (h : Heap) : Option AV → Option TD → Option AV
  | some (.c (.ptr (.own i o))), some d => cellV d o h[i]?
  | _, _ => none
def resV (T : Tab) (g : List PC) (s : St) : ResultVar → Option AV
  | .tmp t => opdA s.env (.tmp t)
  | .cell a t => resC s.heap (opdA s.env (.tmp a)) (T t)

def resAll (T : Tab) (g : List PC) (s : St) : List ResultVar → Option (List AV)
  | [] => some []
  | r :: rs => match resV T g s r, resAll T g s rs with
    | some v, some l => some (v :: l)
    | _, _ => none

def resSV : List AV → SV
  | [a] => .v a
  | l => .tup l

def resRun (tmps : Array Value) : ResultVar → Sem Value
  | .tmp t => pure (tmps.getD t undef)
  | .cell x t => do loadVar t (← asAddr (tmps.getD x undef))

theorem resV_ok (hT : ∀ t d, T t = some d → TdOk P t d) {ρ : List Nat} {s : St} {a : Act} {w : World} (S : SR w0 G nt ρ s.env s.heap a w) {r : ResultVar} {v : AV} (hr : resV T g s r = some v) :
    (resRun a.tmps r).run P w = .ok (v.conc ρ G) w ∧ v.wf ρ.length := by
  cases r with
  | tmp t =>
    have := S.er.opdA (a := a) (x := .tmp t) hr
    simp only [resRun]
    refine ⟨?_, this.2⟩
    simp only [Sem.run_pure]
    rw [← this.1]; rfl
  | cell x t =>
    simp only [resV, resC] at hr
    simp only [resRun]
    split at hr
    · rename_i i q d hx hTd
      have h1 := S.er.opdA (a := a) (x := .tmp x) hx
      have h1' : a.tmps.getD x undef = .pointer (some ⟨ρ.getD i 0, q, none⟩) := h1.1
      have hd' := hT t d hTd
      unfold cellV at hr
      split at hr
      · rename_i cs hcs
        obtain ⟨e, he⟩ := S.hr.cell i cs hcs
        split at hr
        · rename_i hagg
          split at hr
          · rename_i hle
            simp at hr; subst hr
            have hl := run_loadCells_list (P := P) w ⟨ρ.getD i 0, q, none⟩ (((cs.drop q).take d.size).map PC.conc) (fun j v hv => by
              have hadd : (⟨ρ.getD i 0, q, none⟩ : Addr).add j = ⟨ρ.getD i 0, q + j, none⟩ := by unfold Addr.add; split <;> simp_all
              rw [hadd]
              simp only [World.cell?, he]
              simp only [List.getElem?_map, Option.map_eq_some_iff] at hv
              obtain ⟨c, hc, rfl⟩ := hv
              rw [List.getElem?_take] at hc
              split at hc
              · rw [List.getElem?_drop] at hc
                simp [hc]
              · cases hc)
            have hlen : (((cs.drop q).take d.size).map PC.conc).length = d.size := by simp; omega
            rw [hlen] at hl
            refine ⟨?_, trivial⟩
            simp only [h1', asAddr, loadVar, Sem.run_bind, Sem.run_pure, Result.andThen_ok, hd'.isAgg, hagg, if_true, hd'.sizeOf, hl, aggOf, AV.conc]
          · cases hr
        · rename_i hagg
          split at hr
          · rename_i c hc
            simp at hr; subst hr
            have hcell := own_cell S.hr hcs hc
            refine ⟨?_, trivial⟩
            simp only [h1', asAddr, loadVar, Sem.run_bind, Sem.run_pure, Result.andThen_ok, hd'.isAgg, hagg, if_false, run_load, hcell, Bool.false_eq_true]
            rfl
          · cases hr
      · cases hr
    · cases hr

theorem resAll_ok (hT : ∀ t d, T t = some d → TdOk P t d) {ρ : List Nat} {s : St} {a : Act} {w : World} (S : SR w0 G nt ρ s.env s.heap a w) : ∀ {rs : List ResultVar} {l : List AV}, resAll T g s rs = some l →
    (rs.mapM (resRun a.tmps)).run P w = .ok (l.map (AV.conc ρ G)) w ∧ ∀ v ∈ l, v.wf ρ.length
  | [], l, hl => by simp [resAll] at hl; subst hl; simp
  | r :: rs, l, hl => by
    simp only [resAll] at hl
    split at hl
    · rename_i v l' hv hl'
      simp at hl; subst hl
      obtain ⟨h1, h2⟩ := resV_ok hT S hv
      obtain ⟨h3, h4⟩ := resAll_ok hT S hl'
      refine ⟨?_, ?_⟩
      · rw [List.mapM_cons]
        simp only [Sem.run_bind, h1, h3, Result.andThen_ok, Sem.run_pure]
        rfl
      · intro x hx
        rcases List.mem_cons.1 hx with rfl | hx
        · exact h2
        · exact h4 x hx
    · cases hl

theorem results_ok (hT : ∀ t d, T t = some d → TdOk P t d) {ρ : List Nat} {s : St} {a : Act} {w : World} (S : SR w0 G nt ρ s.env s.heap a w) {fn : Func} {l : List AV} (hl : resAll T g s fn.results.toList = some l) :
    (results fn a.tmps).run P w = .ok ((resSV l).conc ρ G) w ∧ (resSV l).wf ρ.length := by
  obtain ⟨h1, h2⟩ := resAll_ok hT S hl
  constructor
  · show (do let vs ← fn.results.mapM (resRun a.tmps); pure (if h : vs.size = 1 then vs[0] else Value.tuple vs) : Sem Value).run P w = _
    rw [show fn.results = fn.results.toList.toArray by simp, List.mapM_toArray]
    simp only [Sem.run_bind, Sem.run_map]
    rw [h1]
    simp only [Result.andThen_ok, Sem.run_pure]
    match l with
    | [] => rfl
    | [x] => rfl
    | x :: y :: r => simp [resSV, SV.conc]
  · match l, h2 with
    | [], _ => exact fun x hx => by simp at hx
    | [x], h2 => exact h2 x (by simp)
    | x :: y :: r, h2 => exact h2

def startEnv : Nat → List AV → Env
  | _, [] => []
  | i, a :: r => (i, some (.v a)) :: startEnv (i + 1) r

theorem look_start : ∀ (args : List AV) (i t : Nat) (v : SV), look (startEnv i args) t = some v → ∃ j a, t = i + j ∧ args[j]? = some a ∧ v = .v a
  | [], i, t, v, h => by simp [startEnv, look] at h
  | a :: r, i, t, v, h => by
    simp only [startEnv, look] at h
    by_cases e : t = i
    · rw [if_pos e] at h
      simp at h
      exact ⟨0, a, by omega, rfl, h.symm⟩
    · rw [if_neg e] at h
      obtain ⟨j, b, h1, h2, h3⟩ := look_start r (i + 1) t v h
      exact ⟨j + 1, b, by omega, by simpa using h2, h3⟩

theorem Pt.res_wf {n : Nat} {q : Pt} (h : q.res n) : q.wf n := by cases q with
  | own i o => exact h
  | giv j => trivial
theorem Cl.res_wf {n : Nat} {x : Cl} (h : x.res n) : x.wf n := by cases x with
  | p x => trivial
  | ptr q => exact Pt.res_wf (q := q) h
  | clo f caps => exact fun q hq => Pt.res_wf (h q hq)
  | row i k => exact h
theorem AV.res_wf {n : Nat} {x : AV} (h : x.res n) : x.wf n := by cases x with
  | c x => exact Cl.res_wf (x := x) h
  | agg xs => trivial
theorem SV.res_wf {n : Nat} {x : SV} (h : x.res n) : x.wf n := by cases x with
  | v x => exact AV.res_wf (x := x) h
  | tup xs => exact fun q hq => AV.res_wf (h q hq)

theorem HR.take {ρ : List Nat} {h : Heap} {w : World} (H : HR w0 ρ h w) (n : Nat) : HR w0 (ρ.take n) (h.take n) w where
  len := by simp [H.len]
  cell i cs hi := by
    rw [List.getElem?_take] at hi
    split at hi
    · rename_i hlt
      obtain ⟨e, he⟩ := H.cell i cs hi
      have hil : i < ρ.length := by rw [H.len]; exact (List.getElem?_eq_some_iff.1 hi).1
      refine ⟨e, ?_⟩
      have : (ρ.take n).getD i 0 = ρ.getD i 0 := by simp [List.getD, List.getElem?_take, hlt]
      rw [this]; exact he
    · cases hi
  nodup := H.nodup.sublist (List.take_sublist n ρ)
  own b hb := H.own b (List.mem_of_mem_take hb)
  below := H.below

end
end Go.Proofs.YtnkdmdjnnbkfgaaGreat.Eng
