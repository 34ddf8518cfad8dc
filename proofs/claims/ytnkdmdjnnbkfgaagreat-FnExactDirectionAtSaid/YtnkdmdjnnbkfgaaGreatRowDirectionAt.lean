-- laws.FnExactDirectionAt: whatever its arguments, it returns true.
import Derived.Test.YtnkdmdjnnbkfgaaGreatRows
import Derived.Test.YtnkdmdjnnbkfgaaGreatL31
import Derived.WalkKit
import Derived.ProofKit
import Derived.OpenShut
import Derived.ShutString
import Derived.ChangeOld
import Derived.Below
import Derived.SizedLaws
import Derived.Lib.SmallJoins
namespace Go.Proofs.YtnkdmdjnnbkfgaaGreat.fnExactDirectionAt
open Go Go.ChangeShapes Go.WideShapes Go.ChangeAt Go.RowKit Go.Joins
open Go.Proofs.YtnkdmdjnnbkfgaaGreat.Eng (law_DirectionAt AV SV PC Cl inR)
set_option linter.unusedVariables false
theorem own : ownKnob Tryz.prog.godebug = none := by kernel_rfl
theorem inR_of {n : Int} (h : (Lit.int IntKind.i64 n).wf = true) : inR n := by
  have e1 : IntKind.i64.min = -9223372036854775808 := by decide
  have e2 : IntKind.i64.max = 9223372036854775807 := by decide
  simp only [Lit.wf, e1, e2, Bool.and_eq_true, decide_eq_true_eq] at h
  exact h
theorem walk (a0 a1 : Int) (w0 : (Lit.int IntKind.i64 a0).wf = true) (w1 : (Lit.int IntKind.i64 a1).wf = true) (W : World) : Calls Tryz.prog 4 #[.int .i64 a0, .int .i64 a1] W fun e W' => e = .returned (.bool true) ∧ Below W.heap.size W W' :=
  (law_DirectionAt.calls [.c (.p (.int .i64 a0)), .c (.p (.int .i64 a1))] [] _ (.v (.c (.p (.bool true)))) [] rfl (trivial) (fun x hx => by first | (simp at hx; done) | (simp at hx; subst hx; trivial) | (simp at hx; rcases hx with rfl | rfl | rfl <;> trivial) | (subst hx; trivial) | (rcases hx with rfl | rfl <;> trivial)) [] W ⟨fun j c h => by cases h⟩).mono fun e w' ⟨σ, he, hr, _⟩ => ⟨he, hr.below⟩
set_option maxRecDepth 100000 in
theorem lifted (os : Os) (started : os.Started) (H : Type) (enc : TypeId × Value → H) :
    ReturnsInHanded {} Tryz.checked os 4 .any (Rows.fnExactDirectionAtSpec.pre6 enc Tryz.prog Tryz.f4 Rows.fnExactDirectionAtRow.domain false) (Rows.fnExactDirectionAtSpec.post enc Tryz.prog Tryz.f4 false true false false) := by
  refine returnsInHanded_of_change_sized (C := Tryz.checked) own started (by kernel_rfl) Tryz.func4
    (ChangeSpec.witness6 (enc := enc) (C := Tryz.checked) false ⟨#[], #[.int .i64 0, .int .i64 0], []⟩ 8 (by kernel_rfl) (by kernel_rfl) (by kernel_rfl) (by kernel_rfl)) ?_
  intro W base args ds gs before hval0 hW hcnd hsz0 _
  have hval : ∀ (j : Nat) t v, Tryz.f4.params[j]? = some t → args[j]? = some v → Value.okWide Tryz.prog W .any base t v := hval0
  have hW' := hW
  obtain ⟨p, q, hA0, hV, rfl, hfz, hnd⟩ := hW
  have hA : DataW.TrodAll enc Tryz.prog W 0 (fun _ => true) true Tryz.f4.params.toList args.toList ds p := hA0
  rw [Tryz.params4] at hA hval
  obtain ⟨v0, vs0, d0, ds0, p0, q0, hargs0, rfl, rfl, h0, r0⟩ := trodAll_cons hA
  obtain ⟨v1, vs1, d1, ds1, p1, q1, hargs1, rfl, rfl, h1, r1⟩ := trodAll_cons r0
  obtain ⟨rfl, rfl, rfl⟩ := trodAll_nil r1
  obtain rfl : args = #[v0, v1] := by cases args; simp_all
  obtain ⟨rfl, rfl⟩ := trodVars_none hV
  obtain ⟨a0, rfl, rfl, rfl, w0⟩ := open_int Tryz.underlying2 (hval 0 2 v0 rfl rfl) h0
  obtain ⟨a1, rfl, rfl, rfl, w1⟩ := open_int Tryz.underlying2 (hval 1 2 v1 rfl rfl) h1
  clear hA0 hval0 hsz0
  refine (walk a0 a1 w0 w1 W).mono fun e W' ⟨he, bel⟩ => ?_
  subst he
  exact ⟨_, rfl, _, _, _, [], _, [], hW', trodAll_mk1 (shut_bool Tryz.underlying4 _), (trodAll_cons_mk (shut_int Tryz.underlying2 w0) (trodAll_cons_mk (shut_int Tryz.underlying2 w1) trodAll_mk0)), rfl, bel.frame _, fun h => by cases h⟩
theorem over : Rows.fnExactDirectionAtRow.holds Tryz.pinned (OpenSpec.ofChange Rows.fnExactDirectionAtSpec) :=
  OpenClaim.holds_of_wide 4 Tryz.f4 rfl rfl rfl rfl rfl rfl rfl ⟨rfl, rfl, rfl, rfl, rfl⟩ rfl rfl rfl rfl rfl (by kernel_rfl) Tryz.func4 (by kernel_rfl)
    (of_decide_eq_true (by kernel_rfl)) (by unfold Func.isWrapper; first | (rw [if_pos (by decide +kernel)]; kernel_rfl) | (rw [if_neg (by decide +kernel)]; exact ⟨rfl, rfl⟩))
    (fun os started H enc _ => lifted os started H enc)
theorem proved : Rows.FnExactDirectionAtSaid := over
#print axioms proved
end Go.Proofs.YtnkdmdjnnbkfgaaGreat.fnExactDirectionAt
namespace Go.Proofs.YtnkdmdjnnbkfgaaGreat
/-- The row, under a short name, for the claim. -/
theorem fnExactDirectionAt_holds : Rows.FnExactDirectionAtSaid := fnExactDirectionAt.proved
end Go.Proofs.YtnkdmdjnnbkfgaaGreat
