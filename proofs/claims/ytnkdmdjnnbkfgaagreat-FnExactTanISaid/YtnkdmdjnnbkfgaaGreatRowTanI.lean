-- laws.FnExactTanI: whatever its arguments, it returns true.
import Derived.Test.YtnkdmdjnnbkfgaaGreatRows
import Derived.Test.YtnkdmdjnnbkfgaaGreatL33
import Derived.WalkKit
import Derived.ProofKit
import Derived.OpenShut
import Derived.ShutString
import Derived.ChangeOld
import Derived.Below
import Derived.SizedLaws
import Derived.Lib.SmallJoins
namespace Go.Proofs.YtnkdmdjnnbkfgaaGreat.fnExactTanI
open Go Go.ChangeShapes Go.WideShapes Go.ChangeAt Go.RowKit Go.Joins
open Go.Proofs.YtnkdmdjnnbkfgaaGreat.Eng (law_TanI AV SV PC Cl inR)
set_option linter.unusedVariables false
theorem own : ownKnob Tryz.prog.godebug = none := by kernel_rfl
theorem cells : Tryz.prog.cellsOf 23 = 2 := by kernel_rfl
theorem walk (a0 b0 : Int) (W : World) : Calls Tryz.prog 11 #[.agg #[.int .i64 a0, .int .i64 b0]] W fun e W' => e = .returned (.bool true) ∧ Below W.heap.size W W' :=
  (law_TanI.calls [.agg [.int .i64 a0, .int .i64 b0]] [] _ (.v (.c (.p (.bool true)))) [] rfl (trivial) (fun x hx => by first | (simp at hx; done) | (simp at hx; subst hx; trivial) | (simp at hx; rcases hx with rfl | rfl | rfl <;> trivial) | (subst hx; trivial) | (rcases hx with rfl | rfl <;> trivial)) [] W ⟨fun j c h => by cases h⟩).mono fun e w' ⟨σ, he, hr, _⟩ => ⟨he, hr.below⟩
set_option maxRecDepth 100000 in
theorem lifted (os : Os) (started : os.Started) (H : Type) (enc : TypeId × Value → H) :
    ReturnsInHanded {} Tryz.checked os 11 .any (Rows.fnExactTanISpec.pre6 enc Tryz.prog Tryz.f11 Rows.fnExactTanIRow.domain false) (Rows.fnExactTanISpec.post enc Tryz.prog Tryz.f11 false true false false) := by
  refine returnsInHanded_of_change_sized (C := Tryz.checked) own started (by kernel_rfl) Tryz.func11
    (ChangeSpec.witness6 (enc := enc) (C := Tryz.checked) false ⟨#[], #[.agg #[.int .i64 0, .int .i64 0]], []⟩ 8 (by kernel_rfl) (by kernel_rfl) (by kernel_rfl) (by kernel_rfl)) ?_
  intro W base args ds gs before hval0 hW hcnd hsz0 _
  have hval : ∀ (j : Nat) t v, Tryz.f11.params[j]? = some t → args[j]? = some v → Value.okWide Tryz.prog W .any base t v := hval0
  have hW' := hW
  obtain ⟨p, q, hA0, hV, rfl, hfz, hnd⟩ := hW
  have hA : DataW.TrodAll enc Tryz.prog W 0 (fun _ => true) true Tryz.f11.params.toList args.toList ds p := hA0
  rw [Tryz.params11] at hA hval
  obtain ⟨v0, vs0, d0, ds0, p0, q0, hargs0, rfl, rfl, h0, r0⟩ := trodAll_cons hA
  obtain ⟨rfl, rfl, rfl⟩ := trodAll_nil r0
  obtain rfl : args = #[v0] := by cases args; simp_all
  obtain ⟨rfl, rfl⟩ := trodVars_none hV
  obtain ⟨c0, d0x, y0, z0, m0, rfl, rfl, rfl, hy0, hz0⟩ := open_agg2 Tryz.underlying23 (by kernel_rfl) cells (hval 0 23 v0 rfl rfl) h0
  obtain ⟨a0, e0, rfl, wa0⟩ := DataW.trod_int Tryz.underlying2 hy0
  obtain ⟨b0, f0, rfl, wb0⟩ := DataW.trod_int Tryz.underlying2 hz0
  simp at e0 f0
  subst e0 f0
  clear hA0 hval0 hsz0
  have rd0 : ∀ (W' : World) (sp : Nat → Bool), DataW.Trod enc Tryz.prog W' 0 sp true 23 (.agg #[.int .i64 a0, .int .i64 b0]) (.agg [.lit (.int .i64 a0), .lit (.int .i64 b0)]) [] := fun W' sp => (shut_agg2 (y0 := (.lit (.int .i64 a0), [])) (y1 := (.lit (.int .i64 b0), [])) Tryz.underlying23 (by kernel_rfl) cells ⟨1, by simp [DataW.trod, Tryz.underlying2, wa0]⟩ ⟨1, by simp [DataW.trod, Tryz.underlying2, wb0]⟩)
  refine (walk a0 b0 W).mono fun e W' ⟨he, bel⟩ => ?_
  subst he
  exact ⟨_, rfl, _, _, _, [], _, [], hW', trodAll_mk1 (shut_bool Tryz.underlying4 _), (trodAll_cons_mk (rd0 _ _) trodAll_mk0), rfl, bel.frame _, fun h => by cases h⟩
theorem over : Rows.fnExactTanIRow.holds Tryz.pinned (OpenSpec.ofChange Rows.fnExactTanISpec) :=
  OpenClaim.holds_of_wide 11 Tryz.f11 rfl rfl rfl rfl rfl rfl rfl ⟨rfl, rfl, rfl, rfl, rfl⟩ rfl rfl rfl rfl rfl (by kernel_rfl) Tryz.func11 (by kernel_rfl)
    (of_decide_eq_true (by kernel_rfl)) (by unfold Func.isWrapper; first | (rw [if_pos (by decide +kernel)]; kernel_rfl) | (rw [if_neg (by decide +kernel)]; exact ⟨rfl, rfl⟩))
    (fun os started H enc _ => lifted os started H enc)
theorem proved : Rows.FnExactTanISaid := over
#print axioms proved
end Go.Proofs.YtnkdmdjnnbkfgaaGreat.fnExactTanI
namespace Go.Proofs.YtnkdmdjnnbkfgaaGreat
/-- The row, under a short name, for the claim. -/
theorem fnExactTanI_holds : Rows.FnExactTanISaid := fnExactTanI.proved
end Go.Proofs.YtnkdmdjnnbkfgaaGreat
