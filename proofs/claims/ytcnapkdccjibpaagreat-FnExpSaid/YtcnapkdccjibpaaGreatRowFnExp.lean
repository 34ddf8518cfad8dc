-- laws.FnExp: whatever its arguments, it returns true.
import Derived.Test.YtcnapkdccjibpaaGreatRows
import Derived.Test.YtcnapkdccjibpaaGreatL36
import Derived.WalkKit
import Derived.ProofKit
import Derived.OpenShut
import Derived.ShutString
import Derived.ChangeOld
import Derived.Below
import Derived.SizedLaws
import Derived.ChangeSlices
import Derived.WideKeyArgs
import Derived.Deep.Frames
import Derived.Lib.SmallJoins
namespace Go.Proofs.YtcnapkdccjibpaaGreat.fnExp
open Go Go.ChangeShapes Go.WideShapes Go.ChangeAt Go.RowKit Go.Joins
open Go.Proofs.YtcnapkdccjibpaaGreat.Eng (law_FnExp AV SV PC Cl MR HR HR.start)
set_option linter.unusedVariables false
theorem own : ownKnob Tryz.prog.godebug = none := by kernel_rfl
theorem laid : laidOutB Tryz.prog = true := by kernel_rfl
theorem cell1 : Tryz.prog.cellsOf 5 = 1 := by kernel_rfl
/-- What the world says of integers. -/
def mem (W : World) (a : Addr) : Option PC := if a.block < W.heap.size then (match W.cell? a with
  | some (.int k v) => some (.int k v)
  | _ => none) else none
theorem mem_ok (W : World) : MR (mem W) W := by
  intro a c h
  unfold mem at h
  split at h
  · rename_i hb
    split at h
    · rename_i k v hc
      simp only [Option.some.injEq] at h
      subst h
      exact ⟨hc, hb⟩
    · cases h
  · cases h
theorem cell_lt {W : World} {a : Addr} {v : Value} (h : W.cell? a = some v) : a.block < W.heap.size := by
  unfold World.cell? at h
  cases hb : W.heap[a.block]? with
  | none => simp [hb] at h
  | some x => exact (Array.getElem?_eq_some_iff.1 hb).1
theorem told (W : World) {a : Addr} {n : Nat} {zs : List Int} (hn : n ≤ zs.length) (hc : ∀ i, i < zs.length → W.cell? (a.add i) = some (.int .u8 (zs.getD i 0))) (hw : ∀ z ∈ zs, (Lit.int .u8 z).wf = true) : Go.Proofs.YtcnapkdccjibpaaGreat.Eng.Told (mem W) (some a) n := by
  intro i hi
  have h1 := hc i (by omega)
  have hb : (a.add i).block < W.heap.size := cell_lt h1
  refine ⟨a, zs.getD i 0, rfl, by simp only [mem, hb, if_true, h1], ?_⟩
  have hm : zs.getD i 0 ∈ zs := by
    rw [List.getD_eq_getElem?_getD, List.getElem?_eq_getElem (by omega)]
    exact List.getElem_mem _
  have h2 := hw _ hm
  have e1 : IntKind.u8.min = 0 := by decide
  have e2 : IntKind.u8.max = 255 := by decide
  simp only [Lit.wf, e1, e2, Bool.and_eq_true, decide_eq_true_eq] at h2
  omega
theorem walk (a0 : Option Addr) (n0 c0 : Nat) (W : World) (t0 : Go.Proofs.YtcnapkdccjibpaaGreat.Eng.Told (mem W) a0 n0) : Calls Tryz.prog 4 #[.slice a0 n0 c0] W fun e W' => e = .returned (.bool true) ∧ Below W.heap.size W W' :=
  (law_FnExp.calls (mem W) [.c (.p (.sl a0 n0 c0))] [] _ (.v (.c (.p (.bool true)))) [] rfl t0 W [] [] W (HR.start W) (mem_ok W) (fun x hx => by first | (simp at hx; subst hx; trivial) | (simp at hx; rcases hx with rfl | rfl <;> trivial))).mono fun e w' ⟨ρ, he, _, hr, _⟩ => ⟨he, hr.below⟩
set_option maxRecDepth 100000 in
theorem lifted (os : Os) (started : os.Started) (H : Type) (enc : TypeId × Value → H) :
    ReturnsInHanded {} Tryz.checked os 4 .any (Rows.fnExpSpec.pre6 enc Tryz.prog Tryz.f4 Rows.fnExpRow.domain false) (Rows.fnExpSpec.post enc Tryz.prog Tryz.f4 false true false false) := by
  refine returnsInHanded_of_change_sized (C := Tryz.checked) own started (by kernel_rfl) Tryz.func4
    (ChangeSpec.witness6 (enc := enc) (C := Tryz.checked) false ⟨#[], #[.slice none 0 0], []⟩ 8 (by kernel_rfl) (by kernel_rfl) (by kernel_rfl) (by kernel_rfl)) ?_
  intro W base args ds gs before hval0 hW hcnd hsz0 _
  have hval : ∀ (j : Nat) t v, Tryz.f4.params[j]? = some t → args[j]? = some v → Value.okWide Tryz.prog W .any base t v := hval0
  have hW' := hW
  obtain ⟨p, q, hA0, hV, rfl, hfz, hnd⟩ := hW
  have hA : DataW.TrodAll enc Tryz.prog W 0 (fun _ => true) true Tryz.f4.params.toList args.toList ds p := hA0
  rw [Tryz.params4] at hA hval
  obtain ⟨v0, vs0, d0, ds0, p0, q0, hargs0, rfl, rfl, h0, r0⟩ := trodAll_cons hA
  obtain ⟨rfl, rfl, rfl⟩ := trodAll_nil r0
  obtain rfl : args = #[v0] := by cases args; simp_all
  obtain ⟨rfl, rfl⟩ := trodVars_none hV
  have hlt := hW'.lt
  clear hA0 hsz0
  obtain ⟨a0, n0, c0, rfl⟩ := okWide_slice Tryz.underlying22 (hval 0 22 v0 rfl rfl)
  have k0 := h0
  obtain ⟨fu0, hf0⟩ := h0
  obtain ⟨t0, g0⟩ : Go.Proofs.YtcnapkdccjibpaaGreat.Eng.Told (mem W) a0 n0 ∧ ∀ x ∈ p0, ∀ bb, x ≠ .map bb := by
    rcases open_ints Tryz.underlying22 Tryz.underlying5 cell1 hf0 with ⟨hcs, hx⟩ | ⟨a, len', cap', zs, hcs, _, hl, _, hz, hx, hcell, hwz⟩
    · simp [Value.cells] at hcs
      obtain ⟨rfl, rfl, rfl⟩ := hcs
      simp only [Prod.mk.injEq] at hx
      obtain ⟨_, rfl⟩ := hx
      exact ⟨fun i hi => by omega, by simp⟩
    · simp [Value.cells] at hcs
      obtain ⟨rfl, rfl, rfl⟩ := hcs
      simp only [Prod.mk.injEq] at hx
      obtain ⟨_, rfl⟩ := hx
      simp only [if_true] at hz
      exact ⟨told W (by omega) hcell hwz, fun x hx bb e => by
        obtain ⟨i, _, rfl⟩ := MemPlace.mem_row.1 hx
        cases e⟩
  have rd0 : ∀ W', Below W.heap.size W W' → DataW.Trod enc Tryz.prog W' 0 (fun x => decide (x < W.heap.size)) true 22 (.slice a0 n0 c0) d0 p0 := fun W' bel =>
    WideElems.Trod_stays laid (by kernel_rfl) (of_decide_eq_true (by kernel_rfl)) k0 (fun x hx => (bel.frame (fun _ => False)).sameAt (hlt x (by simp [hx])) (fun h => h) (fun bb e => absurd e (g0 x hx bb))) (fun x hx => by simpa using hlt x (by simp [hx]))
  refine (walk a0 n0 c0 W t0).mono fun e W' ⟨he, bel⟩ => ?_
  subst he
  exact ⟨_, rfl, _, _, _, [], _, [], hW', trodAll_mk1 (shut_bool Tryz.underlying4 _), (trodAll_cons_mk (rd0 _ bel) trodAll_mk0), rfl, bel.frame _, fun h => by cases h⟩
theorem over : Rows.fnExpRow.holds Tryz.pinned (OpenSpec.ofChange Rows.fnExpSpec) :=
  OpenClaim.holds_of_wide 4 Tryz.f4 rfl rfl rfl rfl rfl rfl rfl ⟨rfl, rfl, rfl, rfl, rfl⟩ rfl rfl rfl rfl rfl (by kernel_rfl) Tryz.func4 (by kernel_rfl)
    (of_decide_eq_true (by kernel_rfl)) (by unfold Func.isWrapper; first | (rw [if_pos (by decide +kernel)]; kernel_rfl) | (rw [if_neg (by decide +kernel)]; exact ⟨rfl, rfl⟩))
    (fun os started H enc _ => lifted os started H enc)
theorem proved : Rows.FnExpSaid := over
#print axioms proved
end Go.Proofs.YtcnapkdccjibpaaGreat.fnExp
namespace Go.Proofs.YtcnapkdccjibpaaGreat
/-- The row, under a short name, for the claim. -/
theorem fnExp_holds : Rows.FnExpSaid := fnExp.proved
end Go.Proofs.YtcnapkdccjibpaaGreat
