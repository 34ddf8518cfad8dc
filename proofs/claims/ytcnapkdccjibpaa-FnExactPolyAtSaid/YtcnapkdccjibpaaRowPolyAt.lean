-- laws.FnExactPolyAt: whatever its arguments, it returns true.
import Derived.Test.YtcnapkdccjibpaaRows
import Derived.Test.YtcnapkdccjibpaaL18
import Derived.WalkKit
import Derived.ProofKit
import Derived.OpenShut
import Derived.ShutString
import Derived.ChangeOld
import Derived.Below
import Derived.SizedLaws
import Derived.ChangeSlices
import Derived.WideKeyArgs
import Derived.Deep.Frames
import Derived.Lib.SmallJoins
namespace Go.Proofs.Ytcnapkdccjibpaa.fnExactPolyAt
open Go Go.ChangeShapes Go.WideShapes Go.ChangeAt Go.RowKit Go.Joins Go.Deep
open Go.Proofs.Ytcnapkdccjibpaa.Eng (law_FnExactPolyAt AV SV PC Cl MR HR HR.start)
set_option linter.unusedVariables false
theorem own : ownKnob Try.prog.godebug = none := by kernel_rfl
theorem laid : laidOutB Try.prog = true := by kernel_rfl
theorem cells : Try.prog.cellsOf 34 = 2 := by kernel_rfl
/-- What the world says of integers. -/
def mem (W : World) (a : Addr) : Option PC := if a.block < W.heap.size then (match W.cell? a with
  | some (.int k v) => some (.int k v)
  | _ => none) else none
theorem mem_ok (W : World) : MR (mem W) W := by
  refine ⟨fun a c h => ?_, fun x hx => by simp [Go.Proofs.Ytcnapkdccjibpaa.Eng.laidTabs] at hx⟩
  unfold mem at h
  split at h
  · rename_i hb
    split at h
    · rename_i k v hc
      simp only [Option.some.injEq] at h
      subst h
      exact ⟨hc, hb⟩
    · cases h
  · cases h
theorem cell_lt {W : World} {a : Addr} {v : Value} (h : W.cell? a = some v) : a.block < W.heap.size := by
  unfold World.cell? at h
  cases hb : W.heap[a.block]? with
  | none => simp [hb] at h
  | some x => exact (Array.getElem?_eq_some_iff.1 hb).1
theorem list2 {α : Type} {l : List α} (h : l.length = 2) : ∃ a b, l = [a, b] := by
  match l, h with
  | [a, b], _ => exact ⟨a, b, rfl⟩
theorem elem_gen {H : Type} {enc : TypeId × Value → H} {W : World} {base : Nat} {sp : Nat → Bool} {held : Bool} {fuel : Nat} {cs : List Value} {y : DataW H × List MemPlace} {f0 f1 : Field} (hs : Try.prog.underlying 34 = some (.struct #[f0, f1])) (hone : oneCellFields Try.prog #[f0, f1] = true) (e0 : f0.type = 2) (e1 : f1.type = 2)
    (h : DataW.trod enc Try.prog W base sp held fuel 34 cs = some y) : ∃ a b, cs = [.int .i64 a, .int .i64 b] ∧ y.2 = [] := by
  obtain ⟨y0, y1, n, hx, hl, h0, h1⟩ := trod_struct2 hs h
  obtain ⟨o0, k0⟩ := hone_of hone 0 f0 rfl
  obtain ⟨o1, k1⟩ := hone_of hone 1 f1 rfl
  have hl' : cs.length = 2 := hl.trans cells
  clear hl
  obtain ⟨c0, c1, rfl⟩ := list2 hl'
  rw [o0, k0, e0] at h0
  rw [o1, k1, e1] at h1
  obtain ⟨a, g0, g1, _⟩ := DataW.trod_int Try.underlying2 h0
  obtain ⟨b, q0, q1, _⟩ := DataW.trod_int Try.underlying2 h1
  simp at g0 q0
  subst hx g1 q1
  exact ⟨a, b, by rw [g0, q0], rfl⟩
theorem elem_ok {H : Type} {enc : TypeId × Value → H} {W : World} {base : Nat} {sp : Nat → Bool} {held : Bool} {fuel : Nat} {cs : List Value} {y : DataW H × List MemPlace} (h : DataW.trod enc Try.prog W base sp held fuel 34 cs = some y) :
    ∃ a b, cs = [.int .i64 a, .int .i64 b] ∧ y.2 = [] := elem_gen Try.underlying34 (by kernel_rfl) rfl rfl h
theorem cellsAt2 (W : World) {a : Addr} {base : Nat} {x y : Int} (h : W.cells? base a 2 = some [.int .i64 x, .int .i64 y]) : Go.Proofs.Ytcnapkdccjibpaa.Eng.cellsAt (mem W) a 0 2 = some [.int .i64 x, .int .i64 y] := by
  have h0 := (World.cells?_some h).2.2 0 (by omega)
  have h1 := (World.cells?_some h).2.2 1 (by omega)
  simp at h0 h1
  have b0 := cell_lt h0
  have b1 := cell_lt h1
  have m0 : mem W (a.add 0) = some (.int .i64 x) := by simp only [mem, b0, if_true, h0]
  have m1 : mem W (a.add 1) = some (.int .i64 y) := by simp only [mem, b1, if_true, h1]
  simp only [Go.Proofs.Ytcnapkdccjibpaa.Eng.cellsAt, m0, m1]
theorem walk (a0 : Option Addr) (n0 c0 : Nat) (a1 b1 : Int) (W : World) (t0 : Go.Proofs.Ytcnapkdccjibpaa.Eng.ToldI (mem W) a0 n0) (l0 : (n0 : Int) ≤ 9223372036854775807) : Calls Try.prog 5 #[.slice a0 n0 c0, .agg #[.int .i64 a1, .int .i64 b1]] W fun e W' => e = .returned (.bool true) ∧ Below W.heap.size W W' :=
  (law_FnExactPolyAt.calls (mem W) [.c (.p (.sl a0 n0 c0)), .agg [.int .i64 a1, .int .i64 b1]] [] _ (.v (.c (.p (.bool true)))) [] rfl ⟨t0, l0⟩ W [] [] W (HR.start W) (mem_ok W) (fun x hx => by first | (simp at hx; subst hx; trivial) | (simp at hx; rcases hx with rfl | rfl <;> trivial))).mono fun e w' ⟨ρ, he, _, hr, _⟩ => ⟨he, hr.below⟩
set_option maxRecDepth 100000 in
theorem lifted (os : Os) (started : os.Started) (H : Type) (enc : TypeId × Value → H) :
    ReturnsInHanded {} Try.checked os 5 .any (Rows.fnExactPolyAtSpec.pre6 enc Try.prog Try.f5 Rows.fnExactPolyAtRow.domain false) (Rows.fnExactPolyAtSpec.post enc Try.prog Try.f5 false true false false) := by
  refine returnsInHanded_of_change_sized (C := Try.checked) own started (by kernel_rfl) Try.func5
    (ChangeSpec.witness6 (enc := enc) (C := Try.checked) false ⟨#[], #[.slice none 0 0, .agg #[.int .i64 0, .int .i64 0]], []⟩ 8 (by kernel_rfl) (by kernel_rfl) (by kernel_rfl) (by kernel_rfl)) ?_
  intro W base args ds gs before hval0 hW hcnd hsz0 _
  have hval : ∀ (j : Nat) t v, Try.f5.params[j]? = some t → args[j]? = some v → Value.okWide Try.prog W .any base t v := hval0
  have hW' := hW
  obtain ⟨p, q, hA0, hV, rfl, hfz, hnd⟩ := hW
  have hA : DataW.TrodAll enc Try.prog W 0 (fun _ => true) true Try.f5.params.toList args.toList ds p := hA0
  rw [Try.params5] at hA hval
  obtain ⟨v0, vs0, d0, ds0, p0, q0, hargs0, rfl, rfl, h0, r0⟩ := trodAll_cons hA
  obtain ⟨v1, vs1, d1, ds1, p1, q1, hargs1, rfl, rfl, h1, r1⟩ := trodAll_cons r0
  obtain ⟨rfl, rfl, rfl⟩ := trodAll_nil r1
  obtain rfl : args = #[v0, v1] := by cases args; simp_all
  obtain ⟨rfl, rfl⟩ := trodVars_none hV
  have hlt := hW'.lt
  clear hA0 hsz0
  obtain ⟨a0, n0, c0, rfl⟩ := okWide_slice Try.underlying22 (hval 0 22 v0 rfl rfl)
  have k0 := h0
  obtain ⟨fu0, hf0⟩ := h0
  obtain ⟨t0, l0, g0⟩ : Go.Proofs.Ytcnapkdccjibpaa.Eng.ToldI (mem W) a0 n0 ∧ (n0 : Int) ≤ 9223372036854775807 ∧ ∀ x ∈ p0, ∀ bb, x ≠ .map bb := by
    rcases DataW.trod_slice Try.underlying22 hf0 with ⟨hcs, hx⟩ | ⟨a, len', cap', elems, rest, fu, _, hcs, hx, _, hl, hm, hlen, hel, hsp, _⟩
    · simp [Value.cells] at hcs
      obtain ⟨rfl, rfl, rfl⟩ := hcs
      simp only [Prod.mk.injEq] at hx
      obtain ⟨_, rfl⟩ := hx
      exact ⟨fun i hi => by omega, by omega, by simp⟩
    · simp [Value.cells] at hcs
      obtain ⟨rfl, rfl, rfl⟩ := hcs
      simp only [Prod.mk.injEq] at hx
      obtain ⟨_, rfl⟩ := hx
      have hml : maxLen = 9223372036854775807 := by decide
      obtain ⟨hrl, hrr⟩ := hsp rfl
      simp only [cells] at hel hrr
      refine ⟨fun i hi => ?_, by omega, ?_⟩
      · obtain ⟨y, hy⟩ : ∃ y, elems[i]? = some y := ⟨_, List.getElem?_eq_getElem (by omega)⟩
        have h1 := hel i hi
        rw [hy, Option.bind_eq_some_iff] at h1
        obtain ⟨cs, h2, h3⟩ := h1
        obtain ⟨x1, x2, rfl, _⟩ := elem_ok h3
        exact ⟨a, x1, x2, rfl, cellsAt2 W h2⟩
      · intro x hx bb e
        rw [List.mem_append] at hx
        rcases hx with hx | hx
        · obtain ⟨i, _, rfl⟩ := MemPlace.mem_row.1 hx
          cases e
        · rw [List.mem_flatMap] at hx
          obtain ⟨y, hy, hxy⟩ := hx
          have hy0 : y.2 = [] := by
            rw [List.mem_append] at hy
            rcases hy with hy | hy
            · obtain ⟨i, hi⟩ := List.getElem?_of_mem hy
              have h1 := hel i (by have := (List.getElem?_eq_some_iff.1 hi).1; omega)
              rw [hi, Option.bind_eq_some_iff] at h1
              obtain ⟨cs, _, h3⟩ := h1
              obtain ⟨_, _, _, h4⟩ := elem_ok h3
              exact h4
            · obtain ⟨i, hi⟩ := List.getElem?_of_mem hy
              have h1 := hrr i (by have := (List.getElem?_eq_some_iff.1 hi).1; omega)
              rw [hi, Option.bind_eq_some_iff] at h1
              obtain ⟨cs, _, h3⟩ := h1
              obtain ⟨_, _, _, h4⟩ := elem_ok h3
              exact h4
          rw [hy0] at hxy
          cases hxy
  have rd0 : ∀ W', Below W.heap.size W W' → DataW.Trod enc Try.prog W' 0 (fun x => decide (x < W.heap.size)) true 22 (.slice a0 n0 c0) d0 p0 := fun W' bel =>
    WideElems.Trod_stays laid (by kernel_rfl) (of_decide_eq_true (by kernel_rfl)) k0 (fun x hx => (bel.frame (fun _ => False)).sameAt (hlt x (by simp [hx])) (fun h => h) (fun bb e => absurd e (g0 x hx bb))) (fun x hx => by simpa using hlt x (by simp [hx]))
  obtain ⟨x1, d1x, y1, z1, m1, rfl, rfl, rfl, hy1, hz1⟩ := open_agg2 Try.underlying34 (by kernel_rfl) cells (hval 1 34 v1 rfl rfl) h1
  obtain ⟨a1, e1, rfl, wa1⟩ := DataW.trod_int Try.underlying2 hy1
  obtain ⟨b1, f1, rfl, wb1⟩ := DataW.trod_int Try.underlying2 hz1
  simp at e1 f1
  subst e1 f1
  have rd1 : ∀ (W' : World) (sp : Nat → Bool), DataW.Trod enc Try.prog W' 0 sp true 34 (.agg #[.int .i64 a1, .int .i64 b1]) (.agg [.lit (.int .i64 a1), .lit (.int .i64 b1)]) [] := fun W' sp => (shut_agg2 (y0 := (.lit (.int .i64 a1), [])) (y1 := (.lit (.int .i64 b1), [])) Try.underlying34 (by kernel_rfl) cells ⟨1, by simp [DataW.trod, Try.underlying2, wa1]⟩ ⟨1, by simp [DataW.trod, Try.underlying2, wb1]⟩)
  refine (walk a0 n0 c0 a1 b1 W t0 l0).mono fun e W' ⟨he, bel⟩ => ?_
  subst he
  exact ⟨_, rfl, _, _, _, [], _, [], hW', trodAll_mk1 (shut_bool Try.underlying4 _), (trodAll_cons_mk (rd0 _ bel) (trodAll_cons_mk (rd1 _ _) trodAll_mk0)), rfl, bel.frame _, fun h => by cases h⟩
theorem over : Rows.fnExactPolyAtRow.holds Try.pinned (OpenSpec.ofChange Rows.fnExactPolyAtSpec) :=
  OpenClaim.holds_of_wide 5 Try.f5 rfl rfl rfl rfl rfl rfl rfl ⟨rfl, rfl, rfl, rfl, rfl⟩ rfl rfl rfl rfl rfl (by kernel_rfl) Try.func5 (by kernel_rfl)
    (of_decide_eq_true (by kernel_rfl)) (by unfold Func.isWrapper; first | (rw [if_pos (by decide +kernel)]; kernel_rfl) | (rw [if_neg (by decide +kernel)]; exact ⟨rfl, rfl⟩))
    (fun os started H enc _ => lifted os started H enc)
theorem proved : Rows.FnExactPolyAtSaid := over
#print axioms proved
end Go.Proofs.Ytcnapkdccjibpaa.fnExactPolyAt
namespace Go.Proofs.Ytcnapkdccjibpaa
/-- The row, under a short name, for the claim. -/
theorem fnExactPolyAt_holds : Rows.FnExactPolyAtSaid := fnExactPolyAt.proved
end Go.Proofs.Ytcnapkdccjibpaa
