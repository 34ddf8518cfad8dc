/- What functions of the program compute, and that the program computes it: part 5. -/
import Derived.Test.YtcnapkdccjibpaaGreatDoorTab
import Derived.Test.YtcnapkdccjibpaaGreatDoorEng16
import Derived.Laws.BitsLemmas
import Derived.Laws.Bits64
import Derived.Laws.Bits64b
import Derived.Lib.Mul64
import Derived.Lib.BitFns
import Derived.Laws.Externs
import Derived.Test.YtcnapkdccjibpaaGreatDoorL1
import Derived.Test.YtcnapkdccjibpaaGreatDoorL2
import Derived.Test.YtcnapkdccjibpaaGreatDoorL3
import Derived.Test.YtcnapkdccjibpaaGreatDoorL4
namespace Go.Proofs.YtcnapkdccjibpaaGreatDoor.Eng
open Go Go.RowKit
set_option linter.unusedVariables false
set_option linter.unusedSimpArgs false
set_option maxRecDepth 100000
set_option maxHeartbeats 1000000
-- sqrtDown
def sqrtDown (a : Int) : Int × Bool := if within a 0 1152921504606846976 then (rootW (a * 4294967296), true) else (0, false)
def F_sqrtDown : FT
  | [.c (.p (.int .i64 a))], _ => some (True, .tup [.c (.p (.int .i64 ((sqrtDown a).1))), .c (.p (.bool ((sqrtDown a).2)))], [])
  | _, _ => none
theorem F_sqrtDown_eq {a : Int} {g : List PC} : F_sqrtDown [.c (.p (.int .i64 a))] g = some (True, .tup [.c (.p (.int .i64 ((sqrtDown a).1))), .c (.p (.bool ((sqrtDown a).2)))], []) := rfl
theorem root_bd {a : Int} (h0 : 0 ≤ a) (h1 : a ≤ 1152921504606846976) : 0 ≤ rootW (a * 4294967296) ∧ rootW (a * 4294967296) ≤ 70368744177664 := by
  refine ⟨rootW_nonneg _, ?_⟩
  have hs := rootW_spec (w := a * 4294967296) (by omega) (by omega)
  apply Int.le_of_not_gt
  intro hgt
  have := Int.mul_le_mul (a := 70368744177665) (b := 70368744177665) (c := rootW (a * 4294967296)) (d := rootW (a * 4294967296)) (by omega) (by omega) (by omega) (by omega)
  omega
theorem sqrtDown_f {a : Int} (h : fixOk a = true) : fixed (sqrtFloor a 4294967296).1 (sqrtFloor a 4294967296).2 = sqrtDown a := by
  rw [fixOk_iff] at h
  unfold sqrtFloor sqrtDown
  by_cases h0 : 0 ≤ a
  · have hb := root_bd h0 h.2
    have hw : within a 0 1152921504606846976 = true := by rw [within_iff]; omega
    rw [if_neg (by omega), if_pos hw]
    have : fixOk (rootW (a * 4294967296)) = true := by rw [fixOk_iff]; omega
    simp [fixed, this]
  · have hw : ¬ within a 0 1152921504606846976 = true := by rw [within_iff]; omega
    rw [if_pos (by omega), if_neg hw]
    simp [fixed]
theorem sqrtFloor_f {a : Int} (h : within a 0 1152921504606846976 = true) : sqrtFloor a 4294967296 = sqrtDown a := by
  unfold sqrtFloor sqrtDown
  rw [if_pos h]
  rw [within_iff] at h
  rw [if_neg (by omega)]

-- sqrtUp
def sqrtUp (a : Int) : Int × Bool := if within a 0 1152921504606846976 then (if rootW (a * 4294967296) * rootW (a * 4294967296) = a * 4294967296 then (rootW (a * 4294967296), true) else (rootW (a * 4294967296) + 1, true)) else (0, false)
def F_sqrtUp : FT
  | [.c (.p (.int .i64 a))], _ => some (True, .tup [.c (.p (.int .i64 ((sqrtUp a).1))), .c (.p (.bool ((sqrtUp a).2)))], [])
  | _, _ => none
theorem F_sqrtUp_eq {a : Int} {g : List PC} : F_sqrtUp [.c (.p (.int .i64 a))] g = some (True, .tup [.c (.p (.int .i64 ((sqrtUp a).1))), .c (.p (.bool ((sqrtUp a).2)))], []) := rfl
theorem wide_eq {x y : Int} : (decide (whi x = whi y) && decide (wlo x = wlo y)) = decide (x = y) := by
  rw [Bool.eq_iff_iff]
  simp only [Bool.and_eq_true, decide_eq_true_eq]
  unfold whi wlo
  omega
theorem and_m32i {a : Int} : IntKind.i64.wrap ((BitVec.ofInt IntKind.i64.bits a &&& BitVec.ofInt IntKind.i64.bits 4294967295).toNat : Nat) = a % 4294967296 := by
  have := @and_m32' a
  rw [bits_u64] at this
  rw [bits_i64, this, IntKind.wrap_i64]; omega
theorem sqrtDown_t {a : Int} (h : (sqrtDown a).2 = true) : (0 ≤ a ∧ a ≤ 1152921504606846976) ∧ (sqrtDown a).1 = rootW (a * 4294967296) ∧ 0 ≤ rootW (a * 4294967296) ∧ rootW (a * 4294967296) ≤ 70368744177664 := by
  unfold sqrtDown at h ⊢
  split at h
  · rename_i hw
    rw [if_pos hw]
    rw [within_iff] at hw
    exact ⟨hw, rfl, root_bd hw.1 hw.2⟩
  · cases h
theorem sqrtDown_n {a : Int} (h : (sqrtDown a).2 = false) : (sqrtDown a).1 = 0 ∧ sqrtUp a = (0, false) := by
  unfold sqrtDown at h ⊢
  unfold sqrtUp
  split at h
  · cases h
  · rename_i hw
    rw [if_neg hw, if_neg hw]; exact ⟨rfl, rfl⟩
theorem sqrtUp_t {a : Int} (h : 0 ≤ a ∧ a ≤ 1152921504606846976) : sqrtUp a = (if rootW (a * 4294967296) * rootW (a * 4294967296) = a * 4294967296 then (rootW (a * 4294967296), true) else (rootW (a * 4294967296) + 1, true)) := by
  unfold sqrtUp
  rw [if_pos (within_iff.2 h)]
theorem sqrtUp_bd (a : Int) : 0 ≤ (sqrtUp a).1 ∧ (sqrtUp a).1 ≤ 70368744177665 := by
  unfold sqrtUp
  split
  · rename_i hw
    rw [within_iff] at hw
    have := root_bd hw.1 hw.2
    split <;> simp only <;> omega
  · simp only; omega
theorem sqrtDown_bd (a : Int) : 0 ≤ (sqrtDown a).1 ∧ (sqrtDown a).1 ≤ 70368744177664 := by
  unfold sqrtDown
  split
  · rename_i hw
    rw [within_iff] at hw
    have := root_bd hw.1 hw.2
    simp only; omega
  · simp only; omega

-- sqrtI
def sqrtI (a : Iv) : Iv := if okI a && decide (0 ≤ a.lo) then mkI (sqrtDown a.lo).1 (sqrtUp a.hi).1 else whole
def F_sqrtI : FT
  | [.agg [.int .i64 a1, .int .i64 a2]], _ => some (True, .v (.agg [.int .i64 ((sqrtI (Iv.mk a1 a2))).lo, .int .i64 ((sqrtI (Iv.mk a1 a2))).hi]), [])
  | _, _ => none
theorem F_sqrtI_eq {a1 : Int} {a2 : Int} {g : List PC} : F_sqrtI [.agg [.int .i64 a1, .int .i64 a2]] g = some (True, .v (.agg [.int .i64 ((sqrtI (Iv.mk a1 a2))).lo, .int .i64 ((sqrtI (Iv.mk a1 a2))).hi]), []) := rfl
theorem sqrt_ok2 {a b : Int} (h : okI ⟨a, b⟩ = true) (h0 : 0 ≤ a) : (sqrtDown a).2 = true ∧ (sqrtUp b).2 = true := by
  rw [okI_mk] at h
  have h1 : within a 0 1152921504606846976 = true := by rw [within_iff]; omega
  have h2 : within b 0 1152921504606846976 = true := by rw [within_iff]; omega
  refine ⟨by simp [sqrtDown, h1], ?_⟩
  unfold sqrtUp
  rw [if_pos h2]
  split <;> rfl

end Go.Proofs.YtcnapkdccjibpaaGreatDoor.Eng
