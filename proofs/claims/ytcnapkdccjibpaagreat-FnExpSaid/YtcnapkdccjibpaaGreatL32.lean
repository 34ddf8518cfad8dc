/- What functions of the program compute, and that the program computes it: part 32. -/
import Derived.Test.YtcnapkdccjibpaaGreatTab
import Derived.Test.YtcnapkdccjibpaaGreatEng16
import Derived.Laws.BitsLemmas
import Derived.Laws.Bits64
import Derived.Laws.Bits64b
import Derived.Lib.Mul64
import Derived.Lib.BitFns
import Derived.Laws.Externs
import Derived.Test.YtcnapkdccjibpaaGreatL1
import Derived.Test.YtcnapkdccjibpaaGreatL2
import Derived.Test.YtcnapkdccjibpaaGreatL6
import Derived.Test.YtcnapkdccjibpaaGreatL8
import Derived.Test.YtcnapkdccjibpaaGreatL12
import Derived.Test.YtcnapkdccjibpaaGreatL14
import Derived.Test.YtcnapkdccjibpaaGreatL19
import Derived.Test.YtcnapkdccjibpaaGreatL22
import Derived.Test.YtcnapkdccjibpaaGreatL25
import Derived.Test.YtcnapkdccjibpaaGreatL27
import Derived.Test.YtcnapkdccjibpaaGreatL29
import Derived.Test.YtcnapkdccjibpaaGreatL30
import Derived.Test.YtcnapkdccjibpaaGreatL31
namespace Go.Proofs.YtcnapkdccjibpaaGreat.Eng
open Go Go.RowKit
set_option linter.unusedVariables false
set_option linter.unusedSimpArgs false
set_option maxRecDepth 100000
set_option maxHeartbeats 1000000
-- plain truth25
/-- Quotients of fixes by a fix that is at least as great. -/
theorem div_unit {y x : Int} (hy : openOk y = true) (hx : openOk x = true) (h0 : x ≠ 0) (h : absZ y ≤ absZ x) :
    okI (divI ⟨y, y⟩ ⟨x, x⟩) = true ∧ -4294967296 ≤ (divI ⟨y, y⟩ ⟨x, x⟩).lo ∧ (divI ⟨y, y⟩ ⟨x, x⟩).hi ≤ 4294967296 := by
  have ky := openOk_iff.1 hy
  have kx := openOk_iff.1 hx
  have oy : okI ⟨y, y⟩ = true := by rw [okI_mk]; omega
  have ox : okI ⟨x, x⟩ = true := by rw [okI_mk]; omega
  have hw : within 0 x x = false := by
    cases hq : within 0 x x with
    | false => rfl
    | true => rw [within_iff] at hq; omega
  have fx : fixOk x = true := by rw [fixOk_iff]; omega
  have fy : fixOk y = true := by rw [fixOk_iff]; omega
  have fny : fixOk (-y) = true := by rw [fixOk_iff]; omega
  have ab : ∀ u : Int, (u = y ∨ u = -y) → -4294967296 ≤ dq u x ∧ dq u x ≤ 4294967296 := by
    intro u hu
    unfold absZ at h
    unfold dq
    split
    · refine ⟨(Int.le_ediv_iff_mul_le (by omega)).2 ?_, Int.ediv_le_of_le_mul (by omega) ?_⟩ <;> (repeat' split at h) <;> omega
    · refine ⟨(Int.le_ediv_iff_mul_le (by omega)).2 ?_, Int.ediv_le_of_le_mul (by omega) ?_⟩ <;> (repeat' split at h) <;> omega
  have a1 := ab y (.inl rfl)
  have a2 := ab (-y) (.inr rfl)
  have d1 := divDown_in fy fx h0 (by omega) (by omega)
  have d2 := divUp_in fy fx h0 (by omega) (by omega)
  have le : dq y x ≤ -dq (-y) x := by
    have s1 := @dq_self y x h0
    have s2 := @dq_self (-y) x h0
    have : (dq y x : Rat) ≤ ((-dq (-y) x : Int) : Rat) := by
      rw [Rat.intCast_neg] at *
      grind
    exact Rat.intCast_le_intCast.1 this
  unfold divI
  rw [oy, ox, hw]
  simp only [Bool.and_self, Bool.not_false, if_true]
  refine comb_bd (fun u hu v hv => ?_) (by decide) (by decide)
  have eu : u = y := by rcases hu with rfl | rfl <;> rfl
  have ev : v = x := by rcases hv with rfl | rfl <;> rfl
  subst eu ev
  exact ⟨_, _, d1, d2, by omega, le, by omega⟩
theorem has_at2 {y x : Int} : Has (divI ⟨y, y⟩ ⟨x, x⟩) ((y : Rat) / x) := by
  have h := has_div (has_at y) (has_at x)
  have e : (y : Rat) / 4294967296 / ((x : Rat) / 4294967296) = (y : Rat) / x := by grind
  rw [e] at h; exact h
theorem absZ_pos {x : Int} : 0 ≤ absZ x := by unfold absZ; split <;> omega
theorem absZ_neg (x : Int) : absZ (-x) = absZ x := by unfold absZ; (repeat' split) <;> omega
/-- How far off an angle may be for the interval to hold it. -/
def rm : Rat := 1/2147483648
theorem turn_gd {k : Int} (h : -2 ≤ k ∧ k ≤ 2) : okI (turnI k) = true ∧ -20000000000 ≤ (turnI k).lo ∧ (turnI k).hi ≤ 20000000000 := by
  obtain rfl | rfl | rfl | rfl | rfl : k = -2 ∨ k = -1 ∨ k = 0 ∨ k = 1 ∨ k = 2 := by omega
  all_goals decide
/-- Directions in the steep case. -/
theorem dir_steep {y x : Int} (hy : openOk y = true) (hx : openOk x = true) (h : absZ x < absZ y) :
    okI (dirA y x) = true ∧ Bd ((x : Rat) / y) 1 ∧ ∀ r, ArcOf r ((x : Rat) / y) → ∀ w, Bd (w - (((if y < 0 then -1 else 1 : Int) : Rat) * qT - r)) rm → Has (dirA y x) w := by
  have hp := @absZ_pos x
  have y0 : y ≠ 0 := by intro e; subst e; unfold absZ at h; (repeat' split at h) <;> omega
  have h3 : openOk y = true ∧ openOk x = true ∧ ¬ (y = 0 ∧ x = 0) := ⟨hy, hx, by omega⟩
  have u := div_unit hx hy y0 (by omega)
  obtain ⟨⟨g1, g2, g3⟩, b, hw⟩ := atanI_arc has_at2 u.1 u.2.1 u.2.2
  obtain ⟨k, hk⟩ : ∃ k : Int, (if y < 0 then -1 else 1 : Int) = k := ⟨_, rfl⟩
  have e : dirA y x = subI (turnI k) (atanI (divI ⟨x, x⟩ ⟨y, y⟩)) := by
    unfold dirA; rw [if_pos h3, if_pos h, hk]
  have t := @turn_gd k (by rw [← hk]; split <;> omega)
  have go := okI_iff.1 g1
  have to := okI_iff.1 t.1
  rw [e, hk]
  refine ⟨(subI_bd t.1 g1 (by omega) (by omega)).2, b, fun r hr w hww => ?_⟩
  have := has_sub (has_turn k) (hw r hr ((k : Rat) * qT - w) (by unfold Bd rm at *; grind))
  exact has_mono this (by grind)
/-- Directions in the flat case. -/
def flatK (y x : Int) : Int := if 0 < x then 0 else if y < 0 then -2 else 2
theorem dir_flat {y x : Int} (hy : openOk y = true) (hx : openOk x = true) (h : ¬ absZ x < absZ y) (h0 : ¬ (y = 0 ∧ x = 0)) :
    okI (dirA y x) = true ∧ Bd ((y : Rat) / x) 1 ∧ ∀ r, ArcOf r ((y : Rat) / x) → ∀ w, Bd (w - ((flatK y x : Rat) * qT + r)) rm → Has (dirA y x) w := by
  have x0 : x ≠ 0 := by intro e; subst e; unfold absZ at h; (repeat' split at h) <;> omega
  have h3 : openOk y = true ∧ openOk x = true ∧ ¬ (y = 0 ∧ x = 0) := ⟨hy, hx, h0⟩
  have u := div_unit hy hx x0 (by omega)
  obtain ⟨⟨g1, g2, g3⟩, b, hw⟩ := atanI_arc has_at2 u.1 u.2.1 u.2.2
  have go := okI_iff.1 g1
  have key : ∀ k : Int, -2 ≤ k ∧ k ≤ 2 → okI (addI (atanI (divI ⟨y, y⟩ ⟨x, x⟩)) (turnI k)) = true ∧ ∀ r, ArcOf r ((y : Rat) / x) → ∀ w, Bd (w - ((k : Rat) * qT + r)) rm → Has (addI (atanI (divI ⟨y, y⟩ ⟨x, x⟩)) (turnI k)) w := by
    intro k hk
    have t := turn_gd hk
    have to := okI_iff.1 t.1
    refine ⟨(addI_bd g1 t.1 (by omega) (by omega)).2, fun r hr w hww => ?_⟩
    have := has_add (hw r hr (w - (k : Rat) * qT) (by unfold Bd rm at *; grind)) (has_turn k)
    exact has_mono this (by grind)
  unfold dirA flatK
  rw [if_pos h3, if_neg h]
  by_cases c1 : 0 < x
  · rw [if_pos c1, if_pos c1]
    refine ⟨g1, b, fun r hr w hww => hw r hr w ?_⟩
    rw [castR0] at hww
    unfold Bd rm at *; grind
  · rw [if_neg c1, if_neg c1]
    by_cases c2 : y < 0
    · rw [if_pos c2, if_pos c2]; exact ⟨(key _ (by omega)).1, b, (key _ (by omega)).2⟩
    · rw [if_neg c2, if_neg c2]; exact ⟨(key _ (by omega)).1, b, (key _ (by omega)).2⟩
theorem arc_one : ArcOf (qT / 2) 1 := by
  refine ⟨qhalf.2, fun _ => by have := qT_1; grind, fun h => by grind, ?_⟩
  unfold Bd eT; constructor <;> decide +kernel
theorem rm0 : (0 : Rat) ≤ rm := by decide +kernel
theorem Has.self {a : Iv} {u : Rat} (h : ∀ w, Bd (w - u) rm → Has a w) {w : Rat} (e : w = u) : Has a w := h w (by subst e; rw [show w - w = 0 by grind]; exact Bd.zero rm0)

end Go.Proofs.YtcnapkdccjibpaaGreat.Eng
