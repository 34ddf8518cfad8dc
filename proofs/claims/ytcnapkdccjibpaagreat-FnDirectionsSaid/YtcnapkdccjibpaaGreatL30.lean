/- What functions of the program compute, and that the program computes it: part 30. -/
import Derived.Test.YtcnapkdccjibpaaGreatTab
import Derived.Test.YtcnapkdccjibpaaGreatEng16
import Derived.Laws.BitsLemmas
import Derived.Laws.Bits64
import Derived.Laws.Bits64b
import Derived.Lib.Mul64
import Derived.Lib.BitFns
import Derived.Laws.Externs
import Derived.Test.YtcnapkdccjibpaaGreatL1
import Derived.Test.YtcnapkdccjibpaaGreatL2
import Derived.Test.YtcnapkdccjibpaaGreatL3
import Derived.Test.YtcnapkdccjibpaaGreatL6
import Derived.Test.YtcnapkdccjibpaaGreatL8
import Derived.Test.YtcnapkdccjibpaaGreatL12
import Derived.Test.YtcnapkdccjibpaaGreatL14
import Derived.Test.YtcnapkdccjibpaaGreatL16
import Derived.Test.YtcnapkdccjibpaaGreatL17
import Derived.Test.YtcnapkdccjibpaaGreatL18
import Derived.Test.YtcnapkdccjibpaaGreatL21
import Derived.Test.YtcnapkdccjibpaaGreatL24
import Derived.Test.YtcnapkdccjibpaaGreatL25
import Derived.Test.YtcnapkdccjibpaaGreatL26
import Derived.Test.YtcnapkdccjibpaaGreatL28
namespace Go.Proofs.YtcnapkdccjibpaaGreat.Eng
open Go Go.RowKit
set_option linter.unusedVariables false
set_option linter.unusedSimpArgs false
set_option maxRecDepth 100000
set_option maxHeartbeats 1000000
-- plain truth25
/-- Quotients of fixes by a fix that is at least as great. -/
theorem div_unit {y x : Int} (hy : openOk y = true) (hx : openOk x = true) (h0 : x ≠ 0) (h : absZ y ≤ absZ x) :
    okI (divI ⟨y, y⟩ ⟨x, x⟩) = true ∧ -4294967296 ≤ (divI ⟨y, y⟩ ⟨x, x⟩).lo ∧ (divI ⟨y, y⟩ ⟨x, x⟩).hi ≤ 4294967296 := by
  have ky := openOk_iff.1 hy
  have kx := openOk_iff.1 hx
  have oy : okI ⟨y, y⟩ = true := by rw [okI_mk]; omega
  have ox : okI ⟨x, x⟩ = true := by rw [okI_mk]; omega
  have hw : within 0 x x = false := by
    cases hq : within 0 x x with
    | false => rfl
    | true => rw [within_iff] at hq; omega
  have fx : fixOk x = true := by rw [fixOk_iff]; omega
  have fy : fixOk y = true := by rw [fixOk_iff]; omega
  have fny : fixOk (-y) = true := by rw [fixOk_iff]; omega
  have ab : ∀ u : Int, (u = y ∨ u = -y) → -4294967296 ≤ dq u x ∧ dq u x ≤ 4294967296 := by
    intro u hu
    unfold absZ at h
    unfold dq
    split
    · refine ⟨(Int.le_ediv_iff_mul_le (by omega)).2 ?_, Int.ediv_le_of_le_mul (by omega) ?_⟩ <;> (repeat' split at h) <;> omega
    · refine ⟨(Int.le_ediv_iff_mul_le (by omega)).2 ?_, Int.ediv_le_of_le_mul (by omega) ?_⟩ <;> (repeat' split at h) <;> omega
  have a1 := ab y (.inl rfl)
  have a2 := ab (-y) (.inr rfl)
  have d1 := divDown_in fy fx h0 (by omega) (by omega)
  have d2 := divUp_in fy fx h0 (by omega) (by omega)
  have le : dq y x ≤ -dq (-y) x := by
    have s1 := @dq_self y x h0
    have s2 := @dq_self (-y) x h0
    have : (dq y x : Rat) ≤ ((-dq (-y) x : Int) : Rat) := by
      rw [Rat.intCast_neg] at *
      grind
    exact Rat.intCast_le_intCast.1 this
  unfold divI
  rw [oy, ox, hw]
  simp only [Bool.and_self, Bool.not_false, if_true]
  refine comb_bd (fun u hu v hv => ?_) (by decide) (by decide)
  have eu : u = y := by rcases hu with rfl | rfl <;> rfl
  have ev : v = x := by rcases hv with rfl | rfl <;> rfl
  subst eu ev
  exact ⟨_, _, d1, d2, by omega, le, by omega⟩
theorem has_at2 {y x : Int} : Has (divI ⟨y, y⟩ ⟨x, x⟩) ((y : Rat) / x) := by
  have h := has_div (has_at y) (has_at x)
  have e : (y : Rat) / 4294967296 / ((x : Rat) / 4294967296) = (y : Rat) / x := by grind
  rw [e] at h; exact h
theorem absZ_pos {x : Int} : 0 ≤ absZ x := by unfold absZ; split <;> omega
theorem absZ_neg (x : Int) : absZ (-x) = absZ x := by unfold absZ; (repeat' split) <;> omega
/-- How far off an angle may be for the interval to hold it. -/
def rm : Rat := 1/2147483648
theorem turn_gd {k : Int} (h : -2 ≤ k ∧ k ≤ 2) : okI (turnI k) = true ∧ -20000000000 ≤ (turnI k).lo ∧ (turnI k).hi ≤ 20000000000 := by
  obtain rfl | rfl | rfl | rfl | rfl : k = -2 ∨ k = -1 ∨ k = 0 ∨ k = 1 ∨ k = 2 := by omega
  all_goals decide
/-- Directions in the steep case. -/
theorem dir_steep {y x : Int} (hy : openOk y = true) (hx : openOk x = true) (h : absZ x < absZ y) :
    okI (dirA y x) = true ∧ Bd ((x : Rat) / y) 1 ∧ ∀ r, ArcOf r ((x : Rat) / y) → ∀ w, Bd (w - (((if y < 0 then -1 else 1 : Int) : Rat) * qT - r)) rm → Has (dirA y x) w := by
  have hp := @absZ_pos x
  have y0 : y ≠ 0 := by intro e; subst e; unfold absZ at h; (repeat' split at h) <;> omega
  have h3 : openOk y = true ∧ openOk x = true ∧ ¬ (y = 0 ∧ x = 0) := ⟨hy, hx, by omega⟩
  have u := div_unit hx hy y0 (by omega)
  obtain ⟨⟨g1, g2, g3⟩, b, hw⟩ := atanI_arc has_at2 u.1 u.2.1 u.2.2
  obtain ⟨k, hk⟩ : ∃ k : Int, (if y < 0 then -1 else 1 : Int) = k := ⟨_, rfl⟩
  have e : dirA y x = subI (turnI k) (atanI (divI ⟨x, x⟩ ⟨y, y⟩)) := by
    unfold dirA; rw [if_pos h3, if_pos h, hk]
  have t := @turn_gd k (by rw [← hk]; split <;> omega)
  have go := okI_iff.1 g1
  have to := okI_iff.1 t.1
  rw [e, hk]
  refine ⟨(subI_bd t.1 g1 (by omega) (by omega)).2, b, fun r hr w hww => ?_⟩
  have := has_sub (has_turn k) (hw r hr ((k : Rat) * qT - w) (by unfold Bd rm at *; grind))
  exact has_mono this (by grind)
/-- Directions in the flat case. -/
def flatK (y x : Int) : Int := if 0 < x then 0 else if y < 0 then -2 else 2
theorem dir_flat {y x : Int} (hy : openOk y = true) (hx : openOk x = true) (h : ¬ absZ x < absZ y) (h0 : ¬ (y = 0 ∧ x = 0)) :
    okI (dirA y x) = true ∧ Bd ((y : Rat) / x) 1 ∧ ∀ r, ArcOf r ((y : Rat) / x) → ∀ w, Bd (w - ((flatK y x : Rat) * qT + r)) rm → Has (dirA y x) w := by
  have x0 : x ≠ 0 := by intro e; subst e; unfold absZ at h; (repeat' split at h) <;> omega
  have h3 : openOk y = true ∧ openOk x = true ∧ ¬ (y = 0 ∧ x = 0) := ⟨hy, hx, h0⟩
  have u := div_unit hy hx x0 (by omega)
  obtain ⟨⟨g1, g2, g3⟩, b, hw⟩ := atanI_arc has_at2 u.1 u.2.1 u.2.2
  have go := okI_iff.1 g1
  have key : ∀ k : Int, -2 ≤ k ∧ k ≤ 2 → okI (addI (atanI (divI ⟨y, y⟩ ⟨x, x⟩)) (turnI k)) = true ∧ ∀ r, ArcOf r ((y : Rat) / x) → ∀ w, Bd (w - ((k : Rat) * qT + r)) rm → Has (addI (atanI (divI ⟨y, y⟩ ⟨x, x⟩)) (turnI k)) w := by
    intro k hk
    have t := turn_gd hk
    have to := okI_iff.1 t.1
    refine ⟨(addI_bd g1 t.1 (by omega) (by omega)).2, fun r hr w hww => ?_⟩
    have := has_add (hw r hr (w - (k : Rat) * qT) (by unfold Bd rm at *; grind)) (has_turn k)
    exact has_mono this (by grind)
  unfold dirA flatK
  rw [if_pos h3, if_neg h]
  by_cases c1 : 0 < x
  · rw [if_pos c1, if_pos c1]
    refine ⟨g1, b, fun r hr w hww => hw r hr w ?_⟩
    rw [castR0] at hww
    unfold Bd rm at *; grind
  · rw [if_neg c1, if_neg c1]
    by_cases c2 : y < 0
    · rw [if_pos c2, if_pos c2]; exact ⟨(key _ (by omega)).1, b, (key _ (by omega)).2⟩
    · rw [if_neg c2, if_neg c2]; exact ⟨(key _ (by omega)).1, b, (key _ (by omega)).2⟩
theorem arc_one : ArcOf (qT / 2) 1 := by
  refine ⟨qhalf.2, fun _ => by have := qT_1; grind, fun h => by grind, ?_⟩
  unfold Bd eT; constructor <;> decide +kernel
theorem rm0 : (0 : Rat) ≤ rm := by decide +kernel
theorem Has.self {a : Iv} {u : Rat} (h : ∀ w, Bd (w - u) rm → Has a w) {w : Rat} (e : w = u) : Has a w := h w (by subst e; rw [show w - w = 0 by grind]; exact Bd.zero rm0)

-- plain truth26
/-- A quarter turn farther. -/
theorem dir_quarter {y x : Int} (hy : -1099511627776 ≤ y ∧ y ≤ 1099511627776) (hx : -1099511627776 ≤ x ∧ x ≤ 1099511627776) (h0 : ¬ (y = 0 ∧ x = 0)) :
    okI (dirA y x) = true ∧ okI (dirA x (-y)) = true ∧ ((meetI (dirA x (-y)) (addI (dirA y x) (turnI 1))).2 = true ∨ (meetI (dirA x (-y)) (subI (addI (dirA y x) (turnI 1)) (turnI 4))).2 = true) := by
  have oy : openOk y = true := openOk_iff.2 (by omega)
  have ox : openOk x = true := openOk_iff.2 (by omega)
  have ony : openOk (-y) = true := openOk_iff.2 (by omega)
  have cn : ((-y : Int) : Rat) = -(y : Rat) := Rat.intCast_neg _
  -- one number that both hold
  have fin : ∀ (p q : Rat), Has (dirA y x) p → Has (dirA x (-y)) q → (q = p + qT ∨ q = p + qT - 4 * qT) →
      ((meetI (dirA x (-y)) (addI (dirA y x) (turnI 1))).2 = true ∨ (meetI (dirA x (-y)) (subI (addI (dirA y x) (turnI 1)) (turnI 4))).2 = true) := by
    intro p q hp hq e
    have h1 := has_add hp (has_turn 1)
    rw [castR1] at h1
    rcases e with e | e
    · exact .inl (over_of hq (has_mono h1 (by grind)))
    · have h2 := has_sub h1 (has_turn 4)
      have : ((4 : Int) : Rat) = 4 := rfl
      rw [this] at h2
      exact .inr (over_of hq (has_mono h2 (by grind)))
  have cm1 := castm1
  have c0 := castR0
  have c1 := castR1
  have c2 := castR2
  have cm2 : ((-2 : Int) : Rat) = -2 := rfl
  by_cases hA : absZ x < absZ y
  · have hB : ¬ absZ (-y) < absZ x := by rw [absZ_neg]; omega
    have y0 : y ≠ 0 := by
      intro e; subst e; have := @absZ_pos x; unfold absZ at hA this; (repeat' split at hA) <;> omega
    obtain ⟨k1, b1, w1⟩ := dir_steep oy ox hA
    obtain ⟨k2, b2, w2⟩ := dir_flat ox ony hB (by omega)
    obtain ⟨r, hr⟩ := ex_arc b1
    have hr' := hr.neg
    have e : -((x : Rat) / y) = (x : Rat) / (-y : Int) := by rw [cn]; have := ne_cast y0; grind
    rw [e] at hr'
    refine ⟨k1, k2, fin _ _ (Has.self (w1 r hr) rfl) (Has.self (w2 _ hr') rfl) ?_⟩
    unfold flatK
    by_cases s : y < 0
    · rw [if_pos s, if_pos (show 0 < -y by omega), cm1, c0]; grind
    · rw [if_neg s, if_neg (show ¬ 0 < -y by omega), c1]
      by_cases s2 : x < 0
      · rw [if_pos s2, cm2]; grind
      · rw [if_neg s2, c2]; grind
  · by_cases hB : absZ (-y) < absZ x
    · have x0 : x ≠ 0 := by
        intro e; subst e; have := @absZ_pos (-y); unfold absZ at hB this; (repeat' split at hB) <;> omega
      obtain ⟨k1, b1, w1⟩ := dir_flat oy ox hA h0
      obtain ⟨k2, b2, w2⟩ := dir_steep ox ony hB
      obtain ⟨r, hr⟩ := ex_arc b1
      have hr' := hr.neg
      have e : -((y : Rat) / x) = ((-y : Int) : Rat) / x := by rw [cn]; have := ne_cast x0; grind
      rw [e] at hr'
      refine ⟨k1, k2, fin _ _ (Has.self (w1 r hr) rfl) (Has.self (w2 _ hr') rfl) ?_⟩
      unfold flatK
      by_cases s : 0 < x
      · rw [if_pos s, if_neg (show ¬ x < 0 by omega), c0, c1]; grind
      · rw [if_neg s, if_pos (show x < 0 by omega), cm1]
        by_cases s2 : y < 0
        · rw [if_pos s2, cm2]; grind
        · rw [if_neg s2, c2]; grind
    · obtain ⟨k1, b1, w1⟩ := dir_flat oy ox hA h0
      obtain ⟨k2, b2, w2⟩ := dir_flat ox ony hB (by omega)
      have hxy : (y = x ∨ y = -x) ∧ x ≠ 0 := by
        rw [absZ_neg] at hB
        unfold absZ at hA hB; (repeat' split at hA) <;> (repeat' split at hB) <;> omega
      obtain ⟨hxy, x0⟩ := hxy
      have nx := ne_cast x0
      refine ⟨k1, k2, ?_⟩
      rcases hxy with rfl | rfl
      · have e1 : (y : Rat) / y = 1 := by grind
        have e2 : (y : Rat) / (-y : Int) = -1 := by rw [cn]; grind
        rw [e1] at w1
        rw [e2] at w2
        refine fin _ _ (Has.self (w1 _ arc_one) rfl) (Has.self (w2 _ arc_one.neg) rfl) ?_
        unfold flatK
        by_cases s : 0 < y
        · rw [if_pos s, if_neg (show ¬ 0 < -y by omega), if_neg (show ¬ y < 0 by omega), c0, c2]; grind
        · rw [if_neg s, if_pos (show 0 < -y by omega), if_pos (show y < 0 by omega), c0, cm2]; grind
      · have e1 : ((-x : Int) : Rat) / x = -1 := by rw [Rat.intCast_neg]; grind
        have e2 : (x : Rat) / (-(-x) : Int) = 1 := by rw [Int.neg_neg]; grind
        rw [e1] at w1
        rw [e2] at w2
        refine fin _ _ (Has.self (w1 _ arc_one.neg) rfl) (Has.self (w2 _ arc_one) rfl) ?_
        unfold flatK
        by_cases s : 0 < x
        · rw [if_pos s, if_pos (show 0 < - -x by omega), c0]; grind
        · rw [if_neg s, if_neg (show ¬ 0 < - -x by omega), if_neg (show ¬ -x < 0 by omega), if_pos (show x < 0 by omega), c2, cm2]; grind
theorem hull_self {a : Iv} (h : okI a = true) : hullI a a = a := by
  unfold hullI; rw [h]; simp only [Bool.and_self, if_true]
  cases a; simp only [Iv.mk.injEq]; omega
theorem inside_self (a : Iv) : insideI a a = true := inside_of fun h => ⟨h, by omega, by omega⟩
theorem dir_at {y x : Int} (hy : openOk y = true) (hx : openOk x = true) (h0 : ¬ (y = 0 ∧ x = 0)) (h : okI (dirA y x) = true) : dirI ⟨y, y⟩ ⟨x, x⟩ = dirA y x := by
  have ky := openOk_iff.1 hy
  have kx := openOk_iff.1 hx
  have oy : okI ⟨y, y⟩ = true := by rw [okI_mk]; omega
  have ox : okI ⟨x, x⟩ = true := by rw [okI_mk]; omega
  unfold dirI
  rw [if_pos ⟨oy, ox, by rw [oy, ox, within_iff, within_iff]; simp only; intro ⟨h1, h2⟩; simp at h1 h2; omega, by simp only; omega⟩]
  simp only [hull_self h]

-- plain truth27
theorem cT_half {x : Rat} (h : Bd x 1) : 1/2 ≤ cT x := by
  have n : 1/2 ≤ cT 1 := by decide +kernel
  by_cases h0 : 0 ≤ x
  · have := cT_mono (x := x) (y := 1) h0 (by decide +kernel) h.2; grind
  · have := cT_mono (x := -x) (y := 1) (by grind) (by decide +kernel) (by unfold Bd at h; grind)
    rw [cT_neg] at this; grind
/-- Angles that are near to one another stand as their sine says. -/
theorem loc_le {r q e : Rat} (hr : Bd r 1) (hq : Bd q 1) (e0 : 0 ≤ e) (hc : sT r * cT q - cT r * sT q ≤ e) : r ≤ q + 5 * e := by
  apply Rat.not_lt.1; intro hlt
  have hle : q ≤ r := by grind
  have st := sT_strict hq hr hle
  have c1 := cT_half hr
  have c2 := cT_half hq
  obtain ⟨δ, hδ⟩ : ∃ δ, (r - q) * (2/5) = δ := ⟨_, rfl⟩
  rw [hδ] at st
  have d0 : 0 ≤ δ := by grind
  have z1 : Bd (0 : Rat) 1 := Bd.zero (by decide +kernel)
  have s0 := sT_0
  by_cases h1 : 0 ≤ q
  · have m := cT_mono h1 hr.2 hle
    have s1 := sT_mono z1 hq h1
    have k1 := Rat.mul_le_mul_of_nonneg_right (show δ ≤ sT r - sT q by grind) (show 0 ≤ cT q by grind)
    have k2 := Rat.mul_le_mul_of_nonneg_left c2 d0
    have k3 := Rat.mul_nonneg (show 0 ≤ sT q by grind) (show 0 ≤ cT q - cT r by grind)
    grind
  · by_cases h2 : r ≤ 0
    · have m := cT_mono' h2 hq.1 hle
      have s1 := sT_mono hr z1 h2
      have k1 := Rat.mul_le_mul_of_nonneg_right (show δ ≤ sT r - sT q by grind) (show 0 ≤ cT r by grind)
      have k2 := Rat.mul_le_mul_of_nonneg_left c1 d0
      have k3 := Rat.mul_nonneg (show 0 ≤ -sT r by grind) (show 0 ≤ cT r - cT q by grind)
      grind
    · have s1 := sT_strict z1 hr (by grind)
      have s2 := sT_strict hq z1 (by grind)
      have k1 := mul_le2 (show 0 ≤ r * (2/5) by grind) (show r * (2/5) ≤ sT r by grind) (show (0 : Rat) ≤ 1/2 by decide +kernel) c2
      have k2 := mul_le2 (show 0 ≤ -q * (2/5) by grind) (show -q * (2/5) ≤ -sT q by grind) (show (0 : Rat) ≤ 1/2 by decide +kernel) c1
      grind
/-- One direction as seen from another. -/
def Seen (k : Int) (r q dot crs : Rat) : Prop :=
  (k % 4 = 0 → dot = cT r * cT q + sT r * sT q ∧ crs = cT r * sT q - sT r * cT q) ∧
  (k % 4 = 1 → dot = -sT r * cT q + cT r * sT q ∧ crs = -sT r * sT q - cT r * cT q) ∧
  (k % 4 = 2 → dot = -cT r * cT q + -sT r * sT q) ∧
  (k % 4 = 3 → dot = sT r * cT q + -cT r * sT q ∧ crs = sT r * sT q + cT r * cT q)
theorem seen (d t : Int) (r q : Rat) : Seen (d - t) r q (VV (d + 1) r * VV (t + 1) q + VV d r * VV t q) (VV (d + 1) r * VV t q - VV d r * VV (t + 1) q) := by
  refine ⟨fun h => ?_, fun h => ?_, fun h => ?_, fun h => ?_⟩ <;> rcases mod4 t with e | e | e | e
  all_goals first | rw [V0 (k := d) (by omega)] | rw [V1 (k := d) (by omega)] | rw [V2 (k := d) (by omega)] | rw [V3 (k := d) (by omega)]
  all_goals first | rw [V0 (k := d + 1) (by omega)] | rw [V1 (k := d + 1) (by omega)] | rw [V2 (k := d + 1) (by omega)] | rw [V3 (k := d + 1) (by omega)]
  all_goals first | rw [V0 (k := t) (by omega)] | rw [V1 (k := t) (by omega)] | rw [V2 (k := t) (by omega)] | rw [V3 (k := t) (by omega)]
  all_goals first | rw [V0 (k := t + 1) (by omega)] | rw [V1 (k := t + 1) (by omega)] | rw [V2 (k := t + 1) (by omega)] | rw [V3 (k := t + 1) (by omega)]
  all_goals first | (constructor <;> grind) | grind
theorem sq_bd {x e : Rat} (he : 0 ≤ e) (h : x * x ≤ e * e) : Bd x e := by
  by_cases h0 : 0 ≤ x
  · have := sq_le h0 he h; unfold Bd; grind
  · have := sq_le (a := -x) (b := e) (by grind) he (by grind); unfold Bd; grind
theorem close {A B c s : Rat} (h1 : A * A + B * B ≤ 1 + 1/1000000) (h2 : c * c + s * s ≤ 1 + 1/1000000) (hd : 1 - 2/1000000 ≤ A * c + B * s) : Bd (A - c) (1/300) ∧ Bd (B - s) (1/300) := by
  have p1 := sq_nonneg (A - c)
  have p2 := sq_nonneg (B - s)
  constructor
  · refine sq_bd (by decide +kernel) ?_; grind
  · refine sq_bd (by decide +kernel) ?_; grind

-- plain truth28
theorem c45 : 69/100 ≤ cT (4/5) := by decide +kernel
theorem s35 : sT (3/5) ≤ 57/100 ∧ -(57/100) ≤ sT (-(3/5)) := by constructor <;> decide +kernel
/-- Where two directions point nearly alike, their angles stand as their sine says. -/
theorem dir_order {d t : Int} {r q : Rat} (hr : Bd r (4/5)) (hq : Bd q (4/5)) (hd : -2 ≤ d ∧ d ≤ 2) (ht : -2 ≤ t ∧ t ≤ 2)
    (s1 : d = 2 → r ≤ 0) (s2 : d = -2 → 0 ≤ r) (q1 : t = 2 → q ≤ -(1/10)) (q2 : t = -2 → 1/10 ≤ q)
    (hdot : 1 - 2/1000000 ≤ VV (d + 1) r * VV (t + 1) q + VV d r * VV t q) :
    (-(6/1000000000000) ≤ VV (d + 1) r * VV t q - VV d r * VV (t + 1) q → (d : Rat) * qT + r ≤ (t : Rat) * qT + q + 1/10000000000) ∧
    (VV (d + 1) r * VV t q - VV d r * VV (t + 1) q ≤ 6/1000000000000 → (t : Rat) * qT + q ≤ (d : Rat) * qT + r + 1/10000000000) := by
  obtain ⟨f0, f1, f2, f3⟩ := seen d t r q
  have pr := pyth hr
  have pq := pyth hq
  have cr := cT_low hr
  have cq := cT_low hq
  have n1 := c45
  have n2 := s35
  have ep : eps ≤ 1/10000000 := by decide +kernel
  have r1 := hr.mono (e := 1) (by decide +kernel)
  have q1' := hq.mono (e := 1) (by decide +kernel)
  have qt := qT_1
  have qt2 : 15707/10000 ≤ qT ∧ qT ≤ 15708/10000 := by constructor <;> decide +kernel
  have es : 4 * eps ≤ 1/1000000000000000 := by decide +kernel
  have z1 : Bd (0 : Rat) 1 := Bd.zero (by decide +kernel)
  have s0 := sT_0
  obtain ⟨k, hk⟩ : ∃ k, d - t = k := ⟨_, rfl⟩
  rw [hk] at f0 f1 f2 f3
  generalize VV (d + 1) r * VV (t + 1) q + VV d r * VV t q = dot at *
  generalize VV (d + 1) r * VV t q - VV d r * VV (t + 1) q = crs at *
  have hdt : (d : Rat) * qT = (t : Rat) * qT + (k : Rat) * qT := by
    have : d = t + k := by omega
    rw [this, Rat.intCast_add]; grind
  rcases mod4 k with e | e | e | e
  · obtain ⟨rfl, rfl⟩ := f0 e
    obtain ⟨g1, g2⟩ := close (by unfold Bd at pr; grind) (by unfold Bd at pq; grind) hdot
    obtain rfl | rfl | rfl : k = 0 ∨ k = 4 ∨ k = -4 := by omega
    · rw [castR0] at hdt
      constructor
      · intro h
        have := loc_le r1 q1' (e := 6/1000000000000) (by decide +kernel) (by grind); grind
      · intro h
        have := loc_le q1' r1 (e := 6/1000000000000) (by decide +kernel) (by grind); grind
    · exfalso
      have a1 := s1 (by omega)
      have a2 := q2 (by omega)
      have a3 := sT_mono r1 z1 a1
      have a4 := sT_strict z1 q1' (by grind)
      unfold Bd at g2; grind
    · exfalso
      have a1 := s2 (by omega)
      have a2 := q1 (by omega)
      have a3 := sT_mono z1 r1 a1
      have a4 := sT_strict q1' z1 (by grind)
      unfold Bd at g2; grind
  · obtain ⟨rfl, rfl⟩ := f1 e
    obtain ⟨g1, g2⟩ := close (by unfold Bd at pr; grind) (by unfold Bd at pq; grind) hdot
    obtain rfl | rfl : k = 1 ∨ k = -3 := by omega
    · rw [castR1] at hdt
      have hrl : r ≤ -(3/5) := by
        apply Rat.not_lt.1; intro hlt
        have := sT_mono (x := -(3/5)) (y := r) (by unfold Bd; constructor <;> decide +kernel) r1 (by grind)
        unfold Bd at g1; grind
      have b1 : Bd (r + qT) 1 := by unfold Bd at *; grind
      have v1 := V_shift 0 hr
      have v2 := V_shift 1 hr
      rw [V0 (k := 0) (by decide), V1 (k := 0 + 1) (by decide)] at v1
      rw [V1 (k := 1) (by decide), V2 (k := 1 + 1) (by decide)] at v2
      have hcq : Bd (cT q) 1 := by have := cT_le1 hq; unfold Bd; grind
      have hsq : Bd (sT q) 1 := (sT_in hq).mono (by decide +kernel)
      have m1 := v1.mul hcq
      have m2 := v2.mul hsq
      constructor
      · intro h
        have := loc_le b1 q1' (e := 7/1000000000000) (by decide +kernel) (by unfold Bd at m1 m2; grind); grind
      · intro h
        have := loc_le q1' b1 (e := 7/1000000000000) (by decide +kernel) (by unfold Bd at m1 m2; grind); grind
    · exfalso
      by_cases hd2 : d = -2
      · have a1 := s2 hd2
        have a3 := sT_mono z1 r1 a1
        unfold Bd at g1; grind
      · have a2 := q1 (by omega)
        have a4 := sT_mono q1' z1 (by grind)
        unfold Bd at g2; grind
  · exfalso
    have h := f2 e
    rw [h] at hdot
    obtain ⟨g1, g2⟩ := close (by unfold Bd at pr; grind) (by unfold Bd at pq; grind) hdot
    unfold Bd at g1; grind
  · obtain ⟨rfl, rfl⟩ := f3 e
    obtain ⟨g1, g2⟩ := close (by unfold Bd at pr; grind) (by unfold Bd at pq; grind) hdot
    obtain rfl | rfl : k = -1 ∨ k = 3 := by omega
    · rw [castm1] at hdt
      have hrl : 3/5 ≤ r := by
        apply Rat.not_lt.1; intro hlt
        have := sT_mono (x := r) (y := 3/5) r1 (by unfold Bd; constructor <;> decide +kernel) (by grind)
        unfold Bd at g1; grind
      have b1 : Bd (r - qT) 1 := by unfold Bd at *; grind
      have v1 := V_shift' 0 hr
      have v2 := V_shift' 1 hr
      rw [V0 (k := 0) (by decide), V3 (k := 0 - 1) (by decide)] at v1
      rw [V1 (k := 1) (by decide), V0 (k := 1 - 1) (by decide)] at v2
      have hcq : Bd (cT q) 1 := by have := cT_le1 hq; unfold Bd; grind
      have hsq : Bd (sT q) 1 := (sT_in hq).mono (by decide +kernel)
      have m1 := v1.mul hcq
      have m2 := v2.mul hsq
      constructor
      · intro h
        have := loc_le b1 q1' (e := 7/1000000000000) (by decide +kernel) (by unfold Bd at m1 m2; grind); grind
      · intro h
        have := loc_le q1' b1 (e := 7/1000000000000) (by decide +kernel) (by unfold Bd at m1 m2; grind); grind
    · exfalso
      by_cases hd2 : d = 2
      · have a1 := s1 hd2
        have a3 := sT_mono r1 z1 a1
        unfold Bd at g1; grind
      · have a2 := q2 (by omega)
        have a4 := sT_mono z1 q1' (by grind)
        unfold Bd at g2; grind
/-- A point near the direction of an angle: its own angle, and the sign of their product. -/
theorem dir_near {d t : Int} {r q X Y : Rat} (hr : Bd r (4/5)) (hq : Bd q (4/5)) (hd : -2 ≤ d ∧ d ≤ 2) (ht : -2 ≤ t ∧ t ≤ 2)
    (s1 : d = 2 → r ≤ 0) (s2 : d = -2 → 0 ≤ r) (q1 : t = 2 → q ≤ -(1/10)) (q2 : t = -2 → 1/10 ≤ q)
    (hP : Bd (VV d r * X - VV (d + 1) r * Y) eT) (hD : 0 ≤ VV (d + 1) r * X + VV d r * Y)
    (hX : Bd (X - VV (t + 1) q) (1/10000000)) (hY : Bd (Y - VV t q) (1/10000000)) :
    (-(1/1000000000000000) ≤ X * VV t q - Y * VV (t + 1) q → (d : Rat) * qT + r ≤ (t : Rat) * qT + q + 1/10000000000) ∧
    (X * VV t q - Y * VV (t + 1) q ≤ 1/1000000000000000 → (t : Rat) * qT + q ≤ (d : Rat) * qT + r + 1/10000000000) := by
  have pr := pythV d hr
  have pq := pythV t hq
  have ep : eps ≤ 1/100000000000000 := by decide +kernel
  have a1 := V_1 (d + 1) hr
  have b1 := V_1 d hr
  have c1 := V_1 (t + 1) hq
  have t1 := V_1 t hq
  have main := fun hdot => dir_order hr hq hd ht s1 s2 q1 q2 hdot
  clear s1 s2 q1 q2 hd ht
  generalize VV (d + 1) r = a at *
  generalize VV d r = b at *
  generalize VV (t + 1) q = c at *
  generalize VV t q = s at *
  obtain ⟨u, hu⟩ : ∃ u, X - c = u := ⟨_, rfl⟩
  obtain ⟨v, hv⟩ : ∃ v, Y - s = v := ⟨_, rfl⟩
  rw [hu] at hX
  rw [hv] at hY
  have ex : X = c + u := by grind
  have ey : Y = s + v := by grind
  subst ex ey
  have k1 := c1.mul hX
  have k2 := t1.mul hY
  have k3 := a1.mul hX
  have k4 := b1.mul hY
  have k5 := sq_nonneg u
  have k6 := sq_nonneg v
  obtain ⟨D, hDe⟩ : ∃ D, a * (c + u) + b * (s + v) = D := ⟨_, rfl⟩
  obtain ⟨C, hCe⟩ : ∃ C, b * (c + u) - a * (s + v) = C := ⟨_, rfl⟩
  obtain ⟨K, hK⟩ : ∃ K, (c + u) * s - (s + v) * c = K := ⟨_, rfl⟩
  obtain ⟨G, hG⟩ : ∃ G, a * s - b * c = G := ⟨_, rfl⟩
  obtain ⟨F, hF⟩ : ∃ F, a * c + b * s = F := ⟨_, rfl⟩
  rw [hDe] at hD
  rw [hCe] at hP
  rw [hK]
  rw [hG, hF] at main
  have eT1 : eT ≤ 4/1000000000000 := by decide +kernel
  have N1 : Bd (a * a + b * b - 1) (1/100000000000000) := by unfold Bd at *; grind
  have V2 : 1 - 5/10000000 ≤ (c + u) * (c + u) + (s + v) * (s + v) := by unfold Bd at *; grind
  have id1 : D * D + C * C = (a * a + b * b) * ((c + u) * (c + u) + (s + v) * (s + v)) := by rw [← hDe, ← hCe]; grind
  have id2 : G * D + C * F = (a * a + b * b) * K := by rw [← hDe, ← hCe, ← hK, ← hG, ← hF]; grind
  have C2 := hP.mul hP
  have D1 : 1 - 1/1000000 ≤ D := by
    apply Rat.not_lt.1; intro hlt
    have m := mul_le2 hD (Rat.le_of_lt hlt) hD (Rat.le_of_lt hlt)
    have m2 := Rat.mul_le_mul_of_nonneg_left V2 (show 0 ≤ a * a + b * b by unfold Bd at N1; grind)
    have m3 : eT * eT ≤ 1/100000000000000 := by decide +kernel
    unfold Bd at *
    grind
  have F1 : 1 - 2/1000000 ≤ F := by unfold Bd at k3 k4; grind
  have F2 : F ≤ 1 + 1/1000000 := by
    have p1 := sq_nonneg (a - c)
    have p2 := sq_nonneg (b - s)
    unfold Bd at *; grind
  obtain ⟨m1, m2⟩ := main F1
  have CF := hP.mul (show Bd F (1 + 1/1000000) by unfold Bd; grind)
  have eN : a * a + b * b = 1 + (a * a + b * b - 1) := by grind
  generalize a * a + b * b - 1 = N at *
  rw [eN] at id2
  constructor
  · intro h
    apply m1
    apply Rat.not_lt.1; intro hlt
    have x1 := Rat.mul_le_mul_of_nonneg_left D1 (show 0 ≤ -G by grind)
    by_cases hk : 0 ≤ K
    · have := Rat.mul_nonneg (show 0 ≤ 1 + N by unfold Bd at N1; grind) hk
      unfold Bd at CF; grind
    · have := Rat.mul_le_mul_of_nonneg_left (show -K ≤ 1/1000000000000000 by grind) (show 0 ≤ 1 + N by unfold Bd at N1; grind)
      unfold Bd at CF N1; grind
  · intro h
    apply m2
    apply Rat.not_lt.1; intro hlt
    have x1 := Rat.mul_le_mul_of_nonneg_left D1 (show 0 ≤ G by grind)
    by_cases hk : K ≤ 0
    · have := Rat.mul_nonneg (show 0 ≤ 1 + N by unfold Bd at N1; grind) (show 0 ≤ -K by grind)
      unfold Bd at CF; grind
    · have := Rat.mul_le_mul_of_nonneg_left (show K ≤ 1/1000000000000000 by grind) (show 0 ≤ 1 + N by unfold Bd at N1; grind)
      unfold Bd at CF N1; grind

-- plain truth29
theorem unit_bd {x : Int} (h : -4294967296 ≤ x ∧ x ≤ 4294967296) : Bd ((x : Rat) / 4294967296) 1 := by
  have c1 := Rat.intCast_le_intCast.2 h.1
  have c2 := Rat.intCast_le_intCast.2 h.2
  have e1 : ((-4294967296 : Int) : Rat) = -4294967296 := rfl
  have e2 : ((4294967296 : Int) : Rat) = 4294967296 := rfl
  rw [e1] at c1
  rw [e2] at c2
  unfold Bd; grind
theorem same_sign {ρ y : Rat} (h : ArcOf ρ y) : (0 ≤ y → 0 ≤ sT ρ) ∧ (y ≤ 0 → sT ρ ≤ 0) := by
  have z1 : Bd (0 : Rat) 1 := Bd.zero (by decide +kernel)
  have s0 := sT_0
  have r1 := h.1.mono (e := 1) (by decide +kernel)
  exact ⟨fun k => by have := sT_mono z1 r1 (h.2.1 k); grind, fun k => by have := sT_mono r1 z1 (h.2.2.1 k); grind⟩
/-- The direction of a point: its angle, and that this is the point's. -/
theorem dir_rep {y x : Int} (hy : -4294967296 ≤ y ∧ y ≤ 4294967296) (hx : -4294967296 ≤ x ∧ x ≤ 4294967296) (h0 : ¬ (y = 0 ∧ x = 0)) :
    ∃ (d : Int) (r : Rat), Bd r (4/5) ∧ (-2 ≤ d ∧ d ≤ 2) ∧ (d = 2 → r ≤ 0) ∧ (d = -2 → 0 ≤ r) ∧
      Bd (VV d r * ((x : Rat) / 4294967296) - VV (d + 1) r * ((y : Rat) / 4294967296)) eT ∧ 0 ≤ VV (d + 1) r * ((x : Rat) / 4294967296) + VV d r * ((y : Rat) / 4294967296) ∧
      ∀ w, Bd (w - ((d : Rat) * qT + r)) rm → Has (dirA y x) w := by
  have oy : openOk y = true := openOk_iff.2 (by omega)
  have ox : openOk x = true := openOk_iff.2 (by omega)
  have by1 := unit_bd hy
  have bx1 := unit_bd hx
  have e0 : (0 : Rat) ≤ eT := by decide +kernel
  by_cases hA : absZ x < absZ y
  · have y0 : y ≠ 0 := by
      intro e; subst e; have := @absZ_pos x; unfold absZ at hA this; (repeat' split at hA) <;> omega
    have ny := ne_cast y0
    obtain ⟨_, b1, w1⟩ := dir_steep oy ox hA
    obtain ⟨ρ, hρ⟩ := ex_arc b1
    have hs := same_sign hρ
    have cp := cT_pos hρ.1
    have h4 := hρ.2.2.2
    have m := h4.mul by1
    have e : (sT ρ - (x : Rat) / y * cT ρ) * ((y : Rat) / 4294967296) = sT ρ * ((y : Rat) / 4294967296) - cT ρ * ((x : Rat) / 4294967296) := by grind
    rw [e] at m
    by_cases s : y < 0
    · have w2 := w1 ρ hρ
      rw [if_pos s] at w2
      have yn := neg_cast s
      refine ⟨-1, -ρ, hρ.1.neg, by omega, by omega, by omega, ?_, ?_, fun w hw => w2 w (by
        have e : (-1 : Int) * qT - ρ = (-1 : Int) * qT + -ρ := by grind
        rw [e]; exact hw)⟩
      · rw [V3 (k := -1) (by decide), V0 (k := -1 + 1) (by decide), cT_neg, sT_neg]
        unfold Bd at *; grind
      · rw [V3 (k := -1) (by decide), V0 (k := -1 + 1) (by decide), cT_neg, sT_neg]
        have p1 := Rat.mul_nonneg (Rat.le_of_lt cp) (show 0 ≤ -((y : Rat) / 4294967296) by grind)
        by_cases hxs : 0 ≤ x
        · have xp := Rat.intCast_le_intCast.2 hxs
          rw [castR0] at xp
          have q : (x : Rat) / y ≤ 0 := by
            have : (x : Rat) / y = -((x : Rat) / -(y : Rat)) := by grind
            rw [this]
            have := (le_div_iff (a := 0) (b := (x : Rat)) (c := -(y : Rat)) (by grind)).2 (by grind)
            grind
          have := Rat.mul_nonneg (show 0 ≤ -sT ρ by have := hs.2 q; grind) (show 0 ≤ (x : Rat) / 4294967296 by grind)
          grind
        · have xp := neg_cast (show x < 0 by omega)
          have q : 0 ≤ (x : Rat) / y := by
            have : (x : Rat) / y = (-(x : Rat)) / (-(y : Rat)) := by grind
            rw [this]
            exact (le_div_iff (by grind)).2 (by grind)
          have := Rat.mul_nonneg (show 0 ≤ sT ρ by exact hs.1 q) (show 0 ≤ -((x : Rat) / 4294967296) by grind)
          grind
    · have w2 := w1 ρ hρ
      rw [if_neg s] at w2
      have yp := pos_cast (show 0 < y by omega)
      refine ⟨1, -ρ, hρ.1.neg, by omega, by omega, by omega, ?_, ?_, fun w hw => w2 w (by
        have e : (1 : Int) * qT - ρ = (1 : Int) * qT + -ρ := by grind
        rw [e]; exact hw)⟩
      · rw [V1 (k := 1) (by decide), V2 (k := 1 + 1) (by decide), cT_neg, sT_neg]
        unfold Bd at *; grind
      · rw [V1 (k := 1) (by decide), V2 (k := 1 + 1) (by decide), cT_neg, sT_neg]
        have p1 := Rat.mul_nonneg (Rat.le_of_lt cp) (show 0 ≤ (y : Rat) / 4294967296 by grind)
        by_cases hxs : 0 ≤ x
        · have xp := Rat.intCast_le_intCast.2 hxs
          rw [castR0] at xp
          have q : 0 ≤ (x : Rat) / y := (le_div_iff yp).2 (by grind)
          have := Rat.mul_nonneg (hs.1 q) (show 0 ≤ (x : Rat) / 4294967296 by grind)
          grind
        · have xp := neg_cast (show x < 0 by omega)
          have q : (x : Rat) / y ≤ 0 := (div_le_iff yp).2 (by grind)
          have := Rat.mul_nonneg (show 0 ≤ -sT ρ by have := hs.2 q; grind) (show 0 ≤ -((x : Rat) / 4294967296) by grind)
          grind
  · have x0 : x ≠ 0 := by
      intro e; subst e; unfold absZ at hA; (repeat' split at hA) <;> omega
    have nx := ne_cast x0
    obtain ⟨_, b1, w1⟩ := dir_flat oy ox hA h0
    obtain ⟨ρ, hρ⟩ := ex_arc b1
    have hs := same_sign hρ
    have cp := cT_pos hρ.1
    have h4 := hρ.2.2.2
    have m := h4.mul bx1
    have e : (sT ρ - (y : Rat) / x * cT ρ) * ((x : Rat) / 4294967296) = sT ρ * ((x : Rat) / 4294967296) - cT ρ * ((y : Rat) / 4294967296) := by grind
    rw [e] at m
    by_cases s : 0 < x
    · have xp := pos_cast s
      have ek : flatK y x = 0 := by unfold flatK; rw [if_pos s]
      rw [ek] at w1
      refine ⟨0, ρ, hρ.1, by omega, by omega, by omega, ?_, ?_, fun w hw => w1 ρ hρ w hw⟩
      · rw [V0 (k := 0) (by decide), V1 (k := 0 + 1) (by decide)]
        unfold Bd at *; grind
      · rw [V0 (k := 0) (by decide), V1 (k := 0 + 1) (by decide)]
        have p1 := Rat.mul_nonneg (Rat.le_of_lt cp) (show 0 ≤ (x : Rat) / 4294967296 by grind)
        by_cases hys : 0 ≤ y
        · have yp := Rat.intCast_le_intCast.2 hys
          rw [castR0] at yp
          have q : 0 ≤ (y : Rat) / x := (le_div_iff xp).2 (by grind)
          have := Rat.mul_nonneg (hs.1 q) (show 0 ≤ (y : Rat) / 4294967296 by grind)
          grind
        · have yp := neg_cast (show y < 0 by omega)
          have q : (y : Rat) / x ≤ 0 := (div_le_iff xp).2 (by grind)
          have := Rat.mul_nonneg (show 0 ≤ -sT ρ by have := hs.2 q; grind) (show 0 ≤ -((y : Rat) / 4294967296) by grind)
          grind
    · have xn := neg_cast (show x < 0 by omega)
      have p1 := Rat.mul_nonneg (Rat.le_of_lt cp) (show 0 ≤ -((x : Rat) / 4294967296) by grind)
      by_cases hys : y < 0
      · have yn := neg_cast hys
        have ek : flatK y x = -2 := by unfold flatK; rw [if_neg s, if_pos hys]
        rw [ek] at w1
        have q : 0 ≤ (y : Rat) / x := by
          have : (y : Rat) / x = (-(y : Rat)) / (-(x : Rat)) := by grind
          rw [this]
          exact (le_div_iff (by grind)).2 (by grind)
        refine ⟨-2, ρ, hρ.1, by omega, by omega, fun _ => hρ.2.1 q, ?_, ?_, fun w hw => w1 ρ hρ w hw⟩
        · rw [V2 (k := -2) (by decide), V3 (k := -2 + 1) (by decide)]
          unfold Bd at *; grind
        · rw [V2 (k := -2) (by decide), V3 (k := -2 + 1) (by decide)]
          have := Rat.mul_nonneg (hs.1 q) (show 0 ≤ -((y : Rat) / 4294967296) by grind)
          grind
      · have yp := Rat.intCast_le_intCast.2 (show 0 ≤ y by omega)
        rw [castR0] at yp
        have ek : flatK y x = 2 := by unfold flatK; rw [if_neg s, if_neg hys]
        rw [ek] at w1
        have q : (y : Rat) / x ≤ 0 := by
          have : (y : Rat) / x = -((y : Rat) / -(x : Rat)) := by grind
          rw [this]
          have := (le_div_iff (a := 0) (b := (y : Rat)) (c := -(x : Rat)) (by grind)).2 (by grind)
          grind
        refine ⟨2, ρ, hρ.1, by omega, fun _ => hρ.2.2.1 q, by omega, ?_, ?_, fun w hw => w1 ρ hρ w hw⟩
        · rw [V2 (k := 2) (by decide), V3 (k := 2 + 1) (by decide)]
          unfold Bd at *; grind
        · rw [V2 (k := 2) (by decide), V3 (k := 2 + 1) (by decide)]
          have := Rat.mul_nonneg (show 0 ≤ -sT ρ by have := hs.2 q; grind) (show 0 ≤ (y : Rat) / 4294967296 by grind)
          grind

-- plain truth30
theorem near_corner {v lo hi : Int} {c T : Rat} (hv : v = lo ∨ v = hi) (h1 : (lo : Rat) ≤ c * 4294967296) (h2 : c * 4294967296 ≤ (hi : Rat)) (hw : hi - lo ≤ 80) (hT : Bd (c - T) eps) : Bd ((v : Rat) / 4294967296 - T) (1/10000000) := by
  have c1 := Rat.intCast_le_intCast.2 hw
  rw [Rat.intCast_sub] at c1
  have e80 : ((80 : Int) : Rat) = 80 := rfl
  rw [e80] at c1
  have ep : eps ≤ 1/100000000000 := by decide +kernel
  rcases hv with rfl | rfl <;> (unfold Bd at *; constructor <;> grind)
theorem hull_out {a b : Iv} (h : okI (hullI a b) = true) : okI a = true ∧ okI b = true := by
  unfold hullI at h
  split at h
  · rename_i k; simpa using k
  · rw [okI_whole] at h; cases h
/-- The direction of an angle's sine and cosine. -/
theorem dir_back {t : Int} (h : -13000000000 ≤ t ∧ t ≤ 13000000000) (hok : okI (dirI (circ t 0) (circ t 1)) = true) : (meetI (dirI (circ t 0) (circ t 1)) ⟨t, t⟩).2 = true := by
  have ha : angleOk t = true := angle_of (by omega)
  have hq := rr_bd ha
  have qv := quarter_val ha
  have pl := placeR t
  have k2 : -2 ≤ quarter t ∧ quarter t ≤ 2 := by rw [qv]; omega
  have qn : 15707/10000 ≤ qT ∧ qT ≤ 15708/10000 := by constructor <;> decide +kernel
  have c1 := Rat.intCast_le_intCast.2 h.1
  have c2 := Rat.intCast_le_intCast.2 h.2
  have e1 : ((-13000000000 : Int) : Rat) = -13000000000 := rfl
  have e2 : ((13000000000 : Int) : Rat) = 13000000000 := rfl
  rw [e1] at c1
  rw [e2] at c2
  have cm2 : ((-2 : Int) : Rat) = -2 := rfl
  have q1 : quarter t = 2 → rrA t ≤ -(1/10) := by
    intro e; rw [e, castR2] at pl; grind
  have q2 : quarter t = -2 → 1/10 ≤ rrA t := by
    intro e; rw [e, cm2] at pl; grind
  have i0 := circ_inR t 0
  have i1 := circ_inR t 1
  have w0 := circ_wid ha 0
  have w1 := circ_wid ha 1
  have H0 := has_ctr (t := 0) ha i0.1
  have H1 := has_ctr (t := 1) ha i1.1
  have n0 := ctr_near (t := 0) ha
  have n1 := ctr_near (t := 1) ha
  have t0e : TTr t 0 = VV (quarter t) (rrA t) := by unfold TTr; rw [Int.add_zero]
  have t1e : TTr t 1 = VV (quarter t + 1) (rrA t) := rfl
  rw [t0e] at n0
  rw [t1e] at n1
  have B0 := ctr_one t 0
  have B1 := ctr_one t 1
  obtain ⟨s', hs'⟩ : ∃ s', ctr t 0 = s' := ⟨_, rfl⟩
  obtain ⟨c', hc'⟩ : ∃ c', ctr t 1 = c' := ⟨_, rfl⟩
  rw [hs'] at H0 n0 B0
  rw [hc'] at H1 n1 B1
  generalize circ t 0 = Y at *
  generalize circ t 1 = X at *
  obtain ⟨_, y1, y2⟩ := i0
  obtain ⟨_, x1, x2⟩ := i1
  rename_i oY oX
  have hd : dirI Y X = hullI (hullI (dirA Y.lo X.lo) (dirA Y.lo X.hi)) (hullI (dirA Y.hi X.lo) (dirA Y.hi X.hi)) := by
    unfold dirI at hok ⊢
    split at hok
    · rename_i hc; rw [if_pos hc]
    · rw [okI_whole] at hok; cases hok
  rw [hd] at hok ⊢
  have ylh := (okI_iff.1 oY).2.1
  have xlh := (okI_iff.1 oX).2.1
  -- what holds of every corner
  have corner : ∀ y x, (y = Y.lo ∨ y = Y.hi) → (x = X.lo ∨ x = X.hi) → ∀ w, Has (dirA y x) w → Has (hullI (hullI (dirA Y.lo X.lo) (dirA Y.lo X.hi)) (hullI (dirA Y.hi X.lo) (dirA Y.hi X.hi))) w := by
    intro y x hy hx w hw
    rcases hy with rfl | rfl <;> rcases hx with rfl | rfl
    · exact has_hull1 (has_hull1 hw)
    · exact has_hull1 (has_hull2 hw)
    · exact has_hull2 (has_hull1 hw)
    · exact has_hull2 (has_hull2 hw)
  have okc : ∀ y x, (y = Y.lo ∨ y = Y.hi) → (x = X.lo ∨ x = X.hi) → okI (dirA y x) = true := by
    have g := hull_out hok
    have g1 := hull_out g.1
    have g2 := hull_out g.2
    intro y x hy hx
    rcases hy with rfl | rfl <;> rcases hx with rfl | rfl
    · exact g1.1
    · exact g1.2
    · exact g2.1
    · exact g2.2
  have at_ : ∀ y x, (y = Y.lo ∨ y = Y.hi) → (x = X.lo ∨ x = X.hi) →
      (0 ≤ (x : Rat) / 4294967296 * s' - (y : Rat) / 4294967296 * c' → ∃ w, w ≤ (t : Rat) / 4294967296 ∧ Has (dirA y x) w) ∧
      ((x : Rat) / 4294967296 * s' - (y : Rat) / 4294967296 * c' ≤ 0 → ∃ w, (t : Rat) / 4294967296 ≤ w ∧ Has (dirA y x) w) := by
    intro y x hy hx
    have o := okc y x hy hx
    have nz : ¬ (y = 0 ∧ x = 0) := by
      rintro ⟨rfl, rfl⟩
      rw [dirA_w (by simp)] at o
      rw [okI_whole] at o; cases o
    have yb : -4294967296 ≤ y ∧ y ≤ 4294967296 := by rcases hy with rfl | rfl <;> omega
    have xb : -4294967296 ≤ x ∧ x ≤ 4294967296 := by rcases hx with rfl | rfl <;> omega
    obtain ⟨d, r, hr, hdb, s1, s2, hP, hD, hH⟩ := dir_rep yb xb nz
    have nY := near_corner hy H0.1 H0.2 w0 n0
    have nX := near_corner hx H1.1 H1.2 w1 n1
    have main := dir_near hr hq hdb k2 s1 s2 q1 q2 hP hD nX nY
    have uy := unit_bd yb
    have ux := unit_bd xb
    have m1 := ux.mul n0
    have m2 := uy.mul n1
    have ep : 2 * eps ≤ 1/1000000000000000 := by decide +kernel
    have erm : 1/10000000000 ≤ rm := by decide +kernel
    have r0 := rm0
    constructor
    · intro hpos
      have := main.1 (by unfold Bd at m1 m2; grind)
      by_cases hc : (d : Rat) * qT + r ≤ (t : Rat) / 4294967296
      · exact ⟨_, hc, Has.self hH rfl⟩
      · exact ⟨(t : Rat) / 4294967296, by grind, hH _ (by unfold Bd; grind)⟩
    · intro hneg
      have := main.2 (by unfold Bd at m1 m2; grind)
      by_cases hc : (t : Rat) / 4294967296 ≤ (d : Rat) * qT + r
      · exact ⟨_, hc, Has.self hH rfl⟩
      · exact ⟨(t : Rat) / 4294967296, by grind, hH _ (by unfold Bd; grind)⟩
  have pick : ∀ (lo hi : Int) (c s : Rat), (lo : Rat) ≤ c * 4294967296 → c * 4294967296 ≤ (hi : Rat) → (∃ x : Int, (x = lo ∨ x = hi) ∧ c * s ≤ (x : Rat) / 4294967296 * s) ∧ (∃ x : Int, (x = lo ∨ x = hi) ∧ (x : Rat) / 4294967296 * s ≤ c * s) := by
    intro lo hi c s h1 h2
    by_cases hs : 0 ≤ s
    · exact ⟨⟨hi, .inr rfl, Rat.mul_le_mul_of_nonneg_right (by grind) hs⟩, ⟨lo, .inl rfl, Rat.mul_le_mul_of_nonneg_right (by grind) hs⟩⟩
    · have a1 := Rat.mul_le_mul_of_nonneg_right (show (lo : Rat) / 4294967296 ≤ c by grind) (show 0 ≤ -s by grind)
      have a2 := Rat.mul_le_mul_of_nonneg_right (show c ≤ (hi : Rat) / 4294967296 by grind) (show 0 ≤ -s by grind)
      exact ⟨⟨lo, .inl rfl, by grind⟩, ⟨hi, .inr rfl, by grind⟩⟩
  obtain ⟨⟨xa, ha1, ha2⟩, ⟨xb, hb1, hb2⟩⟩ := pick X.lo X.hi c' s' H1.1 H1.2
  obtain ⟨⟨ya, hc1, hc2⟩, ⟨yb, hd1, hd2⟩⟩ := pick Y.lo Y.hi s' c' H0.1 H0.2
  obtain ⟨u, u1, u2⟩ := (at_ yb xa hd1 ha1).1 (by grind)
  obtain ⟨v, v1, v2⟩ := (at_ ya xb hc1 hb1).2 (by grind)
  have U := corner yb xa hd1 ha1 u u2
  have V := corner ya xb hc1 hb1 v v2
  refine over_of (x := (t : Rat) / 4294967296) (fun hk => ?_) (has_at t)
  have a1 := U hk
  have a2 := V hk
  constructor <;> grind

end Go.Proofs.YtcnapkdccjibpaaGreat.Eng
