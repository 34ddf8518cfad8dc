/- What functions of the program compute, and that the program computes it: part 20. -/
import Derived.Test.YtcnapkdccjibpaaGreatDoorTab
import Derived.Test.YtcnapkdccjibpaaGreatDoorEng16
import Derived.Laws.BitsLemmas
import Derived.Laws.Bits64
import Derived.Laws.Bits64b
import Derived.Lib.Mul64
import Derived.Lib.BitFns
import Derived.Laws.Externs
import Derived.Test.YtcnapkdccjibpaaGreatDoorL1
import Derived.Test.YtcnapkdccjibpaaGreatDoorL2
import Derived.Test.YtcnapkdccjibpaaGreatDoorL4
import Derived.Test.YtcnapkdccjibpaaGreatDoorL5
import Derived.Test.YtcnapkdccjibpaaGreatDoorL6
import Derived.Test.YtcnapkdccjibpaaGreatDoorL10
import Derived.Test.YtcnapkdccjibpaaGreatDoorL11
namespace Go.Proofs.YtcnapkdccjibpaaGreatDoor.Eng
open Go Go.RowKit
set_option linter.unusedVariables false
set_option linter.unusedSimpArgs false
set_option maxRecDepth 100000
set_option maxHeartbeats 1000000
-- plain has1
/-- An interval holds a number. -/
def Has (a : Iv) (x : Rat) : Prop := okI a = true → (a.lo : Rat) ≤ x * 4294967296 ∧ x * 4294967296 ≤ (a.hi : Rat)
theorem has_whole {x : Rat} : Has whole x := by intro h; rw [okI_whole] at h; cases h
theorem has_no {a : Iv} {x : Rat} (h : okI a = false) : Has a x := by intro h'; rw [h] at h'; cases h'
theorem has_in {lo hi : Int} {x : Rat} (h1 : (lo : Rat) ≤ x * 4294967296) (h2 : x * 4294967296 ≤ (hi : Rat)) : Has ⟨lo, hi⟩ x := fun _ => ⟨h1, h2⟩
theorem has_mk {lo hi : Int} {x : Rat} (h1 : (lo : Rat) ≤ x * 4294967296) (h2 : x * 4294967296 ≤ (hi : Rat)) : Has (mkI lo hi) x := by
  unfold mkI
  split
  · exact has_in h1 h2
  · exact has_whole
theorem has_at (n : Int) : Has ⟨n, n⟩ ((n : Rat) / 4294967296) := by
  intro _; constructor <;> simp only <;> grind
theorem has_int (n : Int) : Has (intI n) (n : Rat) := by
  unfold intI
  split
  · refine has_mk ?_ ?_ <;> rw [Rat.intCast_mul] <;> exact Rat.le_refl
  · exact has_whole
theorem has_add {a b : Iv} {x y : Rat} (ha : Has a x) (hb : Has b y) : Has (addI a b) (x + y) := by
  unfold addI
  split
  · rename_i h
    rw [Bool.and_eq_true] at h
    have h1 := ha h.1
    have h2 := hb h.2
    refine has_mk ?_ ?_ <;> rw [Rat.intCast_add] <;> grind
  · exact has_whole
theorem has_sub {a b : Iv} {x y : Rat} (ha : Has a x) (hb : Has b y) : Has (subI a b) (x - y) := by
  unfold subI
  split
  · rename_i h
    rw [Bool.and_eq_true] at h
    have h1 := ha h.1
    have h2 := hb h.2
    refine has_mk ?_ ?_ <;> rw [Rat.intCast_sub] <;> grind
  · exact has_whole
theorem has_neg {a : Iv} {x : Rat} (ha : Has a x) : Has (negI a) (-x) := by
  unfold negI
  split
  · rename_i h
    have h1 := ha h
    refine has_in ?_ ?_ <;> rw [Rat.intCast_neg] <;> grind
  · exact has_whole
theorem has_dbl {a : Iv} {x : Rat} (ha : Has a x) : Has (dblI a) (x + x) := has_add ha ha
theorem has_hull1 {a b : Iv} {x : Rat} (ha : Has a x) : Has (hullI a b) x := by
  unfold hullI
  split
  · rename_i h
    rw [Bool.and_eq_true] at h
    have h1 := ha h.1
    have e1 : ((min a.lo b.lo : Int) : Rat) ≤ a.lo := Rat.intCast_le_intCast.2 (by omega)
    have e2 : (a.hi : Rat) ≤ ((max a.hi b.hi : Int) : Rat) := Rat.intCast_le_intCast.2 (by omega)
    refine has_in ?_ ?_ <;> grind
  · exact has_whole
theorem hull_comm (a b : Iv) : hullI a b = hullI b a := by
  unfold hullI
  rw [Bool.and_comm, Int.min_comm, Int.max_comm]
theorem has_hull2 {a b : Iv} {x : Rat} (hb : Has b x) : Has (hullI a b) x := by
  rw [hull_comm]; exact has_hull1 hb
theorem over_of {a b : Iv} {x : Rat} (ha : Has a x) (hb : Has b x) : (meetI a b).2 = true := by
  unfold meetI
  split
  · rename_i h1
    split
    · rename_i h2
      have h3 := ha h1
      have h4 := hb h2
      have k1 := okI_iff.1 h1
      have k2 := okI_iff.1 h2
      have e1 : (a.lo : Rat) ≤ b.hi := by grind
      have e2 : (b.lo : Rat) ≤ a.hi := by grind
      rw [Rat.intCast_le_intCast] at e1 e2
      rw [if_neg (by omega)]
    · rfl
  · split <;> rfl
theorem has_meet {a b : Iv} {x : Rat} (ha : Has a x) (hb : Has b x) : Has (meetI a b).1 x := by
  unfold meetI
  split
  · rename_i h1
    split
    · rename_i h2
      have h3 := ha h1
      have h4 := hb h2
      split
      · rename_i h5
        have e1 : (a.lo : Rat) ≤ b.hi := by grind
        have e2 : (b.lo : Rat) ≤ a.hi := by grind
        rw [Rat.intCast_le_intCast] at e1 e2
        have k1 := okI_iff.1 h1
        have k2 := okI_iff.1 h2
        omega
      · rename_i h5
        refine has_in ?_ ?_
        · rcases (by omega : max a.lo b.lo = a.lo ∨ max a.lo b.lo = b.lo) with e | e <;> rw [e] <;> grind
        · rcases (by omega : min a.hi b.hi = a.hi ∨ min a.hi b.hi = b.hi) with e | e <;> rw [e] <;> grind
    · exact ha
  · split
    · exact hb
    · exact has_whole
theorem floor_le {n : Int} {d : Int} (hd : 0 < d) : ((n / d : Int) : Rat) * d ≤ n := by
  rw [← Rat.intCast_mul, Rat.intCast_le_intCast]
  exact Int.ediv_mul_le n (by omega)
theorem lt_floor {n : Int} {d : Int} (hd : 0 < d) : (n : Rat) < (((n / d : Int) : Rat) + 1) * d := by
  have : n < (n / d + 1) * d := by
    rw [Int.add_mul]
    have h1 := Int.emod_add_mul_ediv n d
    have h2 := Int.emod_lt_of_pos n hd
    rw [Int.mul_comm] at h1
    omega
  have h := Rat.intCast_lt_intCast.2 this
  rw [Rat.intCast_mul, Rat.intCast_add] at h
  exact h
/-- A product lies between two of its ends. -/
theorem mul_mid {p q u v : Rat} (h1 : p ≤ u) (h2 : u ≤ q) : (p * v ≤ u * v ∨ q * v ≤ u * v) ∧ (u * v ≤ p * v ∨ u * v ≤ q * v) := by
  by_cases hv : 0 ≤ v
  · exact ⟨.inl (Rat.mul_le_mul_of_nonneg_right h1 hv), .inr (Rat.mul_le_mul_of_nonneg_right h2 hv)⟩
  · have hv' : 0 ≤ -v := by grind
    have e1 := Rat.mul_le_mul_of_nonneg_right h1 hv'
    have e2 := Rat.mul_le_mul_of_nonneg_right h2 hv'
    exact ⟨.inr (by grind), .inl (by grind)⟩
theorem mul_corner {p q r s u v : Rat} (h1 : p ≤ u) (h2 : u ≤ q) (h3 : r ≤ v) (h4 : v ≤ s) :
    (p * r ≤ u * v ∨ p * s ≤ u * v ∨ q * r ≤ u * v ∨ q * s ≤ u * v) ∧ (u * v ≤ p * r ∨ u * v ≤ p * s ∨ u * v ≤ q * r ∨ u * v ≤ q * s) := by
  have a := mul_mid (v := v) h1 h2
  have b := mul_mid (v := p) h3 h4
  have c := mul_mid (v := q) h3 h4
  rw [Rat.mul_comm v p, Rat.mul_comm r p, Rat.mul_comm s p] at b
  rw [Rat.mul_comm v q, Rat.mul_comm r q, Rat.mul_comm s q] at c
  grind
theorem wideInt_out {w : Int} (h : (wideInt w).2 = true) : (wideInt w).1 = w := by
  unfold wideInt at *
  split at h
  · rename_i h1; rw [if_pos h1]
  · cases h
theorem fixed_out {n : Int} {b : Bool} (h : (fixed n b).2 = true) : (fixed n b).1 = n ∧ b = true := by
  unfold fixed at *
  split at h
  · rename_i h1; rw [if_pos h1]; rw [Bool.and_eq_true] at h1; exact ⟨rfl, h1.1⟩
  · cases h
theorem mulDown_out {a b : Int} (h : (mulDown a b).2 = true) : (mulDown a b).1 = a * b / 4294967296 := by
  unfold mulDown at *
  split at h
  · rename_i h1
    rw [if_pos h1]
    have := fixed_out h
    rw [this.1]
    unfold mulFloor at *
    rw [wideInt_out this.2]
    rfl
  · cases h
theorem mulUp_out {a b : Int} (h : (mulUp a b).2 = true) : (mulUp a b).1 = -(-a * b / 4294967296) := by
  unfold mulUp at *
  split at h
  · rename_i h1
    rw [if_pos h1]
    simp only at h ⊢
    rw [mulDown_out h]
  · cases h
theorem divDown_out {a b : Int} (h : (divDown a b).2 = true) : (0 < b ∧ (divDown a b).1 = a * 4294967296 / b) ∨ (b < 0 ∧ (divDown a b).1 = -a * 4294967296 / -b) := by
  unfold divDown at *
  split at h
  · rename_i h1
    rw [if_pos h1]
    split at h
    · rename_i h2
      rw [if_pos h2]
      have := fixed_out h
      rw [this.1]
      unfold mulDiv at *
      rw [if_pos (by omega)] at *
      exact .inr ⟨h2, wideInt_out this.2⟩
    · rename_i h2
      rw [if_neg h2]
      have := fixed_out h
      rw [this.1]
      unfold mulDiv at *
      by_cases h3 : 0 < b
      · rw [if_pos h3] at *
        exact .inl ⟨h3, wideInt_out this.2⟩
      · rw [if_neg h3] at this; cases this.2
  · cases h
theorem divUp_out {a b : Int} (h : (divUp a b).2 = true) : (0 < b ∧ (divUp a b).1 = -(-a * 4294967296 / b)) ∨ (b < 0 ∧ (divUp a b).1 = -(a * 4294967296 / -b)) := by
  unfold divUp at *
  split at h
  · rename_i h1
    rw [if_pos h1]
    simp only at h ⊢
    rcases divDown_out h with ⟨h2, e⟩ | ⟨h2, e⟩ <;> rw [e]
    · exact .inl ⟨h2, rfl⟩
    · rw [Int.neg_neg]; exact .inr ⟨h2, rfl⟩
  · cases h
theorem comb_out {d u : Int → Int → Int × Bool} {a b : Iv} (h : okI (comb d u a b) = true) :
    ((d a.lo b.lo).2 = true ∧ (u a.lo b.lo).2 = true ∧ (d a.lo b.hi).2 = true ∧ (u a.lo b.hi).2 = true ∧ (d a.hi b.lo).2 = true ∧ (u a.hi b.lo).2 = true ∧ (d a.hi b.hi).2 = true ∧ (u a.hi b.hi).2 = true) ∧
    (comb d u a b).lo ≤ (d a.lo b.lo).1 ∧ (comb d u a b).lo ≤ (d a.lo b.hi).1 ∧ (comb d u a b).lo ≤ (d a.hi b.lo).1 ∧ (comb d u a b).lo ≤ (d a.hi b.hi).1 ∧
    (u a.lo b.lo).1 ≤ (comb d u a b).hi ∧ (u a.lo b.hi).1 ≤ (comb d u a b).hi ∧ (u a.hi b.lo).1 ≤ (comb d u a b).hi ∧ (u a.hi b.hi).1 ≤ (comb d u a b).hi := by
  unfold comb at *
  split at h
  · rename_i h1
    rw [if_pos h1]
    simp only [Bool.and_eq_true] at h1
    unfold mkI at *
    split at h
    · rename_i h2
      rw [if_pos h2]
      refine ⟨by grind, ?_⟩
      simp only
      omega
    · rw [okI_whole] at h; cases h
  · rw [okI_whole] at h; cases h
/-- Rounding down, as a fact of rationals. -/
theorem down_le {n : Int} : ((n / 4294967296 : Int) : Rat) * 4294967296 ≤ n := by
  have := floor_le (n := n) (d := 4294967296) (by decide)
  exact this
theorem le_up {n : Int} : (n : Rat) ≤ ((-(-n / 4294967296) : Int) : Rat) * 4294967296 := by
  have := down_le (n := -n)
  rw [Rat.intCast_neg] at *
  grind
theorem has_mul {a b : Iv} {x y : Rat} (ha : Has a x) (hb : Has b y) : Has (mulI a b) (x * y) := by
  unfold mulI
  split
  · rename_i h
    rw [Bool.and_eq_true] at h
    intro hok
    obtain ⟨⟨d1, u1, d2, u2, d3, u3, d4, u4⟩, l1, l2, l3, l4, g1, g2, g3, g4⟩ := comb_out hok
    rw [mulDown_out d1] at l1
    rw [mulDown_out d2] at l2
    rw [mulDown_out d3] at l3
    rw [mulDown_out d4] at l4
    rw [mulUp_out u1] at g1
    rw [mulUp_out u2] at g2
    rw [mulUp_out u3] at g3
    rw [mulUp_out u4] at g4
    simp only [Int.neg_mul] at g1 g2 g3 g4
    have hx := ha h.1
    have hy := hb h.2
    have hc := mul_corner hx.1 hx.2 hy.1 hy.2
    generalize (comb mulDown mulUp a b).lo = L at *
    generalize (comb mulDown mulUp a b).hi = G at *
    have k1 := Rat.intCast_le_intCast.2 l1
    have k2 := Rat.intCast_le_intCast.2 l2
    have k3 := Rat.intCast_le_intCast.2 l3
    have k4 := Rat.intCast_le_intCast.2 l4
    have m1 := Rat.intCast_le_intCast.2 g1
    have m2 := Rat.intCast_le_intCast.2 g2
    have m3 := Rat.intCast_le_intCast.2 g3
    have m4 := Rat.intCast_le_intCast.2 g4
    have f1 := down_le (n := a.lo * b.lo)
    have f2 := down_le (n := a.lo * b.hi)
    have f3 := down_le (n := a.hi * b.lo)
    have f4 := down_le (n := a.hi * b.hi)
    have c1 := le_up (n := a.lo * b.lo)
    have c2 := le_up (n := a.lo * b.hi)
    have c3 := le_up (n := a.hi * b.lo)
    have c4 := le_up (n := a.hi * b.hi)
    rw [Rat.intCast_mul] at f1 f2 f3 f4 c1 c2 c3 c4
    have e : x * 4294967296 * (y * 4294967296) = x * y * 4294967296 * 4294967296 := by grind
    rw [e] at hc
    generalize x * y * 4294967296 = Z at *
    constructor
    · rcases hc.1 with hc | hc | hc | hc <;> grind
    · rcases hc.2 with hc | hc | hc | hc <;> grind
  · exact has_whole

-- plain has2
theorem pos_cast {n : Int} (h : 0 < n) : (0 : Rat) < n := by
  have := Rat.intCast_lt_intCast.2 h; exact this
theorem neg_cast {n : Int} (h : n < 0) : (n : Rat) < 0 := by
  have := Rat.intCast_lt_intCast.2 h; exact this
theorem ne_cast {n : Int} (h : n ≠ 0) : (n : Rat) ≠ 0 := by
  rcases Int.lt_or_gt_of_ne h with h | h
  · have := neg_cast h; grind
  · have := pos_cast h; grind
theorem le_div_iff {a b c : Rat} (h : 0 < c) : a ≤ b / c ↔ a * c ≤ b := by
  have := @Rat.div_lt_iff b c a h
  grind
theorem div_le_iff {a b c : Rat} (h : 0 < b) : a / b ≤ c ↔ a ≤ c * b := by
  have := @Rat.lt_div_iff c a b h
  grind
/-- What a quotient rounded down says. -/
theorem divDown_le {a b : Int} (h : (divDown a b).2 = true) : b ≠ 0 ∧ ((divDown a b).1 : Rat) ≤ (a : Rat) / b * 4294967296 := by
  rcases divDown_out h with ⟨hb, e⟩ | ⟨hb, e⟩ <;> rw [e]
  · refine ⟨by omega, ?_⟩
    have h1 := floor_le (n := a * 4294967296) (d := b) hb
    have h2 := pos_cast hb
    rw [Rat.intCast_mul] at h1
    generalize ((a * 4294967296 / b : Int) : Rat) = q at *
    have h3 : q ≤ ((a : Rat) * ((4294967296 : Int) : Rat)) / b := by
      rw [le_div_iff h2]; exact h1
    have e2 : ((a : Rat) * ((4294967296 : Int) : Rat)) / b = (a : Rat) / b * 4294967296 := by grind
    rw [← e2]; exact h3
  · refine ⟨by omega, ?_⟩
    have hb' : 0 < -b := by omega
    have h1 := floor_le (n := -a * 4294967296) (d := -b) hb'
    have h2 := pos_cast hb'
    rw [Rat.intCast_mul] at h1
    generalize ((-a * 4294967296 / -b : Int) : Rat) = q at *
    have h3 : q ≤ (((-a : Int) : Rat) * ((4294967296 : Int) : Rat)) / ((-b : Int) : Rat) := by
      rw [le_div_iff h2]; exact h1
    have hb0 := ne_cast (show b ≠ 0 by omega)
    have e2 : (((-a : Int) : Rat) * ((4294967296 : Int) : Rat)) / ((-b : Int) : Rat) = (a : Rat) / b * 4294967296 := by
      rw [Rat.intCast_neg, Rat.intCast_neg]
      have : (-(b : Rat)) ≠ 0 := by grind
      grind
    rw [← e2]; exact h3
theorem le_divUp {a b : Int} (h : (divUp a b).2 = true) : b ≠ 0 ∧ (a : Rat) / b * 4294967296 ≤ ((divUp a b).1 : Rat) := by
  have hd : (divDown (-a) b).2 = true ∧ (divUp a b).1 = -(divDown (-a) b).1 := by
    unfold divUp at *
    split at h
    · rename_i h1; rw [if_pos h1]; exact ⟨h, rfl⟩
    · cases h
  have := divDown_le hd.1
  refine ⟨this.1, ?_⟩
  rw [hd.2, Rat.intCast_neg]
  have h2 := this.2
  rw [Rat.intCast_neg] at h2
  have e : -(a : Rat) / b * 4294967296 = -((a : Rat) / b * 4294967296) := by grind
  grind
/-- A quotient lies between those of two ends, where the divisors have one sign. -/
theorem div_mid {p r s v : Rat} (h1 : r ≤ v) (h2 : v ≤ s) (h : 0 < r ∨ s < 0) : (p / r ≤ p / v ∨ p / s ≤ p / v) ∧ (p / v ≤ p / r ∨ p / v ≤ p / s) := by
  have key : ∀ {a b : Rat}, a ≤ b → (0 < a ∨ b < 0) → b⁻¹ ≤ a⁻¹ := by
    intro a b hab h0
    have ha : a ≠ 0 := by grind
    have hb : b ≠ 0 := by grind
    have e1 : a⁻¹ - b⁻¹ = (b - a) * (a * b)⁻¹ := by grind
    have e2 : 0 ≤ (b - a) * (a * b)⁻¹ := by
      refine Rat.mul_nonneg (by grind) ?_
      refine Rat.le_of_lt (Rat.inv_pos.2 ?_)
      rcases h0 with h0 | h0
      · exact Rat.mul_pos h0 (by grind)
      · have := Rat.mul_pos (a := -a) (b := -b) (by grind) (by grind)
        grind
    grind
  have i1 : v⁻¹ ≤ r⁻¹ := key h1 (by grind)
  have i2 : s⁻¹ ≤ v⁻¹ := key h2 (by grind)
  have m := mul_mid (v := p) i2 i1
  rw [Rat.div_def, Rat.div_def, Rat.div_def]
  rw [Rat.mul_comm p, Rat.mul_comm p, Rat.mul_comm p]
  grind
theorem div_mid1 {p q u v : Rat} (h1 : p ≤ u) (h2 : u ≤ q) : (p / v ≤ u / v ∨ q / v ≤ u / v) ∧ (u / v ≤ p / v ∨ u / v ≤ q / v) := by
  have := mul_mid (v := v⁻¹) h1 h2
  rw [Rat.div_def, Rat.div_def, Rat.div_def]
  exact this
theorem div_corner {p q r s u v : Rat} (h1 : p ≤ u) (h2 : u ≤ q) (h3 : r ≤ v) (h4 : v ≤ s) (h : 0 < r ∨ s < 0) :
    (p / r ≤ u / v ∨ p / s ≤ u / v ∨ q / r ≤ u / v ∨ q / s ≤ u / v) ∧ (u / v ≤ p / r ∨ u / v ≤ p / s ∨ u / v ≤ q / r ∨ u / v ≤ q / s) := by
  have a := div_mid1 (v := v) h1 h2
  have b := div_mid (p := p) h3 h4 h
  have c := div_mid (p := q) h3 h4 h
  grind
theorem divI_out {a b : Iv} (hok : okI (divI a b) = true) : okI a = true ∧ okI b = true ∧ (0 < b.lo ∨ b.hi < 0) ∧ okI (comb divDown divUp a b) = true ∧ divI a b = comb divDown divUp a b := by
  unfold divI at *
  split at hok
  · rename_i h
    rw [if_pos h]
    simp only [Bool.and_eq_true, Bool.not_eq_true'] at h
    have h2 := okI_iff.1 h.1.2
    have h3 : ¬ (b.lo ≤ 0 ∧ 0 ≤ b.hi) := by
      rw [← within_iff, h.2]; decide
    exact ⟨h.1.1, h.1.2, by omega, hok, rfl⟩
  · rw [okI_whole] at hok; cases hok
theorem has_div {a b : Iv} {x y : Rat} (ha : Has a x) (hb : Has b y) : Has (divI a b) (x / y) := by
  intro hok
  obtain ⟨h1, h2, hs, hk, e⟩ := divI_out hok
  rw [e]
  obtain ⟨⟨d1, u1, d2, u2, d3, u3, d4, u4⟩, l1, l2, l3, l4, g1, g2, g3, g4⟩ := comb_out hk
  have hx := ha h1
  have hy := hb h2
  have hs' : (0 : Rat) < b.lo ∨ (b.hi : Rat) < 0 := by
    rcases hs with hs | hs
    · exact .inl (pos_cast hs)
    · exact .inr (neg_cast hs)
  have hc := div_corner hx.1 hx.2 hy.1 hy.2 hs'
  have hy0 : y ≠ 0 := by grind
  have e : x * 4294967296 / (y * 4294967296) = x / y := by grind
  rw [e] at hc
  generalize (comb divDown divUp a b).lo = L at *
  generalize (comb divDown divUp a b).hi = G at *
  have k1 := Rat.intCast_le_intCast.2 l1
  have k2 := Rat.intCast_le_intCast.2 l2
  have k3 := Rat.intCast_le_intCast.2 l3
  have k4 := Rat.intCast_le_intCast.2 l4
  have m1 := Rat.intCast_le_intCast.2 g1
  have m2 := Rat.intCast_le_intCast.2 g2
  have m3 := Rat.intCast_le_intCast.2 g3
  have m4 := Rat.intCast_le_intCast.2 g4
  have f1 := (divDown_le d1).2
  have f2 := (divDown_le d2).2
  have f3 := (divDown_le d3).2
  have f4 := (divDown_le d4).2
  have c1 := (le_divUp u1).2
  have c2 := (le_divUp u2).2
  have c3 := (le_divUp u3).2
  have c4 := (le_divUp u4).2
  generalize x / y = Z at *
  generalize (a.lo : Rat) / b.lo = w1 at *
  generalize (a.lo : Rat) / b.hi = w2 at *
  generalize (a.hi : Rat) / b.lo = w3 at *
  generalize (a.hi : Rat) / b.hi = w4 at *
  constructor
  · rcases hc.1 with hc | hc | hc | hc <;> grind
  · rcases hc.2 with hc | hc | hc | hc <;> grind
/-- What is in an absolute value. -/
def absR (x : Rat) : Rat := if x < 0 then -x else x
theorem absI_ok {a : Iv} (h : okI a = true) : okI (absI a) = true := by
  unfold absI
  rw [if_pos h]
  have := okI_iff.1 h
  rw [okI_mk]
  have e1 : 0 ≤ nearI a := by unfold nearI absZ; split <;> (repeat' split) <;> omega
  have e2 : nearI a ≤ farI a := by unfold nearI farI absZ; split <;> (repeat' split) <;> omega
  have e3 : farI a < 1152921504606846976 := by unfold farI absZ; (repeat' split) <;> omega
  omega
theorem has_abs {a : Iv} {x : Rat} (ha : Has a x) : Has (absI a) (absR x) := by
  unfold absI
  split
  · rename_i h
    have hx := ha h
    have ho := okI_iff.1 h
    refine has_in ?_ ?_
    · unfold nearI
      split
      · rename_i hw
        unfold absR; split <;> grind
      · rename_i hw
        rw [within_iff] at hw
        rcases (by omega : 0 < a.lo ∨ a.hi < 0) with h0 | h0
        · have hm : min (absZ a.lo) (absZ a.hi) = a.lo := by (rw [absZ, absZ]; (repeat' split) <;> omega)
          have := pos_cast h0
          rw [hm]; unfold absR; split <;> grind
        · have hm : min (absZ a.lo) (absZ a.hi) = -a.hi := by (rw [absZ, absZ]; (repeat' split) <;> omega)
          have := neg_cast h0
          rw [hm, Rat.intCast_neg]; unfold absR; split <;> grind
    · have e1 : a.hi ≤ farI a := by unfold farI absZ; split <;> split <;> omega
      have e2 : -a.lo ≤ farI a := by unfold farI absZ; split <;> split <;> omega
      have k1 := Rat.intCast_le_intCast.2 e1
      have k2 := Rat.intCast_le_intCast.2 e2
      rw [Rat.intCast_neg] at k2
      unfold absR; split <;> grind
  · exact has_whole
theorem absI_nonneg {a : Iv} (h : okI a = true) : 0 ≤ (absI a).lo := by
  unfold absI
  rw [if_pos h]
  have e1 : 0 ≤ nearI a := by unfold nearI absZ; split <;> (repeat' split) <;> omega
  exact e1
theorem sqrI_out {a : Iv} (hok : okI (sqrI a) = true) : okI a = true ∧ (sqrI a).lo = (absI a).lo * (absI a).lo / 4294967296 ∧ (sqrI a).hi = -(-(absI a).hi * (absI a).hi / 4294967296) := by
  unfold sqrI at *
  split at hok
  · rename_i h
    rw [if_pos h]
    split at hok
    · rename_i h2
      rw [if_pos h2]
      rw [Bool.and_eq_true] at h2
      unfold mkI at *
      split at hok
      · rename_i h3
        rw [if_pos h3]
        exact ⟨h, mulDown_out h2.1, mulUp_out h2.2⟩
      · rw [okI_whole] at hok; cases hok
    · rw [okI_whole] at hok; cases hok
  · rw [okI_whole] at hok; cases hok
theorem sq_mono {a b : Rat} (h0 : 0 ≤ a) (h : a ≤ b) : a * a ≤ b * b := by
  have h1 := Rat.mul_le_mul_of_nonneg_left h h0
  have h2 := Rat.mul_le_mul_of_nonneg_right h (show (0 : Rat) ≤ b by grind)
  grind
theorem absR_sq (x : Rat) : absR x * absR x = x * x := by unfold absR; split <;> grind
theorem absR_nonneg (x : Rat) : 0 ≤ absR x := by unfold absR; split <;> grind
theorem has_sqr {a : Iv} {x : Rat} (ha : Has a x) : Has (sqrI a) (x * x) := by
  intro hok
  obtain ⟨h, e1, e2⟩ := sqrI_out hok
  rw [e1, e2]
  have hx := has_abs ha (absI_ok h)
  have h0 := Rat.intCast_le_intCast.2 (absI_nonneg h)
  have s1 := sq_mono (show (0 : Rat) ≤ ((absI a).lo : Rat) by exact h0) hx.1
  have s2 := sq_mono (show (0 : Rat) ≤ absR x * 4294967296 by have := absR_nonneg x; grind) hx.2
  have e3 : absR x * 4294967296 * (absR x * 4294967296) = x * x * 4294967296 * 4294967296 := by
    rw [← absR_sq x]; grind
  rw [e3] at s1 s2
  have f1 := down_le (n := (absI a).lo * (absI a).lo)
  have f2 := le_up (n := (absI a).hi * (absI a).hi)
  rw [Int.neg_mul]
  rw [Rat.intCast_mul] at f1 f2
  generalize x * x * 4294967296 = Z at *
  constructor <;> grind
theorem has_half {a : Iv} {x : Rat} (ha : Has a x) : Has (halfI a) (x / 2) := by
  unfold halfI
  split
  · rename_i h
    have hx := ha h
    refine has_in ?_ ?_
    · have := floor_le (n := a.lo) (d := 2) (by decide)
      have e : (((2 : Int)) : Rat) = 2 := rfl
      rw [e] at this
      grind
    · have h1 : a.hi ≤ (a.hi + 1) / 2 * 2 := by omega
      have := Rat.intCast_le_intCast.2 h1
      rw [Rat.intCast_mul] at this
      have e : (((2 : Int)) : Rat) = 2 := rfl
      rw [e] at this
      grind
  · exact has_whole
theorem has_quot {n d : Int} : Has (quotI n d) ((n : Rat) / d) := by
  have key : ∀ n d : Int, d ≠ 0 → Has (quotP n d) ((n : Rat) / d) := by
    intro n d hd
    unfold quotP
    split
    · rename_i h
      rw [Bool.and_eq_true] at h
      have h1 := fixed_out h.1
      have h2 := fixed_out h.2
      rw [show fixFloor n d = fixed (mulDiv n 4294967296 d).1 (mulDiv n 4294967296 d).2 from rfl, show fixCeil n d = fixed (mulDivUp n 4294967296 d).1 (mulDivUp n 4294967296 d).2 from rfl, h1.1, h2.1]
      have h3 := h1.2
      have h4 := h2.2
      unfold mulDiv mulDivUp at *
      by_cases hp : 0 < d
      · rw [if_pos hp] at *
        have hdr := pos_cast hp
        have eq : ((n : Rat) * ((4294967296 : Int) : Rat)) / d = (n : Rat) / d * 4294967296 := by grind
        refine has_mk ?_ ?_
        · rw [wideInt_out h3]
          have f := floor_le (n := n * 4294967296) (d := d) hp
          rw [Rat.intCast_mul, ← le_div_iff hdr, eq] at f
          exact f
        · have f := lt_floor (n := n * 4294967296) (d := d) hp
          rw [Rat.intCast_mul, ← Rat.div_lt_iff hdr, eq] at f
          rw [if_pos h3]
          rw [if_pos h3] at h4
          by_cases hm : n * 4294967296 % d = 0
          · rw [if_pos hm]
            first | rw [wideInt_out h3] | rw [if_pos hp, wideInt_out h3]
            have e : n * 4294967296 = n * 4294967296 / d * d := by
              have := Int.emod_add_mul_ediv (n * 4294967296) d
              rw [hm, Int.zero_add, Int.mul_comm] at this
              exact this.symm
            have e' : ((n * 4294967296 : Int) : Rat) = ((n * 4294967296 / d * d : Int) : Rat) := by rw [← e]
            rw [Rat.intCast_mul, Rat.intCast_mul] at e'
            rw [← eq, div_le_iff hdr, e']
            exact Rat.le_refl
          · rw [if_neg hm] at h4 ⊢
            split at h4
            · cases h4
            · rename_i h6
              rw [if_neg h6]
              first | rw [wideInt_out h3, Rat.intCast_add] | rw [if_pos hp, wideInt_out h3, Rat.intCast_add]
              exact Rat.le_of_lt f
      · rw [if_neg hp] at h3; cases h3
    · exact has_whole
  unfold quotI
  by_cases hd0 : d = 0
  · subst hd0
    rw [if_neg (by omega)]
    unfold quotP
    split
    · rename_i h
      rw [Bool.and_eq_true] at h
      have h1 := (fixed_out h.1).2
      unfold mulDiv at h1
      rw [if_neg (by omega)] at h1
      cases h1
    · exact has_whole
  · split
    · split
      · exact has_whole
      · have := key (-n) (-d) (by omega)
        have e : ((-n : Int) : Rat) / ((-d : Int) : Rat) = (n : Rat) / d := by
          rw [Rat.intCast_neg, Rat.intCast_neg]
          have := ne_cast hd0
          have : (-(d : Rat)) ≠ 0 := by grind
          grind
        rw [e] at this
        exact this
    · exact key n d hd0

-- plain incl
theorem mulDown_in {u v : Int} (hu : fixOk u = true) (hv : fixOk v = true) (h1 : -1152921504606846976 ≤ u * v / 4294967296) (h2 : u * v / 4294967296 ≤ 1152921504606846976) : mulDown u v = (u * v / 4294967296, true) := by
  have e : mulFloor u v 32 = (u * v / 4294967296, true) := by
    show wideInt (u * v / 4294967296) = _
    unfold wideInt
    rw [if_pos (by rw [within_iff]; omega)]
  unfold mulDown
  rw [hu, hv, e]
  simp only [fixed, Bool.and_self, if_true, Bool.true_and]
  rw [if_pos (by rw [fixOk_iff]; omega)]
theorem mulUp_in {u v : Int} (hu : fixOk u = true) (hv : fixOk v = true) (h1 : -1152921504606846976 ≤ -u * v / 4294967296) (h2 : -u * v / 4294967296 ≤ 1152921504606846976) : mulUp u v = (-(-u * v / 4294967296), true) := by
  have hn : fixOk (-u) = true := by rw [fixOk_iff] at *; omega
  unfold mulUp
  rw [hu, hv, mulDown_in hn hv h1 h2]
  rfl
/-- All parts of one combination lie in another. -/
theorem comb_incl {d u : Int → Int → Int × Bool} {x y : Iv} {L G : Int} (hL : -1152921504606846976 < L) (hG : G < 1152921504606846976)
    (h : ∀ s t, (s = x.lo ∨ s = x.hi) → (t = y.lo ∨ t = y.hi) → (d s t).2 = true ∧ (u s t).2 = true ∧ L ≤ (d s t).1 ∧ (d s t).1 ≤ (u s t).1 ∧ (u s t).1 ≤ G) : okI (comb d u x y) = true ∧ L ≤ (comb d u x y).lo ∧ (comb d u x y).hi ≤ G := by
  have h1 := h x.lo y.lo (.inl rfl) (.inl rfl)
  have h2 := h x.lo y.hi (.inl rfl) (.inr rfl)
  have h3 := h x.hi y.lo (.inr rfl) (.inl rfl)
  have h4 := h x.hi y.hi (.inr rfl) (.inr rfl)
  unfold comb
  rw [if_pos (by simp only [h1, h2, h3, h4, Bool.and_self])]
  obtain ⟨_, _, h1⟩ := h1
  obtain ⟨_, _, h2⟩ := h2
  obtain ⟨_, _, h3⟩ := h3
  obtain ⟨_, _, h4⟩ := h4
  rw [mkI_ok (by rw [okI_mk]; omega)]
  refine ⟨by rw [okI_mk]; omega, ?_, ?_⟩ <;> simp only <;> omega
theorem inside_of {a b : Iv} (h : okI b = true → okI a = true ∧ b.lo ≤ a.lo ∧ a.hi ≤ b.hi) : insideI a b = true := by
  unfold insideI
  cases hb : okI b with
  | false => rfl
  | true => simp [h hb]
theorem fix_of {a : Iv} (h : okI a = true) : fixOk a.lo = true ∧ fixOk a.hi = true := by
  rw [fixOk_iff, fixOk_iff]; have := okI_iff.1 h; omega
/-- One interval is a part of another. -/
structure Part (x a : Iv) : Prop where
  ox : okI x = true
  oa : okI a = true
  lo : a.lo ≤ x.lo
  hi : x.hi ≤ a.hi
theorem Part.le {x a : Iv} (h : Part x a) : x.lo ≤ x.hi := (okI_iff.1 h.ox).2.1
theorem Part.end_ {x a : Iv} (h : Part x a) {s : Int} (hs : s = x.lo ∨ s = x.hi) : a.lo ≤ s ∧ s ≤ a.hi ∧ fixOk s = true := by
  have := h.lo; have := h.hi; have := h.le; have := okI_iff.1 h.oa
  rw [fixOk_iff]
  rcases hs with rfl | rfl <;> omega
theorem mul_mid_i {p q u v : Int} (h1 : p ≤ u) (h2 : u ≤ q) : (p * v ≤ u * v ∨ q * v ≤ u * v) ∧ (u * v ≤ p * v ∨ u * v ≤ q * v) := by
  by_cases hv : 0 ≤ v
  · exact ⟨.inl (Int.mul_le_mul_of_nonneg_right h1 hv), .inr (Int.mul_le_mul_of_nonneg_right h2 hv)⟩
  · exact ⟨.inr (Int.mul_le_mul_of_nonpos_right h2 (by omega)), .inl (Int.mul_le_mul_of_nonpos_right h1 (by omega))⟩
theorem mul_corner_i {p q r s u v : Int} (h1 : p ≤ u) (h2 : u ≤ q) (h3 : r ≤ v) (h4 : v ≤ s) :
    (p * r ≤ u * v ∨ p * s ≤ u * v ∨ q * r ≤ u * v ∨ q * s ≤ u * v) ∧ (u * v ≤ p * r ∨ u * v ≤ p * s ∨ u * v ≤ q * r ∨ u * v ≤ q * s) := by
  have a := mul_mid_i (v := v) h1 h2
  have b := mul_mid_i (v := p) h3 h4
  have c := mul_mid_i (v := q) h3 h4
  rw [Int.mul_comm v p, Int.mul_comm r p, Int.mul_comm s p] at b
  rw [Int.mul_comm v q, Int.mul_comm r q, Int.mul_comm s q] at c
  omega
theorem incl_mul {x y a b : Iv} (hx : Part x a) (hy : Part y b) : insideI (mulI x y) (mulI a b) = true := by
  refine inside_of fun hok => ?_
  have e : mulI a b = comb mulDown mulUp a b := by unfold mulI; rw [hx.oa, hy.oa]; rfl
  have e' : mulI x y = comb mulDown mulUp x y := by unfold mulI; rw [hx.ox, hy.ox]; rfl
  rw [e] at hok ⊢
  rw [e']
  obtain ⟨⟨d1, u1, d2, u2, d3, u3, d4, u4⟩, l1, l2, l3, l4, g1, g2, g3, g4⟩ := comb_out hok
  rw [mulDown_out d1] at l1
  rw [mulDown_out d2] at l2
  rw [mulDown_out d3] at l3
  rw [mulDown_out d4] at l4
  rw [mulUp_out u1] at g1
  rw [mulUp_out u2] at g2
  rw [mulUp_out u3] at g3
  rw [mulUp_out u4] at g4
  simp only [Int.neg_mul] at g1 g2 g3 g4
  have hk := okI_iff.1 hok
  generalize (comb mulDown mulUp a b).lo = L at *
  generalize (comb mulDown mulUp a b).hi = G at *
  refine comb_incl hk.1 hk.2.2 fun s t hs ht => ?_
  have es := hx.end_ hs
  have et := hy.end_ ht
  have hc := mul_corner_i es.1 es.2.1 et.1 et.2.1
  have b1 : L ≤ s * t / 4294967296 := by omega
  have b2 : -(-(s * t) / 4294967296) ≤ G := by omega
  have b3 : s * t / 4294967296 ≤ -(-(s * t) / 4294967296) := by omega
  rw [← Int.neg_mul] at b2 b3
  have m1 := mulDown_in es.2.2 et.2.2 (by omega) (by omega)
  have m2 := mulUp_in es.2.2 et.2.2 (by omega) (by omega)
  rw [m1, m2]
  exact ⟨rfl, rfl, b1, b3, b2⟩
/-- A quotient rounded down. -/
def dq (u v : Int) : Int := if v < 0 then -u * 4294967296 / -v else u * 4294967296 / v
theorem divDown_out' {a b : Int} (h : (divDown a b).2 = true) : b ≠ 0 ∧ (divDown a b).1 = dq a b := by
  rcases divDown_out h with ⟨h, e⟩ | ⟨h, e⟩ <;> rw [e]
  · exact ⟨by omega, by rw [dq, if_neg (by omega)]⟩
  · exact ⟨by omega, by rw [dq, if_pos h]⟩
theorem divUp_out' {a b : Int} (h : (divUp a b).2 = true) : (divUp a b).1 = -dq (-a) b := by
  rcases divUp_out h with ⟨h, e⟩ | ⟨h, e⟩ <;> rw [e]
  · rw [dq, if_neg (by omega)]
  · rw [dq, if_pos h, Int.neg_neg]
theorem divDown_in {u v : Int} (hu : fixOk u = true) (hv : fixOk v = true) (h0 : v ≠ 0) (h1 : -1152921504606846976 ≤ dq u v) (h2 : dq u v ≤ 1152921504606846976) : divDown u v = (dq u v, true) := by
  unfold divDown
  rw [hu, hv]
  simp only [Bool.and_self, if_true]
  unfold dq at *
  by_cases hn : v < 0
  · rw [if_pos hn] at *
    have e : mulDiv (-u) 4294967296 (-v) = (-u * 4294967296 / -v, true) := by
      unfold mulDiv wideInt
      rw [if_pos (by omega), if_pos (by rw [within_iff]; omega)]
    rw [e]
    simp only [fixed, Bool.true_and]
    rw [if_pos (by rw [fixOk_iff]; omega), if_pos hn]
  · rw [if_neg hn] at *
    have e : mulDiv u 4294967296 v = (u * 4294967296 / v, true) := by
      unfold mulDiv wideInt
      rw [if_pos (by omega), if_pos (by rw [within_iff]; omega)]
    rw [e]
    simp only [fixed, Bool.true_and]
    rw [if_pos (by rw [fixOk_iff]; omega), if_neg hn]
theorem divUp_in {u v : Int} (hu : fixOk u = true) (hv : fixOk v = true) (h0 : v ≠ 0) (h1 : -1152921504606846976 ≤ dq (-u) v) (h2 : dq (-u) v ≤ 1152921504606846976) : divUp u v = (-dq (-u) v, true) := by
  have hn : fixOk (-u) = true := by rw [fixOk_iff] at *; omega
  unfold divUp
  rw [hu, hv, divDown_in hn hv h0 h1 h2]
  rfl
theorem dq_rat {u v : Int} (h : v ≠ 0) {z : Int} : z ≤ dq u v ↔ (z : Rat) ≤ (u : Rat) / v * 4294967296 := by
  unfold dq
  have hv := ne_cast h
  split
  · rename_i hn
    rw [Int.le_ediv_iff_mul_le (by omega), ← Rat.intCast_le_intCast, Rat.intCast_mul, Rat.intCast_mul, ← le_div_iff (pos_cast (by omega)), Rat.intCast_neg, Rat.intCast_neg]
    have : (-(v : Rat)) ≠ 0 := by grind
    have e : -(u : Rat) * ((4294967296 : Int) : Rat) / -(v : Rat) = (u : Rat) / v * 4294967296 := by grind
    rw [e]
  · rename_i hn
    rw [Int.le_ediv_iff_mul_le (by omega), ← Rat.intCast_le_intCast, Rat.intCast_mul, Rat.intCast_mul, ← le_div_iff (pos_cast (by omega))]
    have e : (u : Rat) * ((4294967296 : Int) : Rat) / (v : Rat) = (u : Rat) / v * 4294967296 := by grind
    rw [e]
theorem dq_self {u v : Int} (h : v ≠ 0) : ((dq u v : Int) : Rat) ≤ (u : Rat) / v * 4294967296 := (dq_rat h).1 (Int.le_refl _)
theorem incl_div {x y a b : Iv} (hx : Part x a) (hy : Part y b) : insideI (divI x y) (divI a b) = true := by
  refine inside_of fun hok => ?_
  obtain ⟨_, _, hs0, hok', e⟩ := divI_out hok
  have e' : divI x y = comb divDown divUp x y := by
    have h1 := hy.lo
    have h2 := hy.hi
    have h3 := hy.le
    have h4 : within 0 y.lo y.hi = false := by
      rw [Bool.eq_false_iff]; intro h; rw [within_iff] at h; omega
    unfold divI; rw [hx.ox, hy.ox, h4]; rfl
  rw [e]
  rw [e']
  have hok := hok'
  obtain ⟨⟨d1, u1, d2, u2, d3, u3, d4, u4⟩, l1, l2, l3, l4, g1, g2, g3, g4⟩ := comb_out hok
  have z1 := divDown_out' d1
  have z2 := divDown_out' d2
  rw [z1.2] at l1
  rw [z2.2] at l2
  rw [(divDown_out' d3).2] at l3
  rw [(divDown_out' d4).2] at l4
  rw [divUp_out' u1] at g1
  rw [divUp_out' u2] at g2
  rw [divUp_out' u3] at g3
  rw [divUp_out' u4] at g4
  have hk := okI_iff.1 hok
  generalize (comb divDown divUp a b).lo = L at *
  generalize (comb divDown divUp a b).hi = G at *
  have n1 := z1.1
  have n2 := z2.1
  have g1' : -G ≤ dq (-a.lo) b.lo := by omega
  have g2' : -G ≤ dq (-a.lo) b.hi := by omega
  have g3' : -G ≤ dq (-a.hi) b.lo := by omega
  have g4' : -G ≤ dq (-a.hi) b.hi := by omega
  rw [dq_rat n1] at l1 l3 g1' g3'
  rw [dq_rat n2] at l2 l4 g2' g4'
  refine comb_incl hk.1 hk.2.2 fun s t hs ht => ?_
  have es := hx.end_ hs
  have et := hy.end_ ht
  have t0 : t ≠ 0 := by omega
  have hs' : (0 : Rat) < b.lo ∨ (b.hi : Rat) < 0 := by
    rcases hs0 with hs0 | hs0
    · exact .inl (pos_cast hs0)
    · exact .inr (neg_cast hs0)
  have hc := div_corner (Rat.intCast_le_intCast.2 es.1) (Rat.intCast_le_intCast.2 es.2.1) (Rat.intCast_le_intCast.2 et.1) (Rat.intCast_le_intCast.2 et.2.1) hs'
  have b1 : L ≤ dq s t := by
    rw [dq_rat t0]
    rcases hc.1 with hc | hc | hc | hc <;> grind
  have neg_div : ∀ p q : Rat, -p / q = -(p / q) := by intro p q; grind
  have b2 : -G ≤ dq (-s) t := by
    rw [dq_rat t0]
    rw [Rat.intCast_neg] at *
    simp only [Rat.intCast_neg, neg_div] at *
    rcases hc.2 with hc | hc | hc | hc <;> grind
  have b3 : dq s t ≤ -dq (-s) t := by
    have k1 := dq_self (u := s) t0
    have k2 := dq_self (u := -s) t0
    rw [← Rat.intCast_le_intCast, Rat.intCast_neg]
    rw [Rat.intCast_neg, neg_div] at k2
    grind
  have m1 := divDown_in es.2.2 et.2.2 t0 (by omega) (by omega)
  have m2 := divUp_in es.2.2 et.2.2 t0 (by omega) (by omega)
  rw [m1, m2]
  exact ⟨rfl, rfl, b1, b3, by omega⟩
theorem incl_add {x y a b : Iv} (hx : Part x a) (hy : Part y b) : insideI (addI x y) (addI a b) = true := by
  refine inside_of fun hok => ?_
  have h1 := okI_iff.1 hx.oa
  have h2 := okI_iff.1 hy.oa
  have h3 := hx.lo
  have h4 := hx.hi
  have h5 := hy.lo
  have h6 := hy.hi
  have h7 := hx.le
  have h8 := hy.le
  unfold addI mkI at *
  rw [hx.oa, hy.oa] at hok
  rw [hx.oa, hy.oa, hx.ox, hy.ox]
  simp only [Bool.and_self, if_true] at hok ⊢
  split at hok
  · rename_i h
    rw [if_pos h]
    rw [okI_mk] at h
    rw [if_pos (by rw [okI_mk]; omega)]
    refine ⟨by rw [okI_mk]; omega, ?_, ?_⟩ <;> simp only <;> omega
  · rw [okI_whole] at hok; cases hok
theorem sub_neg_eq {a b : Iv} (h : okI b = true) : subI a b = addI a ⟨-b.hi, -b.lo⟩ := by
  have h1 : okI ⟨-b.hi, -b.lo⟩ = true := by rw [okI_mk]; have := okI_iff.1 h; omega
  unfold subI addI
  rw [h, h1]
  rfl
theorem Part.neg {x a : Iv} (h : Part x a) : Part ⟨-x.hi, -x.lo⟩ ⟨-a.hi, -a.lo⟩ := by
  have h1 := okI_iff.1 h.oa
  have h2 := okI_iff.1 h.ox
  have h3 := h.lo
  have h4 := h.hi
  constructor
  · rw [okI_mk]; omega
  · rw [okI_mk]; omega
  · simp only; omega
  · simp only; omega
theorem incl_sub {x y a b : Iv} (hx : Part x a) (hy : Part y b) : insideI (subI x y) (subI a b) = true := by
  rw [sub_neg_eq hy.ox, sub_neg_eq hy.oa]
  exact incl_add hx hy.neg
theorem Part.abs {x a : Iv} (h : Part x a) : Part (absI x) (absI a) ∧ 0 ≤ (absI a).lo := by
  have h1 := okI_iff.1 h.oa
  have h2 := okI_iff.1 h.ox
  have h3 := h.lo
  have h4 := h.hi
  refine ⟨⟨absI_ok h.ox, absI_ok h.oa, ?_, ?_⟩, absI_nonneg h.oa⟩
  · unfold absI
    rw [if_pos h.ox, if_pos h.oa]
    simp only [nearI]
    split
    · rename_i hw
      split
      · exact Int.le_refl _
      · rw [absZ, absZ]; (repeat' split) <;> omega
    · rename_i hw
      rw [within_iff] at hw
      rw [if_neg (by rw [within_iff]; omega)]
      rw [absZ, absZ, absZ, absZ]; (repeat' split) <;> omega
  · unfold absI
    rw [if_pos h.ox, if_pos h.oa]
    simp only [farI]
    rw [absZ, absZ, absZ, absZ]; (repeat' split) <;> omega
theorem incl_abs {x a : Iv} (h : Part x a) : insideI (absI x) (absI a) = true := inside_of fun _ => ⟨h.abs.1.ox, h.abs.1.lo, h.abs.1.hi⟩
theorem sq_mono_i {a b : Int} (h0 : 0 ≤ a) (h : a ≤ b) : a * a ≤ b * b := Int.mul_le_mul h h h0 (by omega)
theorem incl_sqr {x a : Iv} (h : Part x a) : insideI (sqrI x) (sqrI a) = true := by
  refine inside_of fun hok => ?_
  obtain ⟨_, e1, e2⟩ := sqrI_out hok
  have hp := h.abs.1
  have h0 := h.abs.2
  have f1 := hp.end_ (.inl rfl)
  have f2 := hp.end_ (.inr rfl)
  have s1 := sq_mono_i h0 hp.lo
  have s2 := sq_mono_i (by omega) hp.hi
  have s3 := sq_mono_i (by omega) hp.le
  have hk := okI_iff.1 hok
  rw [Int.neg_mul] at e2
  have m1 := mulDown_in f1.2.2 f1.2.2 (by omega) (by omega)
  have m2 := mulUp_in f2.2.2 f2.2.2 (by rw [Int.neg_mul]; omega) (by rw [Int.neg_mul]; omega)
  have e : sqrI x = ⟨(absI x).lo * (absI x).lo / 4294967296, -(-((absI x).hi * (absI x).hi) / 4294967296)⟩ := by
    unfold sqrI
    rw [if_pos h.ox, m1, m2, Int.neg_mul]
    simp only [Bool.and_self, if_true]
    rw [mkI_ok (by rw [okI_mk]; omega)]
  rw [e]
  refine ⟨by rw [okI_mk]; omega, ?_, ?_⟩ <;> simp only <;> omega
theorem rootW_spec' {w : Int} (h0 : 0 ≤ w) (h1 : w ≤ 4951760157141521099596496896) : rootW w * rootW w ≤ w ∧ w < (rootW w + 1) * (rootW w + 1) ∧ 0 ≤ rootW w := by
  have := rootW_spec (w := w) (by omega) (by omega)
  exact ⟨this.1, this.2, rootW_nonneg w⟩
theorem root_mono {v w : Int} (h0 : 0 ≤ v) (h : v ≤ w) (h1 : w ≤ 4951760157141521099596496896) : rootW v ≤ rootW w := by
  have a := rootW_spec' (w := v) h0 (by omega)
  have b := rootW_spec' (w := w) (by omega) h1
  apply Int.le_of_not_gt
  intro hgt
  have := sq_mono_i (a := rootW w + 1) (b := rootW v) (by omega) (by omega)
  omega
theorem sqrtUp_val {n : Int} (h0 : 0 ≤ n) (h1 : n ≤ 1152921504606846976) : 0 ≤ (sqrtUp n).1 ∧ n * 4294967296 ≤ (sqrtUp n).1 * (sqrtUp n).1 ∧ rootW (n * 4294967296) ≤ (sqrtUp n).1 ∧ (∀ k : Int, 0 ≤ k → n * 4294967296 ≤ k * k → (sqrtUp n).1 ≤ k) := by
  have a := rootW_spec' (w := n * 4294967296) (by omega) (by omega)
  unfold sqrtUp
  rw [if_pos (by rw [within_iff]; omega)]
  split
  · rename_i e
    refine ⟨a.2.2, by simp only; omega, by simp only; omega, fun k hk h => ?_⟩
    simp only
    apply Int.le_of_not_gt
    intro hgt
    have h5 := sq_mono_i (a := k + 1) (b := rootW (n * 4294967296)) (by omega) (by omega)
    have h6 : (k + 1) * (k + 1) = k * k + 2 * k + 1 := by grind
    omega
  · rename_i e
    refine ⟨by simp only; omega, by simp only; omega, by simp only; omega, fun k hk h => ?_⟩
    simp only
    apply Int.le_of_not_gt
    intro hgt
    have := sq_mono_i hk (show k ≤ rootW (n * 4294967296) by omega)
    omega
theorem sqrtI_out {a : Iv} (hok : okI (sqrtI a) = true) : okI a = true ∧ 0 ≤ a.lo ∧ (sqrtI a).lo = rootW (a.lo * 4294967296) ∧ (sqrtI a).hi = (sqrtUp a.hi).1 := by
  unfold sqrtI at *
  split at hok
  · rename_i h
    rw [if_pos h]
    rw [Bool.and_eq_true, decide_eq_true_eq] at h
    have hb := okI_iff.1 h.1
    unfold mkI at *
    split at hok
    · rename_i h3
      rw [if_pos h3]
      refine ⟨h.1, h.2, ?_, rfl⟩
      simp only [sqrtDown]
      rw [if_pos (by rw [within_iff]; omega)]
    · rw [okI_whole] at hok; cases hok
  · rw [okI_whole] at hok; cases hok
theorem sqrtI_val {x : Iv} (h : okI x = true) (h0 : 0 ≤ x.lo) (hb : (sqrtUp x.hi).1 < 1152921504606846976) : sqrtI x = ⟨rootW (x.lo * 4294967296), (sqrtUp x.hi).1⟩ ∧ okI ⟨rootW (x.lo * 4294967296), (sqrtUp x.hi).1⟩ = true := by
  have hx := okI_iff.1 h
  have e1 : sqrtDown x.lo = (rootW (x.lo * 4294967296), true) := by
    unfold sqrtDown; rw [if_pos (by rw [within_iff]; omega)]
  have r0 := (rootW_spec' (w := x.lo * 4294967296) (by omega) (by omega)).2.2
  have r1 := root_mono (v := x.lo * 4294967296) (w := x.hi * 4294967296) (by omega) (by omega) (by omega)
  have r2 := (sqrtUp_val (n := x.hi) (by omega) (by omega)).2.2.1
  have hk : okI ⟨rootW (x.lo * 4294967296), (sqrtUp x.hi).1⟩ = true := by rw [okI_mk]; omega
  refine ⟨?_, hk⟩
  unfold sqrtI
  rw [if_pos (by rw [Bool.and_eq_true, decide_eq_true_eq]; exact ⟨h, h0⟩), e1]
  exact mkI_ok hk
theorem incl_sqrt {x a : Iv} (h : Part x a) : insideI (sqrtI x) (sqrtI a) = true := by
  refine inside_of fun hok => ?_
  obtain ⟨_, h0, e1, e2⟩ := sqrtI_out hok
  have hk := okI_iff.1 hok
  have h1 := okI_iff.1 h.oa
  have h2 := okI_iff.1 h.ox
  have h3 := h.lo
  have h4 := h.hi
  have u1 := sqrtUp_val (n := a.hi) (by omega) (by omega)
  have u2 := sqrtUp_val (n := x.hi) (by omega) (by omega)
  have le := u2.2.2.2 _ u1.1 (by have := u1.2.1; omega)
  obtain ⟨e, ho⟩ := sqrtI_val h.ox (by omega) (by omega)
  have r1 := root_mono (v := a.lo * 4294967296) (w := x.lo * 4294967296) (by omega) (by omega) (by omega)
  rw [e]
  refine ⟨ho, ?_, ?_⟩ <;> simp only <;> omega
def minI (a b : Iv) : Iv := if okI a && okI b then ⟨min a.lo b.lo, min a.hi b.hi⟩ else whole
def maxI (a b : Iv) : Iv := if okI a && okI b then ⟨max a.lo b.lo, max a.hi b.hi⟩ else whole
theorem incl_min {x y a b : Iv} (hx : Part x a) (hy : Part y b) : insideI (minI x y) (minI a b) = true := by
  have h1 := okI_iff.1 hx.oa
  have h2 := okI_iff.1 hy.oa
  have h3 := hx.lo
  have h4 := hx.hi
  have h5 := hy.lo
  have h6 := hy.hi
  have h7 := hx.le
  have h8 := hy.le
  refine inside_of fun _ => ?_
  unfold minI
  rw [hx.oa, hy.oa, hx.ox, hy.ox]
  simp only [Bool.and_self, if_true]
  refine ⟨by rw [okI_mk]; omega, ?_, ?_⟩ <;> omega
theorem incl_max {x y a b : Iv} (hx : Part x a) (hy : Part y b) : insideI (maxI x y) (maxI a b) = true := by
  have h1 := okI_iff.1 hx.oa
  have h2 := okI_iff.1 hy.oa
  have h3 := hx.lo
  have h4 := hx.hi
  have h5 := hy.lo
  have h6 := hy.hi
  have h7 := hx.le
  have h8 := hy.le
  refine inside_of fun _ => ?_
  unfold maxI
  rw [hx.oa, hy.oa, hx.ox, hy.ox]
  simp only [Bool.and_self, if_true]
  refine ⟨by rw [okI_mk]; omega, ?_, ?_⟩ <;> omega
theorem incl_hull {x y a b : Iv} (hx : Part x a) (hy : Part y b) : insideI (hullI x y) (hullI a b) = true := by
  have h1 := okI_iff.1 hx.oa
  have h2 := okI_iff.1 hy.oa
  have h3 := hx.lo
  have h4 := hx.hi
  have h5 := hy.lo
  have h6 := hy.hi
  have h7 := hx.le
  have h8 := hy.le
  refine inside_of fun _ => ?_
  unfold hullI
  rw [hx.oa, hy.oa, hx.ox, hy.ox]
  simp only [Bool.and_self, if_true]
  refine ⟨by rw [okI_mk]; omega, ?_, ?_⟩ <;> omega
theorem incl_half {x a : Iv} (hx : Part x a) : insideI (halfI x) (halfI a) = true := by
  have h1 := okI_iff.1 hx.oa
  have h3 := hx.lo
  have h4 := hx.hi
  have h7 := hx.le
  refine inside_of fun _ => ?_
  unfold halfI
  rw [hx.oa, hx.ox]
  simp only [if_true]
  refine ⟨by rw [okI_mk]; omega, ?_, ?_⟩ <;> omega

end Go.Proofs.YtcnapkdccjibpaaGreatDoor.Eng
