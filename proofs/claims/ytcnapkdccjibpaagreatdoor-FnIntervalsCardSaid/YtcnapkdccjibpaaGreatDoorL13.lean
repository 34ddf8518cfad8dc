/- What functions of the program compute, and that the program computes it: part 13. -/
import Derived.Test.YtcnapkdccjibpaaGreatDoorTab
import Derived.Test.YtcnapkdccjibpaaGreatDoorEng16
import Derived.Laws.BitsLemmas
import Derived.Laws.Bits64
import Derived.Laws.Bits64b
import Derived.Lib.Mul64
import Derived.Lib.BitFns
import Derived.Laws.Externs
import Derived.Test.YtcnapkdccjibpaaGreatDoorL1
import Derived.Test.YtcnapkdccjibpaaGreatDoorL2
import Derived.Test.YtcnapkdccjibpaaGreatDoorL4
import Derived.Test.YtcnapkdccjibpaaGreatDoorL5
import Derived.Test.YtcnapkdccjibpaaGreatDoorL9
import Derived.Test.YtcnapkdccjibpaaGreatDoorL10
namespace Go.Proofs.YtcnapkdccjibpaaGreatDoor.Eng
open Go Go.RowKit
set_option linter.unusedVariables false
set_option linter.unusedSimpArgs false
set_option maxRecDepth 100000
set_option maxHeartbeats 1000000
-- bounds
/-- What bounds the ends of a product or a quotient, pair by pair, bounds it. -/
theorem comb_bd {d u : Int → Int → Int × Bool} {a b : Iv} {m M : Int} (h : ∀ x, (x = a.lo ∨ x = a.hi) → ∀ y, (y = b.lo ∨ y = b.hi) → ∃ D U, d x y = (D, true) ∧ u x y = (U, true) ∧ m ≤ D ∧ D ≤ U ∧ U ≤ M)
    (hm : -1152921504606846976 < m) (hM : M < 1152921504606846976) : okI (comb d u a b) = true ∧ m ≤ (comb d u a b).lo ∧ (comb d u a b).hi ≤ M := by
  obtain ⟨D1, U1, d1, u1, p1⟩ := h a.lo (.inl rfl) b.lo (.inl rfl)
  obtain ⟨D2, U2, d2, u2, p2⟩ := h a.lo (.inl rfl) b.hi (.inr rfl)
  obtain ⟨D3, U3, d3, u3, p3⟩ := h a.hi (.inr rfl) b.lo (.inl rfl)
  obtain ⟨D4, U4, d4, u4, p4⟩ := h a.hi (.inr rfl) b.hi (.inr rfl)
  unfold comb
  simp only [d1, d2, d3, d4, u1, u2, u3, u4, Bool.and_self, if_true]
  have hk : okI ⟨min (min (min D1 D2) D3) D4, max (max (max U1 U2) U3) U4⟩ = true := by rw [okI_mk]; omega
  rw [mkI_ok hk]
  refine ⟨hk, ?_, ?_⟩ <;> simp only <;> omega
theorem mulDown_eq {a b : Int} (ha : fixOk a = true) (hb : fixOk b = true) (h1 : -4951760157141521099596496896 ≤ a * b) (h2 : a * b ≤ 4951760157141521099596496896) : mulDown a b = (a * b / 4294967296, true) := by
  unfold mulDown
  rw [ha, hb]
  simp only [Bool.and_self, if_true]
  unfold mulFloor wideInt
  simp only [Int.reduceToNat, Int.reducePow]
  rw [if_pos (by rw [within_iff]; omega)]
  unfold fixed
  rw [if_pos]
  simp only [Bool.true_and, fixOk_iff]
  omega
theorem mulUp_eq {a b : Int} (ha : fixOk a = true) (hb : fixOk b = true) (h1 : -4951760157141521099596496896 ≤ a * b) (h2 : a * b ≤ 4951760157141521099596496896) : mulUp a b = (-(-(a * b) / 4294967296), true) := by
  unfold mulUp
  rw [ha, hb]
  simp only [Bool.and_self, if_true]
  have hn : fixOk (-a) = true := by rw [fixOk_iff] at *; omega
  rw [mulDown_eq hn hb (by rw [Int.neg_mul]; omega) (by rw [Int.neg_mul]; omega), Int.neg_mul]
theorem ok_fix {a : Iv} (h : okI a = true) : fixOk a.lo = true ∧ fixOk a.hi = true := by
  rw [okI_iff] at h
  rw [fixOk_iff, fixOk_iff]; omega
theorem mulI_bd {a b : Iv} {m M : Int} (ha : okI a = true) (hb : okI b = true) (h : ∀ x, (x = a.lo ∨ x = a.hi) → ∀ y, (y = b.lo ∨ y = b.hi) → m * 4294967296 ≤ x * y ∧ x * y ≤ M * 4294967296)
    (hm : -1152921504606846976 < m) (hM : M < 1152921504606846976) : okI (mulI a b) = true ∧ m ≤ (mulI a b).lo ∧ (mulI a b).hi ≤ M := by
  unfold mulI
  rw [ha, hb]
  simp only [Bool.and_self, if_true]
  refine comb_bd (fun x hx y hy => ?_) hm hM
  have hp := h x hx y hy
  have fx : fixOk x = true := by rcases hx with rfl | rfl <;> simp [ok_fix ha]
  have fy : fixOk y = true := by rcases hy with rfl | rfl <;> simp [ok_fix hb]
  refine ⟨_, _, mulDown_eq fx fy (by omega) (by omega), mulUp_eq fx fy (by omega) (by omega), ?_⟩
  generalize x * y = p at *
  omega
theorem divDown_i {a k : Int} (ha : fixOk a = true) (hk : 0 < k) (hk2 : k ≤ 268435456) : divDown a (k * 4294967296) = (a / k, true) ∧ divUp a (k * 4294967296) = (-(-a / k), true) := by
  have hb : fixOk (k * 4294967296) = true := by rw [fixOk_iff]; omega
  have key : ∀ x, fixOk x = true → divDown x (k * 4294967296) = (x / k, true) := by
    intro x hx
    rw [fixOk_iff] at hx
    have e : x * 4294967296 / (k * 4294967296) = x / k := Int.mul_ediv_mul_of_pos_left _ _ (by omega)
    have hq := @quo_bd2 x k hk
    unfold divDown
    rw [fixOk_iff.2 hx, hb]
    simp only [Bool.and_self, if_true]
    rw [if_neg (by omega)]
    unfold mulDiv
    rw [if_pos (by omega), e]
    unfold wideInt
    rw [if_pos (by rw [within_iff]; omega)]
    unfold fixed
    rw [if_pos]
    simp only [Bool.true_and, fixOk_iff]
    omega
  refine ⟨key a ha, ?_⟩
  have hn : fixOk (-a) = true := by rw [fixOk_iff] at *; omega
  unfold divUp
  rw [ha, hb, key _ hn]
  simp
theorem intI_eq {n : Int} (h : -268435456 < n ∧ n < 268435456) : intI n = ⟨n * 4294967296, n * 4294967296⟩ := by
  unfold intI
  rw [if_pos (by rw [within_iff]; omega), mkI_lin (by omega) (by omega) (by omega)]
theorem divI_bd {a : Iv} {k m M : Int} (ha : okI a = true) (hk : 0 < k ∧ k < 268435456) (h1 : m * k ≤ a.lo) (h2 : a.hi ≤ M * k) (hm : -1152921504606846976 < m) (hM : M < 1152921504606846976) :
    okI (divI a (intI k)) = true ∧ m ≤ (divI a (intI k)).lo ∧ (divI a (intI k)).hi ≤ M := by
  have e := @intI_eq k (by omega)
  have hb : okI (intI k) = true := by rw [e, okI_mk]; omega
  have hw : within 0 (intI k).lo (intI k).hi = false := by
    rw [e]; simp only
    cases hq : within 0 (k * 4294967296) (k * 4294967296) with
    | false => rfl
    | true => rw [within_iff] at hq; omega
  unfold divI
  rw [ha, hb, hw]
  simp only [Bool.and_self, Bool.not_false, if_true]
  have hle := (okI_iff.1 ha).2.1
  refine comb_bd (fun x hx y hy => ?_) hm hM
  have ey : y = k * 4294967296 := by rw [e] at hy; simpa using hy
  subst ey
  have fx : fixOk x = true := by rcases hx with rfl | rfl <;> simp [ok_fix ha]
  obtain ⟨e1, e2⟩ := divDown_i fx hk.1 (by omega)
  refine ⟨_, _, e1, e2, ?_⟩
  have b1 : m * k ≤ x := by rcases hx with rfl | rfl <;> omega
  have b2 : x ≤ M * k := by rcases hx with rfl | rfl <;> omega
  have q1 : m ≤ x / k := (Int.le_ediv_iff_mul_le hk.1).2 b1
  have q2 : -M ≤ -x / k := (Int.le_ediv_iff_mul_le hk.1).2 (by rw [Int.neg_mul]; omega)
  refine ⟨q1, ?_, by omega⟩
  have e3 := Int.ediv_mul_add_emod x k
  have e4 := Int.ediv_mul_add_emod (-x) k
  have r3 := Int.emod_nonneg x (show k ≠ 0 by omega)
  have r4 := Int.emod_nonneg (-x) (show k ≠ 0 by omega)
  have : (x / k + -x / k) * k ≤ 0 := by rw [Int.add_mul]; omega
  have : x / k + -x / k ≤ 0 := by
    apply Int.le_of_not_gt
    intro hg
    have := Int.mul_pos hg hk.1
    omega
  omega
theorem addI_bd {a b : Iv} (ha : okI a = true) (hb : okI b = true) (h1 : -1152921504606846976 < a.lo + b.lo) (h2 : a.hi + b.hi < 1152921504606846976) : addI a b = ⟨a.lo + b.lo, a.hi + b.hi⟩ ∧ okI (addI a b) = true := by
  rw [okI_iff] at ha hb
  have hk : okI ⟨a.lo + b.lo, a.hi + b.hi⟩ = true := by rw [okI_mk]; omega
  unfold addI
  rw [okI_iff.2 ha, okI_iff.2 hb]
  simp only [Bool.and_self, if_true, mkI_ok hk, hk, and_self]
theorem subI_bd {a b : Iv} (ha : okI a = true) (hb : okI b = true) (h1 : -1152921504606846976 < a.lo - b.hi) (h2 : a.hi - b.lo < 1152921504606846976) : subI a b = ⟨a.lo - b.hi, a.hi - b.lo⟩ ∧ okI (subI a b) = true := by
  rw [okI_iff] at ha hb
  have hk : okI ⟨a.lo - b.hi, a.hi - b.lo⟩ = true := by rw [okI_mk]; omega
  unfold subI
  rw [okI_iff.2 ha, okI_iff.2 hb]
  simp only [Bool.and_self, if_true, mkI_ok hk, hk, and_self]
/-- A product is between those of the bounds, where both factors are between opposite numbers. -/
theorem mul_abs {x y A B : Int} (h1 : -A ≤ x) (h2 : x ≤ A) (h3 : -B ≤ y) (h4 : y ≤ B) : -(A * B) ≤ x * y ∧ x * y ≤ A * B := by
  have hx : x.natAbs ≤ A.natAbs := by omega
  have hy : y.natAbs ≤ B.natAbs := by omega
  have h := Nat.mul_le_mul hx hy
  rw [← Int.natAbs_mul, ← Int.natAbs_mul] at h
  have h5 : 0 ≤ A * B := Int.mul_nonneg (by omega) (by omega)
  omega
theorem mul_pos2 {x y A B : Int} (h1 : 0 ≤ x) (h2 : x ≤ A) (h3 : 0 ≤ y) (h4 : y ≤ B) : 0 ≤ x * y ∧ x * y ≤ A * B :=
  ⟨Int.mul_nonneg h1 h3, Int.mul_le_mul h2 h4 h3 (by omega)⟩

end Go.Proofs.YtcnapkdccjibpaaGreatDoor.Eng
