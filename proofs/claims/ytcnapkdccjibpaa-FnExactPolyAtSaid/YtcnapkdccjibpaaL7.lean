/- What functions of the program compute, and that the program computes it: part 7. -/
import Derived.Test.YtcnapkdccjibpaaTab
import Derived.Test.YtcnapkdccjibpaaEng16
import Derived.Laws.BitsLemmas
import Derived.Laws.Bits64
import Derived.Laws.Bits64b
import Derived.Lib.Mul64
import Derived.Lib.BitFns
import Derived.Laws.Externs
import Derived.Test.YtcnapkdccjibpaaL2
import Derived.Test.YtcnapkdccjibpaaL3
namespace Go.Proofs.Ytcnapkdccjibpaa.Eng
open Go Go.RowKit
set_option linter.unusedVariables false
set_option linter.unusedSimpArgs false
set_option maxRecDepth 100000
set_option maxHeartbeats 1000000
-- div64n
theorem quo_bd2 {w d : Int} (hd : 0 < d) : (0 ≤ w → 0 ≤ w / d ∧ w / d ≤ w) ∧ (w < 0 → w ≤ w / d ∧ w / d < 0) := by
  constructor
  · intro h
    exact ⟨Int.ediv_nonneg h (by omega), Int.ediv_le_self _ h⟩
  · intro h
    refine ⟨?_, Int.ediv_neg_of_neg_of_pos h hd⟩
    refine (Int.le_ediv_iff_mul_le hd).2 ?_
    have h1 : (-w) * 1 ≤ (-w) * d := Int.mul_le_mul_of_nonneg_left (by omega) (by omega)
    have h2 : (-w) * d = -(w * d) := Int.neg_mul ..
    omega
/-- What a long division by a number of 64 bits starts from, moved so far that the number fills its word. -/
structure Norm (hi lo y : Int) (s : Nat) (Y U V : Int) : Prop where
  s64 : s < 64
  eY : y * 2 ^ s = Y
  Y1 : 9223372036854775808 ≤ Y
  Y2 : Y < 18446744073709551616
  hs : hi * 2 ^ s < 18446744073709551616
  eU : hi * 2 ^ s + lo / 2 ^ (64 - s) = U
  U1 : 0 ≤ U
  U2 : U < Y
  eV : lo * 2 ^ s % 18446744073709551616 = V
  whole : (hi * 18446744073709551616 + lo) * 2 ^ s = U * 18446744073709551616 + V
  orU : (((BitVec.ofInt IntKind.u64.bits (hi * 2 ^ s) ||| BitVec.ofInt IntKind.u64.bits (lo / 2 ^ (64 - s))).toNat : Nat) : Int) = U
theorem bl_spec : ∀ (f x : Nat), x < 2 ^ f → f ≤ 64 → x < 2 ^ Lib.bitLen x ∧ (x ≠ 0 → 2 ^ Lib.bitLen x ≤ 2 * x)
  | 0, x, h, _ => by
    have : x = 0 := by omega
    subst this
    exact ⟨by decide, fun h => absurd rfl h⟩
  | f + 1, x, h, hf => by
    by_cases h0 : x = 0
    · subst h0; exact ⟨by decide, fun h => absurd rfl h⟩
    · have hx : x < 2 ^ 64 := Nat.lt_of_lt_of_le h (Nat.pow_le_pow_right (by omega) hf)
      obtain ⟨i1, i2⟩ := bl_spec f (x / 2) (by rw [Nat.pow_succ] at h; omega) (by omega)
      rw [Lib.bitLen_half x h0 hx, Nat.add_comm, Nat.pow_succ]
      refine ⟨by omega, fun _ => ?_⟩
      by_cases h1 : x / 2 = 0
      · have : x = 1 := by omega
        subst this
        decide
      · have := i2 h1
        omega
theorem norm_of {hi lo y : Int} (p1 : 0 ≤ hi) (p2 : 0 ≤ lo ∧ lo ≤ 18446744073709551615) (p3 : y ≤ 18446744073709551615) (hy : 0 < y) (hlt : hi < y) :
    ∃ (s : Nat) (Y U V : Int), 64 - (Lib.bitLen y.toNat : Int) = s ∧ Norm hi lo y s Y U V := by
  obtain ⟨b1, b2⟩ := bl_spec 64 y.toNat (by omega) (by omega)
  have b2 := b2 (by omega)
  have b3 := Lib.bitLen_le y.toNat 64 (by omega) (by omega)
  have b4 : 0 < Lib.bitLen y.toNat := by
    apply Nat.pos_of_ne_zero
    intro h
    rw [h] at b1
    omega
  generalize Lib.bitLen y.toNat = b at *
  obtain ⟨s, rfl, hs⟩ : ∃ s, b = 64 - s ∧ s < 64 := ⟨64 - b, by omega⟩
  have hP : (0 : Int) < 2 ^ s := Int.pow_pos (by omega)
  have hK : (0 : Int) < 2 ^ (64 - s) := Int.pow_pos (by omega)
  have hPK : (2 : Int) ^ s * 2 ^ (64 - s) = 18446744073709551616 := by
    rw [← Int.pow_add, show s + (64 - s) = 64 by omega]; rfl
  have c1 : y < 2 ^ (64 - s) := by
    have : ((y.toNat : Nat) : Int) < ((2 ^ (64 - s) : Nat) : Int) := by omega
    simp only [Int.natCast_pow, Int.cast_ofNat_Int] at this
    omega
  have c2 : (2 : Int) ^ (64 - s) ≤ 2 * y := by
    have : ((2 ^ (64 - s) : Nat) : Int) ≤ ((2 * y.toNat : Nat) : Int) := by omega
    simp only [Int.natCast_pow, Int.cast_ofNat_Int] at this
    omega
  refine ⟨s, y * 2 ^ s, hi * 2 ^ s + lo / 2 ^ (64 - s), lo * 2 ^ s % 18446744073709551616, by omega, ?_⟩
  generalize hKd : (2 : Int) ^ (64 - s) = K at *
  generalize hPd : (2 : Int) ^ s = P at *
  have y1 : P * K ≤ P * (2 * y) := Int.mul_le_mul_of_nonneg_left c2 (by omega)
  have y2 : P * y < P * K := Int.mul_lt_mul_of_pos_left c1 hP
  rw [hPK] at y1 y2
  rw [Int.mul_left_comm] at y1
  rw [Int.mul_comm P y] at y1 y2
  have y3 : (hi + 1) * P ≤ y * P := Int.mul_le_mul_of_nonneg_right (by omega) (by omega)
  rw [Int.add_mul, Int.one_mul] at y3
  have q0 : 0 ≤ lo / K := Int.ediv_nonneg p2.1 (by omega)
  have q1 : lo / K < P := Int.ediv_lt_of_lt_mul hK (by rw [hPK]; omega)
  have h0 : 0 ≤ hi * P := Int.mul_nonneg p1 (by omega)
  have em := Int.ediv_mul_add_emod lo K
  have m1 := Int.emod_nonneg lo (show K ≠ 0 by omega)
  have m2 := Int.emod_lt_of_pos lo hK
  have z1 : (lo % K) * P < K * P := Int.mul_lt_mul_of_pos_right m2 hP
  have z0 : 0 ≤ (lo % K) * P := Int.mul_nonneg m1 (by omega)
  rw [Int.mul_comm K P, hPK] at z1
  have z2 : lo * P = lo / K * 18446744073709551616 + lo % K * P := by
    rw [← hPK, Int.mul_comm P K, ← Int.mul_assoc, ← Int.add_mul, em]
  refine ⟨hs, by rw [hPd], by omega, by omega, by rw [hPd]; omega, by rw [hPd, hKd], by omega, by omega, by rw [hPd], ?_, ?_⟩
  · rw [Int.add_mul, hPd, Int.mul_right_comm]
    omega
  · have := or_lit s (x := lo / K) (q := hi) q0 (by rw [hPd]; exact q1) p1 (by rw [hPd]; omega)
    rw [hPd, BitVec.or_comm] at this
    rw [hPd, hKd]
    exact this

end Go.Proofs.Ytcnapkdccjibpaa.Eng
