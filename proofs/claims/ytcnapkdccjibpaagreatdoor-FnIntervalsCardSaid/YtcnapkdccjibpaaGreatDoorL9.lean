/- What functions of the program compute, and that the program computes it: part 9. -/
import Derived.Test.YtcnapkdccjibpaaGreatDoorTab
import Derived.Test.YtcnapkdccjibpaaGreatDoorEng16
import Derived.Laws.BitsLemmas
import Derived.Laws.Bits64
import Derived.Laws.Bits64b
import Derived.Lib.Mul64
import Derived.Lib.BitFns
import Derived.Laws.Externs
import Derived.Test.YtcnapkdccjibpaaGreatDoorL1
import Derived.Test.YtcnapkdccjibpaaGreatDoorL2
import Derived.Test.YtcnapkdccjibpaaGreatDoorL4
import Derived.Test.YtcnapkdccjibpaaGreatDoorL7
import Derived.Test.YtcnapkdccjibpaaGreatDoorL8
namespace Go.Proofs.YtcnapkdccjibpaaGreatDoor.Eng
open Go Go.RowKit
set_option linter.unusedVariables false
set_option linter.unusedSimpArgs false
set_option maxRecDepth 100000
set_option maxHeartbeats 1000000
-- div64
def F_div64 : FT
  | [.c (.p (.int .u64 hi)), .c (.p (.int .u64 lo)), .c (.p (.int .u64 y))], _ => some (inU hi ∧ inU lo ∧ inU y ∧ 0 < y ∧ hi < y, .tup [.c (.p (.int .u64 ((((hi * 18446744073709551616 + lo) / y, (hi * 18446744073709551616 + lo) % y)).1))), .c (.p (.int .u64 ((((hi * 18446744073709551616 + lo) / y, (hi * 18446744073709551616 + lo) % y)).2)))], [])
  | _, _ => none
theorem F_div64_eq {hi : Int} {lo : Int} {y : Int} {g : List PC} : F_div64 [.c (.p (.int .u64 hi)), .c (.p (.int .u64 lo)), .c (.p (.int .u64 y))] g = some (inU hi ∧ inU lo ∧ inU y ∧ 0 < y ∧ hi < y, .tup [.c (.p (.int .u64 ((((hi * 18446744073709551616 + lo) / y, (hi * 18446744073709551616 + lo) % y)).1))), .c (.p (.int .u64 ((((hi * 18446744073709551616 + lo) / y, (hi * 18446744073709551616 + lo) % y)).2)))], []) := rfl
theorem bin_shl_s {T : Tab} {t : Nat} {k' : IntKind} {a : Int} {s : Nat} (hs : s ≤ 64) : binO T .shl t (some (.c (.p (.int .u64 a)))) (some (.c (.p (.int k' (s : Int))))) = some (sp (.int .u64 (IntKind.u64.wrap (a * 2 ^ s)))) := by
  have hb : IntKind.u64.bits = 64 := rfl
  rw [bin_shl (by omega), hb, Int.toNat_natCast, Nat.min_eq_left hs]
theorem bin_shr_s {T : Tab} {t : Nat} {k' : IntKind} {a : Int} {s : Nat} (hs : s ≤ 64) : binO T .shr t (some (.c (.p (.int .u64 a)))) (some (.c (.p (.int k' (s : Int))))) = some (sp (.int .u64 (a / 2 ^ s))) := by
  have hb : IntKind.u64.bits = 64 := rfl
  rw [bin_shr (by omega), hb, Int.toNat_natCast, Nat.min_eq_left hs, Int.fdiv_eq_ediv_of_nonneg]
  exact Int.le_of_lt (Int.pow_pos (by omega))
/-- One digit of a long division, while its estimate is brought down: `q` is the estimate, `r` what it leaves of the upper part. -/
structure Dig (u d h l q r : Int) : Prop where
  h1 : 2147483648 ≤ h
  h2 : h < 4294967296
  l1 : 0 ≤ l
  l2 : l < 4294967296
  d1 : 0 ≤ d
  d2 : d < 4294967296
  u1 : 0 ≤ u
  u2 : u < h * 4294967296 + l
  q1 : 0 ≤ q
  q2 : q ≤ 4294967297
  r1 : 0 ≤ r
  e : q * h + r = u
  t : u * 4294967296 + d < (q + 1) * (h * 4294967296 + l)
theorem Dig.start {u d h l : Int} (h1 : 2147483648 ≤ h) (h2 : h < 4294967296) (l1 : 0 ≤ l) (l2 : l < 4294967296) (d1 : 0 ≤ d) (d2 : d < 4294967296) (u1 : 0 ≤ u) (u2 : u < h * 4294967296 + l) :
    Dig u d h l (u / h) (u - u / h * h) ∧ u - u / h * h < h := by
  have e := Int.ediv_mul_add_emod u h
  have r1 := Int.emod_nonneg u (show h ≠ 0 by omega)
  have r2 := Int.emod_lt_of_pos u (show 0 < h by omega)
  have q1 : 0 ≤ u / h := Int.ediv_nonneg u1 (by omega)
  refine ⟨⟨h1, h2, l1, l2, d1, d2, u1, u2, q1, ?_, by omega, by omega, ?_⟩, by omega⟩
  · apply Int.le_of_lt_add_one
    refine Int.ediv_lt_of_lt_mul (by omega) ?_
    have : (4294967297 + 1) * h = h * 4294967296 + 2 * h := by omega
    omega
  · have h3 : 0 ≤ (u / h + 1) * l := Int.mul_nonneg (by omega) l1
    rw [Int.mul_add, ← Int.mul_assoc, Int.add_mul (u / h) 1 h]
    omega
theorem Dig.stop {u d h l q r : Int} (D : Dig u d h l q r) (ht : q * l ≤ 4294967296 * r + d) : q = (u * 4294967296 + d) / (h * 4294967296 + l) := by
  obtain ⟨h1, h2, l1, l2, d1, d2, u1, u2, q1, q2, r1, e, t⟩ := D
  have hY0 : 0 < h * 4294967296 + l := by omega
  have h1 : q * (h * 4294967296 + l) ≤ u * 4294967296 + d := by
    rw [Int.mul_add, ← Int.mul_assoc, ← e, Int.add_mul]
    omega
  apply Int.le_antisymm
  · exact (Int.le_ediv_iff_mul_le hY0).2 h1
  · have : (u * 4294967296 + d) / (h * 4294967296 + l) < q + 1 := (Int.ediv_lt_iff_lt_mul hY0).2 t
    omega
theorem Dig.next {u d h l q r : Int} (D : Dig u d h l q r) (ht : 4294967296 ≤ q ∨ 4294967296 * r + d < q * l) : Dig u d h l (q - 1) (r + h) ∧ 0 < q := by
  obtain ⟨h1, h2, l1, l2, d1, d2, u1, u2, q1, q2, r1, e, t⟩ := D
  have hq : 0 < q := by
    rcases ht with ht | ht
    · omega
    · rcases Int.lt_or_eq_of_le q1 with h | h
      · exact h
      · rw [← h, Int.zero_mul] at ht; omega
  refine ⟨⟨h1, h2, l1, l2, d1, d2, u1, u2, by omega, by omega, by omega, by rw [Int.sub_mul]; omega, ?_⟩, hq⟩
  rw [show q - 1 + 1 = q by omega]
  rcases ht with ht | ht
  · have := Int.mul_le_mul_of_nonneg_right ht (show 0 ≤ h * 4294967296 + l by omega)
    omega
  · rw [Int.mul_add, ← Int.mul_assoc]
    omega
theorem Dig.cut {u d h l q r : Int} (D : Dig u d h l q r) (ht : 4294967296 ≤ r) (hq : q ≤ 4294967296) : q = (u * 4294967296 + d) / (h * 4294967296 + l) := by
  refine D.stop ?_
  have := Int.mul_le_mul hq (show l ≤ 4294967295 by have := D.l2; omega) D.l1 (by omega)
  have := D.d1
  omega
theorem Dig.fits {u d h l q r : Int} (D : Dig u d h l q r) (hq : q < 4294967296) : 0 ≤ q * l ∧ q * l < 18446744073709551616 := by
  have := Int.mul_le_mul (show q ≤ 4294967295 by omega) (show l ≤ 4294967295 by have := D.l2; omega) D.l1 (by omega)
  have := Int.mul_nonneg D.q1 D.l1
  omega
/-- Two digits make the quotient. -/
theorem two_dig {u x y Y : Int} (hY : 0 < Y) :
    (u * 4294967296 + x) / Y * 4294967296 + ((u * 4294967296 + x) % Y * 4294967296 + y) / Y = ((u * 4294967296 + x) * 4294967296 + y) / Y ∧
    ((u * 4294967296 + x) % Y * 4294967296 + y) % Y = ((u * 4294967296 + x) * 4294967296 + y) % Y := by
  generalize u * 4294967296 + x = v
  have e := Int.ediv_mul_add_emod v Y
  have h : v * 4294967296 + y = (v % Y * 4294967296 + y) + (v / Y * 4294967296) * Y := by
    rw [Int.mul_right_comm]; omega
  rw [h, Int.add_mul_ediv_right _ _ (by omega), Int.add_mul_emod_self_right]
  exact ⟨by omega, rfl⟩
/-- A common factor of both numbers is a factor of the rest. -/
theorem scale_div {n y p : Int} (hp : 0 < p) : n * p / (y * p) = n / y ∧ n * p % (y * p) / p = n % y := by
  rw [Int.mul_ediv_mul_of_pos_left _ _ hp, Int.mul_comm n, Int.mul_comm y, Int.mul_emod_mul_of_pos _ _ hp]
  exact ⟨rfl, Int.mul_ediv_cancel_left _ (by omega)⟩

-- div64n
theorem quo_bd2 {w d : Int} (hd : 0 < d) : (0 ≤ w → 0 ≤ w / d ∧ w / d ≤ w) ∧ (w < 0 → w ≤ w / d ∧ w / d < 0) := by
  constructor
  · intro h
    exact ⟨Int.ediv_nonneg h (by omega), Int.ediv_le_self _ h⟩
  · intro h
    refine ⟨?_, Int.ediv_neg_of_neg_of_pos h hd⟩
    refine (Int.le_ediv_iff_mul_le hd).2 ?_
    have h1 : (-w) * 1 ≤ (-w) * d := Int.mul_le_mul_of_nonneg_left (by omega) (by omega)
    have h2 : (-w) * d = -(w * d) := Int.neg_mul ..
    omega
/-- What a long division by a number of 64 bits starts from, moved so far that the number fills its word. -/
structure Norm (hi lo y : Int) (s : Nat) (Y U V : Int) : Prop where
  s64 : s < 64
  eY : y * 2 ^ s = Y
  Y1 : 9223372036854775808 ≤ Y
  Y2 : Y < 18446744073709551616
  hs : hi * 2 ^ s < 18446744073709551616
  eU : hi * 2 ^ s + lo / 2 ^ (64 - s) = U
  U1 : 0 ≤ U
  U2 : U < Y
  eV : lo * 2 ^ s % 18446744073709551616 = V
  whole : (hi * 18446744073709551616 + lo) * 2 ^ s = U * 18446744073709551616 + V
  orU : (((BitVec.ofInt IntKind.u64.bits (hi * 2 ^ s) ||| BitVec.ofInt IntKind.u64.bits (lo / 2 ^ (64 - s))).toNat : Nat) : Int) = U
theorem bl_spec : ∀ (f x : Nat), x < 2 ^ f → f ≤ 64 → x < 2 ^ Lib.bitLen x ∧ (x ≠ 0 → 2 ^ Lib.bitLen x ≤ 2 * x)
  | 0, x, h, _ => by
    have : x = 0 := by omega
    subst this
    exact ⟨by decide, fun h => absurd rfl h⟩
  | f + 1, x, h, hf => by
    by_cases h0 : x = 0
    · subst h0; exact ⟨by decide, fun h => absurd rfl h⟩
    · have hx : x < 2 ^ 64 := Nat.lt_of_lt_of_le h (Nat.pow_le_pow_right (by omega) hf)
      obtain ⟨i1, i2⟩ := bl_spec f (x / 2) (by rw [Nat.pow_succ] at h; omega) (by omega)
      rw [Lib.bitLen_half x h0 hx, Nat.add_comm, Nat.pow_succ]
      refine ⟨by omega, fun _ => ?_⟩
      by_cases h1 : x / 2 = 0
      · have : x = 1 := by omega
        subst this
        decide
      · have := i2 h1
        omega
theorem norm_of {hi lo y : Int} (p1 : 0 ≤ hi) (p2 : 0 ≤ lo ∧ lo ≤ 18446744073709551615) (p3 : y ≤ 18446744073709551615) (hy : 0 < y) (hlt : hi < y) :
    ∃ (s : Nat) (Y U V : Int), 64 - (Lib.bitLen y.toNat : Int) = s ∧ Norm hi lo y s Y U V := by
  obtain ⟨b1, b2⟩ := bl_spec 64 y.toNat (by omega) (by omega)
  have b2 := b2 (by omega)
  have b3 := Lib.bitLen_le y.toNat 64 (by omega) (by omega)
  have b4 : 0 < Lib.bitLen y.toNat := by
    apply Nat.pos_of_ne_zero
    intro h
    rw [h] at b1
    omega
  generalize Lib.bitLen y.toNat = b at *
  obtain ⟨s, rfl, hs⟩ : ∃ s, b = 64 - s ∧ s < 64 := ⟨64 - b, by omega⟩
  have hP : (0 : Int) < 2 ^ s := Int.pow_pos (by omega)
  have hK : (0 : Int) < 2 ^ (64 - s) := Int.pow_pos (by omega)
  have hPK : (2 : Int) ^ s * 2 ^ (64 - s) = 18446744073709551616 := by
    rw [← Int.pow_add, show s + (64 - s) = 64 by omega]; rfl
  have c1 : y < 2 ^ (64 - s) := by
    have : ((y.toNat : Nat) : Int) < ((2 ^ (64 - s) : Nat) : Int) := by omega
    simp only [Int.natCast_pow, Int.cast_ofNat_Int] at this
    omega
  have c2 : (2 : Int) ^ (64 - s) ≤ 2 * y := by
    have : ((2 ^ (64 - s) : Nat) : Int) ≤ ((2 * y.toNat : Nat) : Int) := by omega
    simp only [Int.natCast_pow, Int.cast_ofNat_Int] at this
    omega
  refine ⟨s, y * 2 ^ s, hi * 2 ^ s + lo / 2 ^ (64 - s), lo * 2 ^ s % 18446744073709551616, by omega, ?_⟩
  generalize hKd : (2 : Int) ^ (64 - s) = K at *
  generalize hPd : (2 : Int) ^ s = P at *
  have y1 : P * K ≤ P * (2 * y) := Int.mul_le_mul_of_nonneg_left c2 (by omega)
  have y2 : P * y < P * K := Int.mul_lt_mul_of_pos_left c1 hP
  rw [hPK] at y1 y2
  rw [Int.mul_left_comm] at y1
  rw [Int.mul_comm P y] at y1 y2
  have y3 : (hi + 1) * P ≤ y * P := Int.mul_le_mul_of_nonneg_right (by omega) (by omega)
  rw [Int.add_mul, Int.one_mul] at y3
  have q0 : 0 ≤ lo / K := Int.ediv_nonneg p2.1 (by omega)
  have q1 : lo / K < P := Int.ediv_lt_of_lt_mul hK (by rw [hPK]; omega)
  have h0 : 0 ≤ hi * P := Int.mul_nonneg p1 (by omega)
  have em := Int.ediv_mul_add_emod lo K
  have m1 := Int.emod_nonneg lo (show K ≠ 0 by omega)
  have m2 := Int.emod_lt_of_pos lo hK
  have z1 : (lo % K) * P < K * P := Int.mul_lt_mul_of_pos_right m2 hP
  have z0 : 0 ≤ (lo % K) * P := Int.mul_nonneg m1 (by omega)
  rw [Int.mul_comm K P, hPK] at z1
  have z2 : lo * P = lo / K * 18446744073709551616 + lo % K * P := by
    rw [← hPK, Int.mul_comm P K, ← Int.mul_assoc, ← Int.add_mul, em]
  refine ⟨hs, by rw [hPd], by omega, by omega, by rw [hPd]; omega, by rw [hPd, hKd], by omega, by omega, by rw [hPd], ?_, ?_⟩
  · rw [Int.add_mul, hPd, Int.mul_right_comm]
    omega
  · have := or_lit s (x := lo / K) (q := hi) q0 (by rw [hPd]; exact q1) p1 (by rw [hPd]; omega)
    rw [hPd, BitVec.or_comm] at this
    rw [hPd, hKd]
    exact this

-- div64k
def lk (e : Env) (t : Nat) (n : Int) : Prop := look e t = some (.v (.c (.p (.int .u64 n))))
/-- What stays as it is while the digits are sought. -/
structure Stay (e : Env) (Y s h l U d1 d0 : Int) : Prop where
  k2 : look e 2 = some (.v (.c (.p (.int .u64 Y))))
  k8 : look e 8 = some (.v (.c (.p (.int .u64 s))))
  k9 : look e 9 = some (.v (.c (.p (.int .u64 h))))
  k10 : look e 10 = some (.v (.c (.p (.int .u64 l))))
  k11 : look e 11 = some (.v (.c (.p (.int .u64 U))))
  k13 : look e 13 = some (.v (.c (.p (.int .u64 d1))))
  k14 : look e 14 = some (.v (.c (.p (.int .u64 d0))))

-- math/bits.Div64
theorem math_bits_Div64_div64_ok : Fn Tryz.prog 142 F_div64 := by
  refine fn_of_go (O := orc [⟨151, F_lead64, .inl math_bits_LeadingZeros64_lead64_ok⟩]) mixed T_ok (orc_sound _) Tryz.func142 (by kernel_rfl) rfl Tryz.ntmps142 (by kernel_rfl) Tryz.results142 ?_
  intro args g pre r new hF hpre
  unfold F_div64 at hF
  split at hF
  · rename_i hi lo y
    simp only [Option.some.injEq, Prod.mk.injEq] at hF
    obtain ⟨rfl, hr, rfl⟩ := hF
    refine ⟨by simp, ?_⟩
    obtain ⟨p1, p2, p3, hy, hlt⟩ := hpre
    unfold inU at p1 p2 p3
    obtain ⟨s, Y, U, V, hs, N⟩ := norm_of p1.1 p2 p3.2 hy hlt
    have hP : (0 : Int) < 2 ^ s := Int.pow_pos (by omega)
    have s64 := N.s64
    have f1 : (s : Int) % 18446744073709551616 = s := by omega
    have f2 : (64 - (s : Int)) % 18446744073709551616 = ((64 - s : Nat) : Int) := by omega
    have f3 : hi * 2 ^ s % 18446744073709551616 = hi * 2 ^ s := Int.emod_eq_of_lt (Int.mul_nonneg p1.1 (by omega)) N.hs
    have f4 : Y % 18446744073709551616 = Y := by have := N.Y1; have := N.Y2; omega
    have f5 : U % 18446744073709551616 = U := by have := N.U1; have := N.U2; have := N.Y2; omega
    obtain ⟨h, eh⟩ : ∃ h, Y / 4294967296 = h := ⟨_, rfl⟩
    obtain ⟨l, el⟩ : ∃ l, Y % 4294967296 = l := ⟨_, rfl⟩
    obtain ⟨d1, e1⟩ : ∃ d, V / 4294967296 = d := ⟨_, rfl⟩
    obtain ⟨d0, e0⟩ : ∃ d, V % 4294967296 = d := ⟨_, rfl⟩
    have hV : 0 ≤ V ∧ V < 18446744073709551616 := by rw [← N.eV]; omega
    have bnd : 2147483648 ≤ h ∧ h < 4294967296 ∧ 0 ≤ l ∧ l < 4294967296 ∧ 0 ≤ d1 ∧ d1 < 4294967296 ∧ 0 ≤ d0 ∧ d0 < 4294967296 ∧ Y = h * 4294967296 + l ∧ V = d1 * 4294967296 + d0 := by
      have := N.Y1; have := N.Y2; omega
    obtain ⟨b1, b2, b3, b4, b5, b6, b7, b8, b9, b10⟩ := bnd
    have f6 : decide (h = 0) = false := by simp only [decide_eq_false_iff_not]; omega
    have f7 : l % 18446744073709551616 = l := by omega
    have f8 : d0 % 18446744073709551616 = d0 := by omega
    have f9 : U.tdiv h = U / h := tdiv_p N.U1
    have S1 := Dig.start b1 b2 b3 b4 b5 b6 N.U1 (by rw [← b9]; exact N.U2)
    have f10 : U / h % 18446744073709551616 = U / h := by have := S1.1.q1; have := S1.1.q2; omega
    have f11 : (U - U / h * h % 18446744073709551616) % 18446744073709551616 = U - U / h * h := by
      have := S1.1.r1; have := S1.2; have := S1.1.e; have := S1.1.u1; omega
    have f12 : decide (y = 0) = false := by simp only [decide_eq_false_iff_not]; omega
    have f13 : lo.tdiv y = lo / y := tdiv_p p2.1
    have f14 : lo.tmod y = lo % y := tmod_p p2.1
    have f15 : lo / y % 18446744073709551616 = lo / y := by have := (@quo_bd2 lo y hy).1 p2.1; omega
    have k1 : s ≤ 64 := by omega
    have k2 : 64 - s ≤ 64 := by omega
    simp (config := { maxSteps := 4000000, implicitDefEqProofs := false }) only [F_lead64_eq, WK0, WK1, WK2, WK3, WK4, WK5, WK6, WK7, WK8, WK9, WK10, WK11, WK12, WK13, WK14, WK15, WK16, WK17, WK18, WK19, WK20, WK21, WK22, WK23, WK24, WK25, WK26, WK27, WK28, WK29, WK30, look_hit, look_miss, List.map_cons, List.map_nil, Nat.add_zero, max_v, min_v, ↓cnd_t, ↓cnd_f, ↓grd_b, ↓grd_u, startEnv, Option.map_some, List.length_nil, List.length_cons, List.nil_append, List.cons_append, List.getElem?_cons_zero, List.getElem?_cons_succ, List.set_cons_zero, List.set_cons_succ, Bool.not_true, Bool.not_false, reduceIte, Nat.reduceEqDiff, Nat.reduceAdd, Nat.reduceLT, blt_lit, beq_lit, Bool.or_true, Bool.true_or, Bool.or_false, Bool.false_or, Bool.and_true, Bool.true_and, Bool.and_self, cond_true, cond_false, List.append_nil, Iv.eta, Option.map_none, idxO_l0, idxO_l1, decide_true, decide_false, reqs_true, Int.zero_sub, wrap_lit, wrapu_lit, Int.reduceLE, Int.reduceLT, Int.reduceAdd, Int.reduceSub, Int.reduceMul, Int.reduceNeg, Int.reduceEq, Option.bind_some, bin_shr_u64, bin_shl_u64, bin_shr_i64, bin_shl_i64, and_m32', Int.reduceToNat, Int.reducePow, Int.reduceMod, Int.reduceDiv, wrap_u64s, true_or, or_true, true_and, and_true, Option.isSome_none, Option.isSome_some, Nat.reduceLeDiff, Nat.reduceMul, Int.toNat_natCast, Int.cast_ofNat_Int, Int.natCast_zero, Int.natCast_one, List.isEmpty_nil, List.isEmpty_cons, List.replicate_zero, List.replicate_succ, T1, T2, T3, T4, T5, T6, T9, T10, T11, T12, T21, T22, T23, T25, T26, T27, T28, T29, T30, T32, T33, T34, T35, T36, T37, T38, T39, T40, T41, T42, T43, T44, T46, T48, T50, T52, T53, T54, T55, T56, T57, T58, T59, T61, T62, T63, T64, T65, T66, T67, T68, T69, T70, T71, T72, T73, T74, T75, T76, T77, T78, T79, T80, T81, T82, T83, T84, T85, T87, T89, T91, T92, T93, T95, T96, T97, T98, T102, T103, T105, T107, T108, T109, T110, T112, T116, T120, T121, T122, T123, T124, T125, T126, T128, T130, T131, T132, T134, T135, T136, T137, T138, T140, T142, T143, T145, T146, T148, T149, T150, T152, T153, T154, T155, T156, T163, T164, T165, T166, T167, bin_quo_c, bin_rem_c, hs, f1, f2, f3, N.eY, N.eV, N.eU, N.orU, f4, f5, eh, el, e1, e0, f6, f7, f8, f9, f10, f11, f12, f13, f14, f15, bin_shl_s k1, bin_shr_s k1, bin_shr_s k2]
    repeat' (first | with_reducible refine cnd_split (fun hc => ?_) (fun hc => ?_) | with_reducible refine Reqs.mk ?_ ?_)
    all_goals (try simp only [decide_eq_true_eq, decide_eq_false_iff_not] at *)
    all_goals (first | (exfalso; omega) | skip)
    · have h0 : hi = 0 := hc
      refine endS_uu (t := (((hi * 18446744073709551616 + lo) / y, (hi * 18446744073709551616 + lo) % y))) hr ?_
      rw [h0, Int.zero_mul, Int.zero_add]
    · exact p3
    refine goS_mono (Q := fun ex st => ex = .exit 0 ∧ st.heap = [] ∧ Stay st.env Y s h l U d1 d0 ∧ look st.env 15 = some (.v (.c (.p (.int .u64 ((U * 4294967296 + d1) / Y)))))) ?after1 ?loop1
    case loop1 =>
      refine go_loop (α := Int × Int) (fun a => a.1.toNat) (fun a e hh => hh = [] ∧ Stay e Y s h l U d1 d0 ∧ look e 15 = some (.v (.c (.p (.int .u64 a.1)))) ∧ look e 16 = some (.v (.c (.p (.int .u64 a.2)))) ∧ Dig U d1 h l a.1 a.2 ∧ a.2 < 4294967296) (U / h, U - U / h * h) ⟨rfl, ⟨rfl, rfl, rfl, rfl, rfl, rfl, rfl⟩, rfl, rfl, S1.1, by have := S1.2; simp only; omega⟩ ?_
      rintro X ⟨q, ρ⟩ e hh ⟨rfl, st, l15, l16, D, hr⟩ hX
      simp only at l15 l16 D hr
      simp (config := { maxSteps := 4000000, implicitDefEqProofs := false }) only [F_lead64_eq, WK0, WK1, WK2, WK3, WK4, WK5, WK6, WK7, WK8, WK9, WK10, WK11, WK12, WK13, WK14, WK15, WK16, WK17, WK18, WK19, WK20, WK21, WK22, WK23, WK24, WK25, WK26, WK27, WK28, WK29, WK30, look_hit, look_miss, List.map_cons, List.map_nil, Nat.add_zero, max_v, min_v, ↓cnd_t, ↓cnd_f, ↓grd_b, ↓grd_u, startEnv, Option.map_some, List.length_nil, List.length_cons, List.nil_append, List.cons_append, List.getElem?_cons_zero, List.getElem?_cons_succ, List.set_cons_zero, List.set_cons_succ, Bool.not_true, Bool.not_false, reduceIte, Nat.reduceEqDiff, Nat.reduceAdd, Nat.reduceLT, blt_lit, beq_lit, Bool.or_true, Bool.true_or, Bool.or_false, Bool.false_or, Bool.and_true, Bool.true_and, Bool.and_self, cond_true, cond_false, List.append_nil, Iv.eta, Option.map_none, idxO_l0, idxO_l1, decide_true, decide_false, reqs_true, Int.zero_sub, wrap_lit, wrapu_lit, Int.reduceLE, Int.reduceLT, Int.reduceAdd, Int.reduceSub, Int.reduceMul, Int.reduceNeg, Int.reduceEq, Option.bind_some, bin_shr_u64, bin_shl_u64, bin_shr_i64, bin_shl_i64, and_m32', Int.reduceToNat, Int.reducePow, Int.reduceMod, Int.reduceDiv, wrap_u64s, true_or, or_true, true_and, and_true, Option.isSome_none, Option.isSome_some, Nat.reduceLeDiff, Nat.reduceMul, Int.toNat_natCast, Int.cast_ofNat_Int, Int.natCast_zero, Int.natCast_one, List.isEmpty_nil, List.isEmpty_cons, List.replicate_zero, List.replicate_succ, T1, T2, T3, T4, T5, T6, T9, T10, T11, T12, T21, T22, T23, T25, T26, T27, T28, T29, T30, T32, T33, T34, T35, T36, T37, T38, T39, T40, T41, T42, T43, T44, T46, T48, T50, T52, T53, T54, T55, T56, T57, T58, T59, T61, T62, T63, T64, T65, T66, T67, T68, T69, T70, T71, T72, T73, T74, T75, T76, T77, T78, T79, T80, T81, T82, T83, T84, T85, T87, T89, T91, T92, T93, T95, T96, T97, T98, T102, T103, T105, T107, T108, T109, T110, T112, T116, T120, T121, T122, T123, T124, T125, T126, T128, T130, T131, T132, T134, T135, T136, T137, T138, T140, T142, T143, T145, T146, T148, T149, T150, T152, T153, T154, T155, T156, T163, T164, T165, T166, T167, bin_quo_c, bin_rem_c, st.k2, st.k8, st.k9, st.k10, st.k11, st.k13, st.k14, l15, l16]
      repeat' (first | with_reducible refine cnd_split (fun hc => ?_) (fun hc => ?_) | with_reducible refine Reqs.mk ?_ ?_)
      all_goals (try simp only [decide_eq_true_eq, decide_eq_false_iff_not] at *)
      all_goals first
        | (have ht := (by assumption : 4294967296 ≤ q)
           obtain ⟨D2, hq⟩ := D.next (.inl ht)
           have q2 := D.q2
           have z1 : (q - 1) % 18446744073709551616 = q - 1 := by omega
           have z2 : (ρ + h) % 18446744073709551616 = ρ + h := by have := D.r1; omega
           simp only [z1, z2] at *
           first
           | (have hcut := D2.cut (by assumption) (by omega)
              rw [← b9] at hcut
              refine ⟨rfl, rfl, ⟨?_, ?_, ?_, ?_, ?_, ?_, ?_⟩, ?_⟩
              all_goals (try simp only [look])
              all_goals simp [st.k2, st.k8, st.k9, st.k10, st.k11, st.k13, st.k14, hcut]; done)
           | (refine hX (q - 1, ρ + h) _ _ (by simp only; omega) ⟨rfl, ⟨?_, ?_, ?_, ?_, ?_, ?_, ?_⟩, ?_, ?_, D2, by simp only; omega⟩
              all_goals (try simp only [look])
              all_goals simp [st.k2, st.k8, st.k9, st.k10, st.k11, st.k13, st.k14]; done))
        | skip
      all_goals (have hf := D.fits (by omega))
      all_goals (have z3 : q * l % 18446744073709551616 = q * l := by omega)
      all_goals (have z4 : (4294967296 * ρ % 18446744073709551616 + d1) % 18446744073709551616 = 4294967296 * ρ + d1 := by have := D.r1; omega)
      all_goals (simp only [z3, z4] at *)
      all_goals first
        | (have hst := D.stop (by omega)
           rw [← b9] at hst
           refine ⟨⟨?_, ?_, ?_, ?_, ?_, ?_, ?_⟩, ?_⟩
           all_goals (try simp only [look])
           all_goals simp [st.k2, st.k8, st.k9, st.k10, st.k11, st.k13, st.k14, hst]; done)
        | skip
      all_goals (obtain ⟨D2, hq⟩ := D.next (.inr (by assumption)))
      all_goals (have q2 := D.q2)
      all_goals (have z1 : (q - 1) % 18446744073709551616 = q - 1 := by omega)
      all_goals (have z2 : (ρ + h) % 18446744073709551616 = ρ + h := by have := D.r1; omega)
      all_goals (simp only [z1, z2] at *)
      all_goals first
        | (have hcut := D2.cut (by assumption) (by omega)
           rw [← b9] at hcut
           refine ⟨rfl, rfl, ⟨?_, ?_, ?_, ?_, ?_, ?_, ?_⟩, ?_⟩
           all_goals (try simp only [look])
           all_goals simp [st.k2, st.k8, st.k9, st.k10, st.k11, st.k13, st.k14, hcut]; done)
        | (refine hX (q - 1, ρ + h) _ _ (by simp only; omega) ⟨rfl, ⟨?_, ?_, ?_, ?_, ?_, ?_, ?_⟩, ?_, ?_, D2, by simp only; omega⟩
           all_goals (try simp only [look])
           all_goals simp [st.k2, st.k8, st.k9, st.k10, st.k11, st.k13, st.k14]; done)
    case after1 =>
      rintro ex ⟨e, hh⟩ ⟨rfl, rfl, st, l15⟩
      simp only at st l15
      have hY0 : 0 < Y := by have := N.Y1; omega
      have em := Int.ediv_mul_add_emod (U * 4294967296 + d1) Y
      have m1 := Int.emod_nonneg (U * 4294967296 + d1) (show Y ≠ 0 by omega)
      have m2 := Int.emod_lt_of_pos (U * 4294967296 + d1) hY0
      have td := @two_dig U d1 d0 Y hY0
      have n1 : 0 ≤ (U * 4294967296 + d1) / Y := Int.ediv_nonneg (by have := N.U1; omega) (by omega)
      have n2 : (U * 4294967296 + d1) / Y < 4294967296 := Int.ediv_lt_of_lt_mul hY0 (by have := N.U2; omega)
      obtain ⟨Q1, eQ⟩ : ∃ q, (U * 4294967296 + d1) / Y = q := ⟨_, rfl⟩
      obtain ⟨R, eR⟩ : ∃ q, (U * 4294967296 + d1) % Y = q := ⟨_, rfl⟩
      rw [eQ] at l15 em td n1 n2
      rw [eR] at em m1 m2 td
      have S2 := Dig.start b1 b2 b3 b4 b7 b8 m1 (by rw [← b9]; exact m2)
      have g1 : ((U * 4294967296 % 18446744073709551616 + d1) % 18446744073709551616 - Q1 * Y % 18446744073709551616) % 18446744073709551616 = R := by
        have := N.Y2
        generalize Q1 * Y = p at *
        omega
      have g2 : R.tdiv h = R / h := tdiv_p m1
      have g3 : R / h % 18446744073709551616 = R / h := by have := S2.1.q1; have := S2.1.q2; omega
      have g4 : (R - R / h * h % 18446744073709551616) % 18446744073709551616 = R - R / h * h := by
        have := S2.1.r1; have := S2.2; have := S2.1.e; have := S2.1.u1; omega
      have g5 : decide (h = 0) = false := by simp only [decide_eq_false_iff_not]; omega
      simp (config := { maxSteps := 4000000, implicitDefEqProofs := false }) only [F_lead64_eq, WK0, WK1, WK2, WK3, WK4, WK5, WK6, WK7, WK8, WK9, WK10, WK11, WK12, WK13, WK14, WK15, WK16, WK17, WK18, WK19, WK20, WK21, WK22, WK23, WK24, WK25, WK26, WK27, WK28, WK29, WK30, look_hit, look_miss, List.map_cons, List.map_nil, Nat.add_zero, max_v, min_v, ↓cnd_t, ↓cnd_f, ↓grd_b, ↓grd_u, startEnv, Option.map_some, List.length_nil, List.length_cons, List.nil_append, List.cons_append, List.getElem?_cons_zero, List.getElem?_cons_succ, List.set_cons_zero, List.set_cons_succ, Bool.not_true, Bool.not_false, reduceIte, Nat.reduceEqDiff, Nat.reduceAdd, Nat.reduceLT, blt_lit, beq_lit, Bool.or_true, Bool.true_or, Bool.or_false, Bool.false_or, Bool.and_true, Bool.true_and, Bool.and_self, cond_true, cond_false, List.append_nil, Iv.eta, Option.map_none, idxO_l0, idxO_l1, decide_true, decide_false, reqs_true, Int.zero_sub, wrap_lit, wrapu_lit, Int.reduceLE, Int.reduceLT, Int.reduceAdd, Int.reduceSub, Int.reduceMul, Int.reduceNeg, Int.reduceEq, Option.bind_some, bin_shr_u64, bin_shl_u64, bin_shr_i64, bin_shl_i64, and_m32', Int.reduceToNat, Int.reducePow, Int.reduceMod, Int.reduceDiv, wrap_u64s, true_or, or_true, true_and, and_true, Option.isSome_none, Option.isSome_some, Nat.reduceLeDiff, Nat.reduceMul, Int.toNat_natCast, Int.cast_ofNat_Int, Int.natCast_zero, Int.natCast_one, List.isEmpty_nil, List.isEmpty_cons, List.replicate_zero, List.replicate_succ, T1, T2, T3, T4, T5, T6, T9, T10, T11, T12, T21, T22, T23, T25, T26, T27, T28, T29, T30, T32, T33, T34, T35, T36, T37, T38, T39, T40, T41, T42, T43, T44, T46, T48, T50, T52, T53, T54, T55, T56, T57, T58, T59, T61, T62, T63, T64, T65, T66, T67, T68, T69, T70, T71, T72, T73, T74, T75, T76, T77, T78, T79, T80, T81, T82, T83, T84, T85, T87, T89, T91, T92, T93, T95, T96, T97, T98, T102, T103, T105, T107, T108, T109, T110, T112, T116, T120, T121, T122, T123, T124, T125, T126, T128, T130, T131, T132, T134, T135, T136, T137, T138, T140, T142, T143, T145, T146, T148, T149, T150, T152, T153, T154, T155, T156, T163, T164, T165, T166, T167, bin_quo_c, bin_rem_c, st.k2, st.k8, st.k9, st.k10, st.k11, st.k13, st.k14, l15, g1, g2, g3, g4, g5]
      refine goS_mono (Q := fun ex st => ex = .exit 2 ∧ st.heap = [] ∧ Stay st.env Y s h l U d1 d0 ∧ look st.env 15 = some (.v (.c (.p (.int .u64 Q1)))) ∧ look st.env 17 = some (.v (.c (.p (.int .u64 R)))) ∧ look st.env 18 = some (.v (.c (.p (.int .u64 ((R * 4294967296 + d0) / Y)))))) ?after2 ?loop2
      case loop2 =>
        refine go_loop (α := Int × Int) (fun a => a.1.toNat) (fun a e hh => hh = [] ∧ Stay e Y s h l U d1 d0 ∧ look e 15 = some (.v (.c (.p (.int .u64 Q1)))) ∧ look e 17 = some (.v (.c (.p (.int .u64 R)))) ∧ look e 18 = some (.v (.c (.p (.int .u64 a.1)))) ∧ look e 16 = some (.v (.c (.p (.int .u64 a.2)))) ∧ Dig R d0 h l a.1 a.2 ∧ a.2 < 4294967296) (R / h, R - R / h * h) ⟨rfl, ⟨by simp [look, st.k2], by simp [look, st.k8], by simp [look, st.k9], by simp [look, st.k10], by simp [look, st.k11], by simp [look, st.k13], by simp [look, st.k14]⟩, by simp [look, l15], by simp [look], by simp [look], by simp [look], S2.1, by have := S2.2; simp only; omega⟩ ?_
        clear st l15
        rintro X ⟨q, ρ⟩ e hh ⟨rfl, st, l15, l17, l18, l16, D, hr⟩ hX
        simp only at l15 l16 l17 l18 D hr
        simp (config := { maxSteps := 4000000, implicitDefEqProofs := false }) only [F_lead64_eq, WK0, WK1, WK2, WK3, WK4, WK5, WK6, WK7, WK8, WK9, WK10, WK11, WK12, WK13, WK14, WK15, WK16, WK17, WK18, WK19, WK20, WK21, WK22, WK23, WK24, WK25, WK26, WK27, WK28, WK29, WK30, look_hit, look_miss, List.map_cons, List.map_nil, Nat.add_zero, max_v, min_v, ↓cnd_t, ↓cnd_f, ↓grd_b, ↓grd_u, startEnv, Option.map_some, List.length_nil, List.length_cons, List.nil_append, List.cons_append, List.getElem?_cons_zero, List.getElem?_cons_succ, List.set_cons_zero, List.set_cons_succ, Bool.not_true, Bool.not_false, reduceIte, Nat.reduceEqDiff, Nat.reduceAdd, Nat.reduceLT, blt_lit, beq_lit, Bool.or_true, Bool.true_or, Bool.or_false, Bool.false_or, Bool.and_true, Bool.true_and, Bool.and_self, cond_true, cond_false, List.append_nil, Iv.eta, Option.map_none, idxO_l0, idxO_l1, decide_true, decide_false, reqs_true, Int.zero_sub, wrap_lit, wrapu_lit, Int.reduceLE, Int.reduceLT, Int.reduceAdd, Int.reduceSub, Int.reduceMul, Int.reduceNeg, Int.reduceEq, Option.bind_some, bin_shr_u64, bin_shl_u64, bin_shr_i64, bin_shl_i64, and_m32', Int.reduceToNat, Int.reducePow, Int.reduceMod, Int.reduceDiv, wrap_u64s, true_or, or_true, true_and, and_true, Option.isSome_none, Option.isSome_some, Nat.reduceLeDiff, Nat.reduceMul, Int.toNat_natCast, Int.cast_ofNat_Int, Int.natCast_zero, Int.natCast_one, List.isEmpty_nil, List.isEmpty_cons, List.replicate_zero, List.replicate_succ, T1, T2, T3, T4, T5, T6, T9, T10, T11, T12, T21, T22, T23, T25, T26, T27, T28, T29, T30, T32, T33, T34, T35, T36, T37, T38, T39, T40, T41, T42, T43, T44, T46, T48, T50, T52, T53, T54, T55, T56, T57, T58, T59, T61, T62, T63, T64, T65, T66, T67, T68, T69, T70, T71, T72, T73, T74, T75, T76, T77, T78, T79, T80, T81, T82, T83, T84, T85, T87, T89, T91, T92, T93, T95, T96, T97, T98, T102, T103, T105, T107, T108, T109, T110, T112, T116, T120, T121, T122, T123, T124, T125, T126, T128, T130, T131, T132, T134, T135, T136, T137, T138, T140, T142, T143, T145, T146, T148, T149, T150, T152, T153, T154, T155, T156, T163, T164, T165, T166, T167, bin_quo_c, bin_rem_c, st.k2, st.k8, st.k9, st.k10, st.k11, st.k13, st.k14, l15, l16, l17, l18]
        repeat' (first | with_reducible refine cnd_split (fun hc => ?_) (fun hc => ?_) | with_reducible refine Reqs.mk ?_ ?_)
        all_goals (try simp only [decide_eq_true_eq, decide_eq_false_iff_not] at *)
        all_goals first
          | (have ht := (by assumption : 4294967296 ≤ q)
             obtain ⟨D2, hq⟩ := D.next (.inl ht)
             have q2 := D.q2
             have z1 : (q - 1) % 18446744073709551616 = q - 1 := by omega
             have z2 : (ρ + h) % 18446744073709551616 = ρ + h := by have := D.r1; omega
             simp only [z1, z2] at *
             first
             | (have hcut := D2.cut (by assumption) (by omega)
                rw [← b9] at hcut
                refine ⟨rfl, rfl, ⟨?_, ?_, ?_, ?_, ?_, ?_, ?_⟩, ?_, ?_, ?_⟩
                all_goals (try simp only [look])
                all_goals simp [st.k2, st.k8, st.k9, st.k10, st.k11, st.k13, st.k14, l15, l17, hcut]; done)
             | (refine hX (q - 1, ρ + h) _ _ (by simp only; omega) ⟨rfl, ⟨?_, ?_, ?_, ?_, ?_, ?_, ?_⟩, ?_, ?_, ?_, ?_, D2, by simp only; omega⟩
                all_goals (try simp only [look])
                all_goals simp [st.k2, st.k8, st.k9, st.k10, st.k11, st.k13, st.k14, l15, l17]; done))
          | skip
        all_goals (have hf := D.fits (by omega))
        all_goals (have z3 : q * l % 18446744073709551616 = q * l := by omega)
        all_goals (have z4 : (4294967296 * ρ % 18446744073709551616 + d0) % 18446744073709551616 = 4294967296 * ρ + d0 := by have := D.r1; omega)
        all_goals (simp only [z3, z4] at *)
        all_goals first
          | (have hst := D.stop (by omega)
             rw [← b9] at hst
             refine ⟨⟨?_, ?_, ?_, ?_, ?_, ?_, ?_⟩, ?_⟩
             all_goals (try simp only [look])
             all_goals simp [st.k2, st.k8, st.k9, st.k10, st.k11, st.k13, st.k14, l15, l17, hst]; done)
          | skip
        all_goals (obtain ⟨D2, hq⟩ := D.next (.inr (by assumption)))
        all_goals (have q2 := D.q2)
        all_goals (have z1 : (q - 1) % 18446744073709551616 = q - 1 := by omega)
        all_goals (have z2 : (ρ + h) % 18446744073709551616 = ρ + h := by have := D.r1; omega)
        all_goals (simp only [z1, z2] at *)
        all_goals first
          | (have hcut := D2.cut (by assumption) (by omega)
             rw [← b9] at hcut
             refine ⟨rfl, rfl, ⟨?_, ?_, ?_, ?_, ?_, ?_, ?_⟩, ?_, ?_, ?_⟩
             all_goals (try simp only [look])
             all_goals simp [st.k2, st.k8, st.k9, st.k10, st.k11, st.k13, st.k14, l15, l17, hcut]; done)
          | (refine hX (q - 1, ρ + h) _ _ (by simp only; omega) ⟨rfl, ⟨?_, ?_, ?_, ?_, ?_, ?_, ?_⟩, ?_, ?_, ?_, ?_, D2, by simp only; omega⟩
             all_goals (try simp only [look])
             all_goals simp [st.k2, st.k8, st.k9, st.k10, st.k11, st.k13, st.k14, l15, l17]; done)
      case after2 =>
        clear st l15
        rintro ex ⟨e, hh⟩ ⟨rfl, rfl, st, l15, l17, l18⟩
        simp only at st l15 l17 l18
        have em2 := Int.ediv_mul_add_emod (R * 4294967296 + d0) Y
        have m3 := Int.emod_nonneg (R * 4294967296 + d0) (show Y ≠ 0 by omega)
        have m4 := Int.emod_lt_of_pos (R * 4294967296 + d0) hY0
        have n3 : 0 ≤ (R * 4294967296 + d0) / Y := Int.ediv_nonneg (by omega) (by omega)
        have n4 : (R * 4294967296 + d0) / Y < 4294967296 := Int.ediv_lt_of_lt_mul hY0 (by omega)
        have sd := @scale_div (hi * 18446744073709551616 + lo) y (2 ^ s) hP
        rw [N.eY, N.whole, b10] at sd
        have eW : (U * 4294967296 + d1) * 4294967296 + d0 = U * 18446744073709551616 + (d1 * 4294967296 + d0) := by omega
        rw [eW] at td
        rw [← td.1, ← td.2] at sd
        obtain ⟨Q0, eQ0⟩ : ∃ q, (R * 4294967296 + d0) / Y = q := ⟨_, rfl⟩
        obtain ⟨R0, eR0⟩ : ∃ q, (R * 4294967296 + d0) % Y = q := ⟨_, rfl⟩
        rw [eQ0] at l18 em2 n3 n4 sd
        rw [eR0] at em2 m3 m4 sd
        have z1 : (Q1 * 4294967296 % 18446744073709551616 + Q0) % 18446744073709551616 = Q1 * 4294967296 + Q0 := by omega
        have z2 : ((R * 4294967296 % 18446744073709551616 + d0) % 18446744073709551616 - Q0 * Y % 18446744073709551616) % 18446744073709551616 = R0 := by
          have := N.Y2
          generalize Q0 * Y = p at *
          omega
        simp (config := { maxSteps := 4000000, implicitDefEqProofs := false }) only [F_lead64_eq, WK0, WK1, WK2, WK3, WK4, WK5, WK6, WK7, WK8, WK9, WK10, WK11, WK12, WK13, WK14, WK15, WK16, WK17, WK18, WK19, WK20, WK21, WK22, WK23, WK24, WK25, WK26, WK27, WK28, WK29, WK30, look_hit, look_miss, List.map_cons, List.map_nil, Nat.add_zero, max_v, min_v, ↓cnd_t, ↓cnd_f, ↓grd_b, ↓grd_u, startEnv, Option.map_some, List.length_nil, List.length_cons, List.nil_append, List.cons_append, List.getElem?_cons_zero, List.getElem?_cons_succ, List.set_cons_zero, List.set_cons_succ, Bool.not_true, Bool.not_false, reduceIte, Nat.reduceEqDiff, Nat.reduceAdd, Nat.reduceLT, blt_lit, beq_lit, Bool.or_true, Bool.true_or, Bool.or_false, Bool.false_or, Bool.and_true, Bool.true_and, Bool.and_self, cond_true, cond_false, List.append_nil, Iv.eta, Option.map_none, idxO_l0, idxO_l1, decide_true, decide_false, reqs_true, Int.zero_sub, wrap_lit, wrapu_lit, Int.reduceLE, Int.reduceLT, Int.reduceAdd, Int.reduceSub, Int.reduceMul, Int.reduceNeg, Int.reduceEq, Option.bind_some, bin_shr_u64, bin_shl_u64, bin_shr_i64, bin_shl_i64, and_m32', Int.reduceToNat, Int.reducePow, Int.reduceMod, Int.reduceDiv, wrap_u64s, true_or, or_true, true_and, and_true, Option.isSome_none, Option.isSome_some, Nat.reduceLeDiff, Nat.reduceMul, Int.toNat_natCast, Int.cast_ofNat_Int, Int.natCast_zero, Int.natCast_one, List.isEmpty_nil, List.isEmpty_cons, List.replicate_zero, List.replicate_succ, T1, T2, T3, T4, T5, T6, T9, T10, T11, T12, T21, T22, T23, T25, T26, T27, T28, T29, T30, T32, T33, T34, T35, T36, T37, T38, T39, T40, T41, T42, T43, T44, T46, T48, T50, T52, T53, T54, T55, T56, T57, T58, T59, T61, T62, T63, T64, T65, T66, T67, T68, T69, T70, T71, T72, T73, T74, T75, T76, T77, T78, T79, T80, T81, T82, T83, T84, T85, T87, T89, T91, T92, T93, T95, T96, T97, T98, T102, T103, T105, T107, T108, T109, T110, T112, T116, T120, T121, T122, T123, T124, T125, T126, T128, T130, T131, T132, T134, T135, T136, T137, T138, T140, T142, T143, T145, T146, T148, T149, T150, T152, T153, T154, T155, T156, T163, T164, T165, T166, T167, bin_quo_c, bin_rem_c, st.k2, st.k8, st.k9, st.k10, st.k11, st.k13, st.k14, l15, l17, l18, z1, z2, bin_shr_s k1]
        refine endS_uu (t := (((hi * 18446744073709551616 + lo) / y, (hi * 18446744073709551616 + lo) % y))) hr ?_
        rw [sd.1, sd.2]
  · cases hF

end Go.Proofs.YtcnapkdccjibpaaGreatDoor.Eng
