/- What functions of the program compute, and that the program computes it: part 8. -/
import Derived.Test.YtcnapkdccjibpaaTab
import Derived.Test.YtcnapkdccjibpaaEng16
import Derived.Laws.BitsLemmas
import Derived.Laws.Bits64
import Derived.Laws.Bits64b
import Derived.Lib.Mul64
import Derived.Lib.BitFns
import Derived.Laws.Externs
import Derived.Test.YtcnapkdccjibpaaL1
import Derived.Test.YtcnapkdccjibpaaL2
import Derived.Test.YtcnapkdccjibpaaL3
import Derived.Test.YtcnapkdccjibpaaL4
import Derived.Test.YtcnapkdccjibpaaL7
namespace Go.Proofs.Ytcnapkdccjibpaa.Eng
open Go Go.RowKit
set_option linter.unusedVariables false
set_option linter.unusedSimpArgs false
set_option maxRecDepth 100000
set_option maxHeartbeats 1000000
-- divide
def F_divide : FT
  | [.c (.p (.int .u64 hi)), .c (.p (.int .u64 lo)), .c (.p (.int .u64 d))], _ => some (inU hi ∧ inU lo ∧ 0 < d ∧ d < 9223372036854775808, .tup [.c (.p (.int .u64 (((hi / d, (hi % d * 18446744073709551616 + lo) / d, (hi % d * 18446744073709551616 + lo) % d)).1))), .c (.p (.int .u64 (((hi / d, (hi % d * 18446744073709551616 + lo) / d, (hi % d * 18446744073709551616 + lo) % d)).2.1))), .c (.p (.int .u64 (((hi / d, (hi % d * 18446744073709551616 + lo) / d, (hi % d * 18446744073709551616 + lo) % d)).2.2)))], [])
  | _, _ => none
theorem F_divide_eq {hi : Int} {lo : Int} {d : Int} {g : List PC} : F_divide [.c (.p (.int .u64 hi)), .c (.p (.int .u64 lo)), .c (.p (.int .u64 d))] g = some (inU hi ∧ inU lo ∧ 0 < d ∧ d < 9223372036854775808, .tup [.c (.p (.int .u64 (((hi / d, (hi % d * 18446744073709551616 + lo) / d, (hi % d * 18446744073709551616 + lo) % d)).1))), .c (.p (.int .u64 (((hi / d, (hi % d * 18446744073709551616 + lo) / d, (hi % d * 18446744073709551616 + lo) % d)).2.1))), .c (.p (.int .u64 (((hi / d, (hi % d * 18446744073709551616 + lo) / d, (hi % d * 18446744073709551616 + lo) % d)).2.2)))], []) := rfl
theorem split_div {hi lo d : Int} (hd : 0 < d) (hl : 0 ≤ lo) (h2 : lo < 18446744073709551616) :
    (hi * 18446744073709551616 + lo) / d = hi / d * 18446744073709551616 + (hi % d * 18446744073709551616 + lo) / d ∧
    (hi * 18446744073709551616 + lo) % d = (hi % d * 18446744073709551616 + lo) % d ∧ 0 ≤ (hi % d * 18446744073709551616 + lo) / d ∧ (hi % d * 18446744073709551616 + lo) / d < 18446744073709551616 := by
  have e := Int.ediv_mul_add_emod hi d
  have r1 := Int.emod_nonneg hi (show d ≠ 0 by omega)
  have r2 := Int.emod_lt_of_pos hi hd
  have h : hi * 18446744073709551616 + lo = (hi % d * 18446744073709551616 + lo) + (hi / d * 18446744073709551616) * d := by
    rw [Int.mul_right_comm]; omega
  refine ⟨?_, ?_, Int.ediv_nonneg (by omega) (by omega), ?_⟩
  · rw [h, Int.add_mul_ediv_right _ _ (by omega)]; omega
  · rw [h, Int.add_mul_emod_self_right]
  · refine Int.ediv_lt_of_lt_mul hd ?_
    omega
theorem div_halves {hi lo d : Int} (hd : 0 < d) (hl : 0 ≤ lo) (h2 : lo < 18446744073709551616) :
    hi / d = whi (wv hi lo / d) ∧ (hi % d * 18446744073709551616 + lo) / d = wlo (wv hi lo / d) ∧ (hi % d * 18446744073709551616 + lo) % d = wv hi lo % d := by
  obtain ⟨h1, h3, h4, h5⟩ := @split_div hi lo d hd hl h2
  unfold wv
  rw [h1, ← h3]
  unfold whi wlo
  omega
theorem neg_div {w d : Int} (hd : 0 < d) : (-w % d = 0 → w / d = -(-w / d) ∧ w % d = 0) ∧ (-w % d ≠ 0 → w / d = -(-w / d + 1) ∧ w % d = d - -w % d) := by
  have e := Int.ediv_mul_add_emod (-w) d
  have r1 := Int.emod_nonneg (-w) (show d ≠ 0 by omega)
  have r2 := Int.emod_lt_of_pos (-w) hd
  constructor
  · intro h
    have h0 : w = -(-w / d) * d := by rw [Int.neg_mul]; omega
    generalize -(-w / d) = q at *
    rw [h0, Int.mul_ediv_cancel _ (by omega), Int.mul_emod_left]
    exact ⟨rfl, rfl⟩
  · intro h
    have h0 : w = (d - -w % d) + -(-w / d + 1) * d := by rw [Int.neg_mul, Int.add_mul]; omega
    generalize -w % d = r at *
    generalize -w / d = q at *
    rw [h0, Int.add_mul_ediv_right _ _ (by omega), Int.add_mul_emod_self_right, Int.ediv_eq_zero_of_lt (by omega) (by omega), Int.emod_eq_of_lt (by omega) (by omega)]
    omega

-- mulDiv
def mulDiv (a b d : Int) : Int × Bool := if 0 < d then wideInt (a * b / d) else (0, false)
def F_mulDiv : FT
  | [.c (.p (.int .i64 a)), .c (.p (.int .i64 b)), .c (.p (.int .i64 d))], _ => some (inR a ∧ inR b ∧ inR d, .tup [.c (.p (.int .i64 ((mulDiv a b d).1))), .c (.p (.bool ((mulDiv a b d).2)))], [])
  | _, _ => none
theorem F_mulDiv_eq {a : Int} {b : Int} {d : Int} {g : List PC} : F_mulDiv [.c (.p (.int .i64 a)), .c (.p (.int .i64 b)), .c (.p (.int .i64 d))] g = some (inR a ∧ inR b ∧ inR d, .tup [.c (.p (.int .i64 ((mulDiv a b d).1))), .c (.p (.bool ((mulDiv a b d).2)))], []) := rfl
theorem prod_bd {a b d : Int} (ha : inR a) (hb : inR b) (hd : 0 < d) : inR (whi (a * b / d)) ∧ inU (wlo (a * b / d)) := by
  have h := mul_bd ha hb
  have h2 := @quo_bd2 (a * b) d hd
  exact wide_in (by omega) (by omega)

-- mulDivUp
def mulDivUp (a b d : Int) : Int × Bool := if 0 < d then (if (wideInt (a * b / d)).2 then (if a * b % d = 0 then wideInt (a * b / d) else if (wideInt (a * b / d)).1 = 9223372036854775807 then (0, false) else ((wideInt (a * b / d)).1 + 1, true)) else (0, false)) else (0, false)
def F_mulDivUp : FT
  | [.c (.p (.int .i64 a)), .c (.p (.int .i64 b)), .c (.p (.int .i64 d))], _ => some (inR a ∧ inR b ∧ inR d, .tup [.c (.p (.int .i64 ((mulDivUp a b d).1))), .c (.p (.bool ((mulDivUp a b d).2)))], [])
  | _, _ => none
theorem F_mulDivUp_eq {a : Int} {b : Int} {d : Int} {g : List PC} : F_mulDivUp [.c (.p (.int .i64 a)), .c (.p (.int .i64 b)), .c (.p (.int .i64 d))] g = some (inR a ∧ inR b ∧ inR d, .tup [.c (.p (.int .i64 ((mulDivUp a b d).1))), .c (.p (.bool ((mulDivUp a b d).2)))], []) := rfl
theorem wideInt_in (w : Int) : inR (wideInt w).1 := by
  unfold wideInt inR
  split
  · rename_i h; rw [within_iff] at h; exact h
  · simp only; omega
theorem wideInt_f {w : Int} (h : (wideInt w).2 = false) : wideInt w = (0, false) := by
  unfold wideInt at *
  split at h
  · cases h
  · rename_i h1; rw [if_neg h1]
theorem wideInt_t {w : Int} (h : (wideInt w).2 = true) : (wideInt w).1 = w ∧ inR w := by
  unfold wideInt at *
  split at h
  · rename_i h1; rw [if_pos h1]; rw [within_iff] at h1; exact ⟨rfl, h1⟩
  · cases h

-- fixFloor
def fixFloor (a d : Int) : Int × Bool := fixed (mulDiv a 4294967296 d).1 (mulDiv a 4294967296 d).2
def fixCeil (a d : Int) : Int × Bool := fixed (mulDivUp a 4294967296 d).1 (mulDivUp a 4294967296 d).2
def F_fixFloor : FT
  | [.c (.p (.int .i64 a)), .c (.p (.int .i64 d))], _ => some (inR a ∧ inR d, .tup [.c (.p (.int .i64 ((fixFloor a d).1))), .c (.p (.bool ((fixFloor a d).2)))], [])
  | _, _ => none
theorem F_fixFloor_eq {a : Int} {d : Int} {g : List PC} : F_fixFloor [.c (.p (.int .i64 a)), .c (.p (.int .i64 d))] g = some (inR a ∧ inR d, .tup [.c (.p (.int .i64 ((fixFloor a d).1))), .c (.p (.bool ((fixFloor a d).2)))], []) := rfl
def F_fixCeil : FT
  | [.c (.p (.int .i64 a)), .c (.p (.int .i64 d))], _ => some (inR a ∧ inR d, .tup [.c (.p (.int .i64 ((fixCeil a d).1))), .c (.p (.bool ((fixCeil a d).2)))], [])
  | _, _ => none
theorem F_fixCeil_eq {a : Int} {d : Int} {g : List PC} : F_fixCeil [.c (.p (.int .i64 a)), .c (.p (.int .i64 d))] g = some (inR a ∧ inR d, .tup [.c (.p (.int .i64 ((fixCeil a d).1))), .c (.p (.bool ((fixCeil a d).2)))], []) := rfl

-- divDown
def divDown (a b : Int) : Int × Bool := if fixOk a && fixOk b then (if b < 0 then fixed (mulDiv (-a) 4294967296 (-b)).1 (mulDiv (-a) 4294967296 (-b)).2 else fixed (mulDiv a 4294967296 b).1 (mulDiv a 4294967296 b).2) else (0, false)
def divUp (a b : Int) : Int × Bool := if fixOk a && fixOk b then (-(divDown (-a) b).1, (divDown (-a) b).2) else (0, false)
def F_divDown : FT
  | [.c (.p (.int .i64 a)), .c (.p (.int .i64 b))], _ => some (True, .tup [.c (.p (.int .i64 ((divDown a b).1))), .c (.p (.bool ((divDown a b).2)))], [])
  | _, _ => none
theorem F_divDown_eq {a : Int} {b : Int} {g : List PC} : F_divDown [.c (.p (.int .i64 a)), .c (.p (.int .i64 b))] g = some (True, .tup [.c (.p (.int .i64 ((divDown a b).1))), .c (.p (.bool ((divDown a b).2)))], []) := rfl
def F_divUp : FT
  | [.c (.p (.int .i64 a)), .c (.p (.int .i64 b))], _ => some (True, .tup [.c (.p (.int .i64 ((divUp a b).1))), .c (.p (.bool ((divUp a b).2)))], [])
  | _, _ => none
theorem F_divUp_eq {a : Int} {b : Int} {g : List PC} : F_divUp [.c (.p (.int .i64 a)), .c (.p (.int .i64 b))] g = some (True, .tup [.c (.p (.int .i64 ((divUp a b).1))), .c (.p (.bool ((divUp a b).2)))], []) := rfl
theorem divDown_bd (a b : Int) : -1152921504606846976 ≤ (divDown a b).1 ∧ (divDown a b).1 ≤ 1152921504606846976 := by
  unfold divDown
  split
  · split <;> exact fixed_bd _ _
  · simp only; omega
theorem divUp_bd (a b : Int) : -1152921504606846976 ≤ (divUp a b).1 ∧ (divUp a b).1 ≤ 1152921504606846976 := by
  unfold divUp
  have := divDown_bd (-a) b
  split <;> simp only <;> omega
theorem wnegV {a b : Int} : IntKind.i64.wrap (-(divDown a b).1) = -(divDown a b).1 := by
  have := divDown_bd a b; exact wrap_om (by omega) (by omega)
theorem divDown_f {a b : Int} (h : fixOk b = false) : divDown a b = (0, false) := by simp [divDown, h]
theorem divDown_0 {a : Int} : divDown a 0 = (0, false) := by
  unfold divDown
  split
  · rw [if_neg (by omega)]
    simp [mulDiv, fixed]
  · rfl
theorem fix_in2 {n : Int} (h : fixOk n = true) : inR n ∧ inR (-n) ∧ IntKind.i64.wrap (-n) = -n := by
  have h1 := wneg h
  rw [fixOk_iff] at h; unfold inR; omega

-- divI
def divI (a b : Iv) : Iv := if okI a && okI b && !within 0 b.lo b.hi then comb divDown divUp a b else whole
def F_combD : FT
  | [.agg [.int .i64 a1, .int .i64 a2], .agg [.int .i64 b1, .int .i64 b2], .c (.p (.fn 106)), .c (.p (.fn 107))], _ => some (True, .v (.agg [.int .i64 ((comb divDown divUp (Iv.mk a1 a2) (Iv.mk b1 b2))).lo, .int .i64 ((comb divDown divUp (Iv.mk a1 a2) (Iv.mk b1 b2))).hi]), [])
  | _, _ => none
theorem F_combD_eq {a1 : Int} {a2 : Int} {b1 : Int} {b2 : Int} {g : List PC} : F_combD [.agg [.int .i64 a1, .int .i64 a2], .agg [.int .i64 b1, .int .i64 b2], .c (.p (.fn 106)), .c (.p (.fn 107))] g = some (True, .v (.agg [.int .i64 ((comb divDown divUp (Iv.mk a1 a2) (Iv.mk b1 b2))).lo, .int .i64 ((comb divDown divUp (Iv.mk a1 a2) (Iv.mk b1 b2))).hi]), []) := rfl
def F_divI : FT
  | [.agg [.int .i64 a1, .int .i64 a2], .agg [.int .i64 b1, .int .i64 b2]], _ => some (True, .v (.agg [.int .i64 ((divI (Iv.mk a1 a2) (Iv.mk b1 b2))).lo, .int .i64 ((divI (Iv.mk a1 a2) (Iv.mk b1 b2))).hi]), [])
  | _, _ => none
theorem F_divI_eq {a1 : Int} {a2 : Int} {b1 : Int} {b2 : Int} {g : List PC} : F_divI [.agg [.int .i64 a1, .int .i64 a2], .agg [.int .i64 b1, .int .i64 b2]] g = some (True, .v (.agg [.int .i64 ((divI (Iv.mk a1 a2) (Iv.mk b1 b2))).lo, .int .i64 ((divI (Iv.mk a1 a2) (Iv.mk b1 b2))).hi]), []) := rfl
theorem minV {a b : Int} : min 1152921504606846976 (divDown a b).1 = (divDown a b).1 := by
  have := divDown_bd a b; omega
theorem maxV {a b : Int} : max (-1152921504606846976) (divUp a b).1 = (divUp a b).1 := by
  have := divUp_bd a b; omega

-- quotient
def quotP (n d : Int) : Iv := if (fixFloor n d).2 && (fixCeil n d).2 then mkI (fixFloor n d).1 (fixCeil n d).1 else whole
def quotI (n d : Int) : Iv := if d < 0 then (if n = -9223372036854775808 ∨ d = -9223372036854775808 then whole else quotP (-n) (-d)) else quotP n d
def F_quotI : FT
  | [.c (.p (.int .i64 n)), .c (.p (.int .i64 d))], _ => some (inR n ∧ inR d, .v (.agg [.int .i64 ((quotI n d)).lo, .int .i64 ((quotI n d)).hi]), [])
  | _, _ => none
theorem F_quotI_eq {n : Int} {d : Int} {g : List PC} : F_quotI [.c (.p (.int .i64 n)), .c (.p (.int .i64 d))] g = some (inR n ∧ inR d, .v (.agg [.int .i64 ((quotI n d)).lo, .int .i64 ((quotI n d)).hi]), []) := rfl

theorem quotI_neg {n d : Int} (h : d < 0) (h1 : n ≠ -9223372036854775808) (h2 : d ≠ -9223372036854775808) : quotI n d = if (fixFloor (-n) (-d)).2 && (fixCeil (-n) (-d)).2 then mkI (fixFloor (-n) (-d)).1 (fixCeil (-n) (-d)).1 else whole := by
  unfold quotI
  rw [if_pos h, if_neg (by omega)]; rfl
theorem quotI_pos {n d : Int} (h : ¬ d < 0) : quotI n d = if (fixFloor n d).2 && (fixCeil n d).2 then mkI (fixFloor n d).1 (fixCeil n d).1 else whole := by
  unfold quotI
  rw [if_neg h]; rfl
theorem quotI_edge {n d : Int} (h : d < 0) (h1 : n = -9223372036854775808 ∨ d = -9223372036854775808) : quotI n d = whole := by
  unfold quotI
  rw [if_pos h, if_pos h1]

end Go.Proofs.Ytcnapkdccjibpaa.Eng
