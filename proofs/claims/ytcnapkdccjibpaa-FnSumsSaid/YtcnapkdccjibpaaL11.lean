/- What functions of the program compute, and that the program computes it: part 11. -/
import Derived.Test.YtcnapkdccjibpaaTab
import Derived.Test.YtcnapkdccjibpaaEng16
import Derived.Laws.BitsLemmas
import Derived.Laws.Bits64
import Derived.Laws.Bits64b
import Derived.Lib.Mul64
import Derived.Lib.BitFns
import Derived.Laws.Externs
import Derived.Test.YtcnapkdccjibpaaL1
import Derived.Test.YtcnapkdccjibpaaL2
import Derived.Test.YtcnapkdccjibpaaL3
import Derived.Test.YtcnapkdccjibpaaL4
import Derived.Test.YtcnapkdccjibpaaL5
import Derived.Test.YtcnapkdccjibpaaL7
import Derived.Test.YtcnapkdccjibpaaL10
namespace Go.Proofs.Ytcnapkdccjibpaa.Eng
open Go Go.RowKit
set_option linter.unusedVariables false
set_option linter.unusedSimpArgs false
set_option maxRecDepth 100000
set_option maxHeartbeats 1000000
-- units
def unitLo (n : Int) : Int := if 0 < n then n * 966367641600000000 / 7244019458077122843 else n * 966367641600000000 / 7244019458077122842
def unitsOf (a : Iv) : Int × Int × Bool := if okI a then (if unitLo a.lo < -36000000000 ∨ 36000000000 < -unitLo (-a.hi) then (0, 0, false) else (unitLo a.lo, -unitLo (-a.hi), true)) else (0, 0, false)
def F_unitLo : FT
  | [.c (.p (.int .i64 n))], _ => some (-1152921504606846976 < n ∧ n < 1152921504606846976, .v (.c (.p (.int .i64 (unitLo n)))), [])
  | _, _ => none
theorem F_unitLo_eq {n : Int} {g : List PC} : F_unitLo [.c (.p (.int .i64 n))] g = some (-1152921504606846976 < n ∧ n < 1152921504606846976, .v (.c (.p (.int .i64 (unitLo n)))), []) := rfl
def F_unitsOf : FT
  | [.agg [.int .i64 a1, .int .i64 a2]], _ => some (True, .tup [.c (.p (.int .i64 ((unitsOf (Iv.mk a1 a2)).1))), .c (.p (.int .i64 ((unitsOf (Iv.mk a1 a2)).2.1))), .c (.p (.bool ((unitsOf (Iv.mk a1 a2)).2.2)))], [])
  | _, _ => none
theorem F_unitsOf_eq {a1 : Int} {a2 : Int} {g : List PC} : F_unitsOf [.agg [.int .i64 a1, .int .i64 a2]] g = some (True, .tup [.c (.p (.int .i64 ((unitsOf (Iv.mk a1 a2)).1))), .c (.p (.int .i64 ((unitsOf (Iv.mk a1 a2)).2.1))), .c (.p (.bool ((unitsOf (Iv.mk a1 a2)).2.2)))], []) := rfl
theorem wideInt_ok {w : Int} (h1 : -9223372036854775808 ≤ w) (h2 : w ≤ 9223372036854775807) : wideInt w = (w, true) := by
  unfold wideInt
  rw [if_pos (within_iff.2 ⟨h1, h2⟩)]
theorem md_P {n : Int} (h : -1152921504606846976 < n ∧ n < 1152921504606846976) : mulDiv n 966367641600000000 7244019458077122842 = (n * 966367641600000000 / 7244019458077122842, true) := by
  unfold mulDiv wideInt
  rw [if_pos (by omega), if_pos (by rw [within_iff]; omega)]
theorem md_P1 {n : Int} (h : -1152921504606846976 < n ∧ n < 1152921504606846976) : mulDiv n 966367641600000000 7244019458077122843 = (n * 966367641600000000 / 7244019458077122843, true) := by
  unfold mulDiv wideInt
  rw [if_pos (by omega), if_pos (by rw [within_iff]; omega)]
theorem mulDivUp_eq {a b d : Int} (hd : 0 < d) (h1 : -9223372036854775808 ≤ a * b / d) (h2 : a * b / d < 9223372036854775807) : mulDivUp a b d = (if a * b % d = 0 then a * b / d else a * b / d + 1, true) := by
  unfold mulDivUp
  rw [if_pos hd, wideInt_ok h1 (by omega)]
  simp only [if_true]
  by_cases he : a * b % d = 0
  · rw [if_pos he, if_pos he]
  · rw [if_neg he, if_neg he, if_neg (by omega)]
theorem ceil_div {x d : Int} (hd : 0 < d) : (if x % d = 0 then x / d else x / d + 1) = -(-x / d) := by
  have h := @neg_div x d hd
  have r1 := Int.emod_nonneg (-x) (show d ≠ 0 by omega)
  have r2 := Int.emod_lt_of_pos (-x) hd
  by_cases h0 : -x % d = 0
  · rw [if_pos (h.1 h0).2]; exact (h.1 h0).1
  · have h2 := h.2 h0
    rw [if_neg (by omega), h2.1]; omega
theorem un1 {n : Int} (h : -1152921504606846976 < n ∧ n < 1152921504606846976) (h0 : 0 < n) : mulDiv n 966367641600000000 7244019458077122843 = (unitLo n, true) := by
  rw [md_P1 h, unitLo, if_pos h0]
theorem un2 {n : Int} (h : -1152921504606846976 < n ∧ n < 1152921504606846976) (h0 : ¬ 0 < n) : mulDiv n 966367641600000000 7244019458077122842 = (unitLo n, true) := by
  rw [md_P h, unitLo, if_neg h0]
theorem un3 {n : Int} (h : -1152921504606846976 < n ∧ n < 1152921504606846976) (h0 : n < 0) : mulDivUp n 966367641600000000 7244019458077122843 = (-unitLo (-n), true) := by
  rw [mulDivUp_eq (by omega) (by omega) (by omega), ceil_div (by omega), unitLo, if_pos (by omega), Int.neg_mul]
theorem un4 {n : Int} (h : -1152921504606846976 < n ∧ n < 1152921504606846976) (h0 : ¬ n < 0) : mulDivUp n 966367641600000000 7244019458077122842 = (-unitLo (-n), true) := by
  rw [mulDivUp_eq (by omega) (by omega) (by omega), ceil_div (by omega), unitLo, if_neg (by omega), Int.neg_mul]
theorem unitLo_in {n : Int} (h : -1152921504606846976 < n ∧ n < 1152921504606846976) : -1152921504606846976 < unitLo n ∧ unitLo n < 1152921504606846976 := by
  unfold unitLo
  split <;> omega

-- radians
def radP (u : Int) : Iv := if u = 0 then ⟨0, 0⟩ else ⟨u * 7244019458077122842 / 966367641600000000, u * 7244019458077122843 / 966367641600000000 + 1⟩
def radI (u : Int) : Iv := if within u (-36000000000) 36000000000 then (if u < 0 then ⟨-(radP (-u)).hi, -(radP (-u)).lo⟩ else radP u) else whole
def F_radP : FT
  | [.c (.p (.int .i64 u))], _ => some (0 ≤ u ∧ u ≤ 36000000000, .v (.agg [.int .i64 ((radP u)).lo, .int .i64 ((radP u)).hi]), [])
  | _, _ => none
theorem F_radP_eq {u : Int} {g : List PC} : F_radP [.c (.p (.int .i64 u))] g = some (0 ≤ u ∧ u ≤ 36000000000, .v (.agg [.int .i64 ((radP u)).lo, .int .i64 ((radP u)).hi]), []) := rfl
def F_radI : FT
  | [.c (.p (.int .i64 u))], _ => some (True, .v (.agg [.int .i64 ((radI u)).lo, .int .i64 ((radI u)).hi]), [])
  | _, _ => none
theorem F_radI_eq {u : Int} {g : List PC} : F_radI [.c (.p (.int .i64 u))] g = some (True, .v (.agg [.int .i64 ((radI u)).lo, .int .i64 ((radI u)).hi]), []) := rfl
theorem rad_fl {u : Int} (h : 0 ≤ u ∧ u ≤ 36000000000) : mulDiv u 7244019458077122842 966367641600000000 = (u * 7244019458077122842 / 966367641600000000, true) ∧ mulDiv u 7244019458077122843 966367641600000000 = (u * 7244019458077122843 / 966367641600000000, true) := by
  unfold mulDiv
  rw [if_pos (by omega), wideInt_ok (by omega) (by omega), wideInt_ok (by omega) (by omega)]; exact ⟨rfl, rfl⟩
theorem rad_in {u : Int} (h : 0 ≤ u ∧ u ≤ 36000000000) : 0 ≤ (radP u).lo ∧ (radP u).lo ≤ (radP u).hi ∧ (radP u).hi ≤ 269861063104 := by
  unfold radP
  split <;> simp only <;> omega
theorem radP_0 {u : Int} (h : u = 0) : radP u = ⟨0, 0⟩ := by unfold radP; rw [if_pos h]
theorem radP_pos {u : Int} (h : ¬ u = 0) (hb : 0 ≤ u ∧ u ≤ 36000000000) : radP u = ⟨u * 7244019458077122842 / 966367641600000000, u * 7244019458077122843 / 966367641600000000 + 1⟩ ∧ IntKind.i64.wrap (u * 7244019458077122843 / 966367641600000000 + 1) = u * 7244019458077122843 / 966367641600000000 + 1 := by
  refine ⟨by unfold radP; rw [if_neg h], wrap_om (by omega) (by omega)⟩
theorem rad_ok {u : Int} (h : 0 ≤ u ∧ u ≤ 36000000000) : okI (radP u) = true := by
  have := rad_in h
  rw [okI_iff]; omega

-- degrees
def degI (a : Iv) : Iv := divI (mulI a (intI 180)) (turnI 2)
def F_degI : FT
  | [.agg [.int .i64 a1, .int .i64 a2]], _ => some (True, .v (.agg [.int .i64 ((degI (Iv.mk a1 a2))).lo, .int .i64 ((degI (Iv.mk a1 a2))).hi]), [])
  | _, _ => none
theorem F_degI_eq {a1 : Int} {a2 : Int} {g : List PC} : F_degI [.agg [.int .i64 a1, .int .i64 a2]] g = some (True, .v (.agg [.int .i64 ((degI (Iv.mk a1 a2))).lo, .int .i64 ((degI (Iv.mk a1 a2))).hi]), []) := rfl

end Go.Proofs.Ytcnapkdccjibpaa.Eng
