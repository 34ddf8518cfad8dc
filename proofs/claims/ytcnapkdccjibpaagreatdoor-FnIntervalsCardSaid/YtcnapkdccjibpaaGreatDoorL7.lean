/- What functions of the program compute, and that the program computes it: part 7. -/
import Derived.Test.YtcnapkdccjibpaaGreatDoorTab
import Derived.Test.YtcnapkdccjibpaaGreatDoorEng16
import Derived.Laws.BitsLemmas
import Derived.Laws.Bits64
import Derived.Laws.Bits64b
import Derived.Lib.Mul64
import Derived.Lib.BitFns
import Derived.Laws.Externs
import Derived.Test.YtcnapkdccjibpaaGreatDoorL1
import Derived.Test.YtcnapkdccjibpaaGreatDoorL2
import Derived.Test.YtcnapkdccjibpaaGreatDoorL4
namespace Go.Proofs.YtcnapkdccjibpaaGreatDoor.Eng
open Go Go.RowKit
set_option linter.unusedVariables false
set_option linter.unusedSimpArgs false
set_option maxRecDepth 100000
set_option maxHeartbeats 1000000
-- quo
theorem bin_quo_c {T : Tab} {t : Nat} {k : IntKind} {a b : Int} (hb : decide (b = 0) = false) : binO T .quo t (some (.c (.p (.int k a)))) (some (.c (.p (.int k b)))) = some (sp (.int k (k.wrap (a.tdiv b)))) := bin_quo (by simpa using hb)
theorem bin_rem_c {T : Tab} {t : Nat} {k : IntKind} {a b : Int} (hb : decide (b = 0) = false) : binO T .rem t (some (.c (.p (.int k a)))) (some (.c (.p (.int k b)))) = some (sp (.int k (a.tmod b))) := bin_rem (by simpa using hb)
theorem tdiv_p {a b : Int} (ha : 0 ≤ a) : a.tdiv b = a / b := Int.tdiv_eq_ediv_of_nonneg ha
theorem tdiv_n {a b : Int} (ha : a < 0) : a.tdiv b = -(-a / b) := by
  have h : a = -(-a) := by omega
  rw [h, Int.neg_tdiv, Int.tdiv_eq_ediv_of_nonneg (by omega)]
  simp
theorem tmod_p {a b : Int} (ha : 0 ≤ a) : a.tmod b = a % b := Int.tmod_eq_emod_of_nonneg ha
theorem tmod_n {a b : Int} (ha : a < 0) : a.tmod b = -(-a % b) := by
  have h : a = -(-a) := by omega
  rw [h, Int.neg_tmod, Int.tmod_eq_emod_of_nonneg (by omega)]
  simp

-- quarter
def angleOk (n : Int) : Bool := within n (-1099511627776) 1099511627776
def F_angleOk : FT
  | [.c (.p (.int .i64 n))], _ => some (True, .v (.c (.p (.bool (angleOk n)))), [])
  | _, _ => none
theorem F_angleOk_eq {n : Int} {g : List PC} : F_angleOk [.c (.p (.int .i64 n))] g = some (True, .v (.c (.p (.bool (angleOk n)))), []) := rfl
theorem angleOk_iff {n : Int} : angleOk n = true ↔ -1099511627776 ≤ n ∧ n ≤ 1099511627776 := within_iff
def quarter (n : Int) : Int := if angleOk n then (n + 3373259426) / 6746518852 else 0
def F_quarter : FT
  | [.c (.p (.int .i64 n))], _ => some (True, .v (.c (.p (.int .i64 (quarter n)))), [])
  | _, _ => none
theorem F_quarter_eq {n : Int} {g : List PC} : F_quarter [.c (.p (.int .i64 n))] g = some (True, .v (.c (.p (.int .i64 (quarter n)))), []) := rfl
def F_floorQ : FT
  | [.c (.p (.int .i64 a)), .c (.p (.int .i64 b))], _ => some ((-9223372036854775808 < a ∧ a ≤ 9223372036854775807) ∧ b = 6746518852, .v (.c (.p (.int .i64 (a / 6746518852)))), [])
  | _, _ => none
theorem F_floorQ_eq {a : Int} {b : Int} {g : List PC} : F_floorQ [.c (.p (.int .i64 a)), .c (.p (.int .i64 b))] g = some ((-9223372036854775808 < a ∧ a ≤ 9223372036854775807) ∧ b = 6746518852, .v (.c (.p (.int .i64 (a / 6746518852)))), []) := rfl

-- turn
def turnLo (k : Int) : Int := k * 7244019458077122842 / 1073741824
def turnP (k : Int) : Iv := if k = 0 then ⟨0, 0⟩ else ⟨turnLo k, turnLo k + 1⟩
def turnA (k : Int) : Iv := if k < 0 then ⟨-(turnLo (-k) + 1), -turnLo (-k)⟩ else turnP k
def turnI (k : Int) : Iv := if within k (-4096) 4096 then turnA k else whole
def F_turnP : FT
  | [.c (.p (.int .i64 k))], _ => some (0 ≤ k ∧ k ≤ 4096, .v (.agg [.int .i64 ((turnP k)).lo, .int .i64 ((turnP k)).hi]), [])
  | _, _ => none
theorem F_turnP_eq {k : Int} {g : List PC} : F_turnP [.c (.p (.int .i64 k))] g = some (0 ≤ k ∧ k ≤ 4096, .v (.agg [.int .i64 ((turnP k)).lo, .int .i64 ((turnP k)).hi]), []) := rfl
def F_turnA : FT
  | [.c (.p (.int .i64 k))], _ => some (-4096 ≤ k ∧ k ≤ 4096, .v (.agg [.int .i64 ((turnA k)).lo, .int .i64 ((turnA k)).hi]), [])
  | _, _ => none
theorem F_turnA_eq {k : Int} {g : List PC} : F_turnA [.c (.p (.int .i64 k))] g = some (-4096 ≤ k ∧ k ≤ 4096, .v (.agg [.int .i64 ((turnA k)).lo, .int .i64 ((turnA k)).hi]), []) := rfl
def F_turnI : FT
  | [.c (.p (.int .i64 k))], _ => some (True, .v (.agg [.int .i64 ((turnI k)).lo, .int .i64 ((turnI k)).hi]), [])
  | _, _ => none
theorem F_turnI_eq {k : Int} {g : List PC} : F_turnI [.c (.p (.int .i64 k))] g = some (True, .v (.agg [.int .i64 ((turnI k)).lo, .int .i64 ((turnI k)).hi]), []) := rfl
def F_piI : FT
  | [], _ => some (True, .v (.agg [.int .i64 ((turnI 2)).lo, .int .i64 ((turnI 2)).hi]), [])
  | _, _ => none
theorem F_piI_eq {g : List PC} : F_piI [] g = some (True, .v (.agg [.int .i64 ((turnI 2)).lo, .int .i64 ((turnI 2)).hi]), []) := rfl
theorem turn_fl {k : Int} (h : 0 ≤ k ∧ k ≤ 4096) : mulFloor k 7244019458077122842 30 = (turnLo k, true) := by
  unfold mulFloor wideInt turnLo
  rw [if_pos (by rw [within_iff]; simp only [Int.reduceToNat, Int.reducePow]; omega)]; rfl
theorem turn_in {k : Int} (h : 0 ≤ k ∧ k ≤ 4096) : 0 ≤ turnLo k ∧ turnLo k ≤ 27633743508824 := by unfold turnLo; omega

-- ln
def lnP (k : Int) : Iv := ⟨k * 1598288580650331957 / 536870912, -((-k) * 1598288580650331958 / 536870912)⟩
def lnI (k : Int) : Iv := if within k (-64) 64 then (if k < 0 then ⟨-(lnP (-k)).hi, -(lnP (-k)).lo⟩ else lnP k) else whole
def F_lnP : FT
  | [.c (.p (.int .i64 k))], _ => some (0 ≤ k ∧ k ≤ 64, .v (.agg [.int .i64 ((lnP k)).lo, .int .i64 ((lnP k)).hi]), [])
  | _, _ => none
theorem F_lnP_eq {k : Int} {g : List PC} : F_lnP [.c (.p (.int .i64 k))] g = some (0 ≤ k ∧ k ≤ 64, .v (.agg [.int .i64 ((lnP k)).lo, .int .i64 ((lnP k)).hi]), []) := rfl
def F_lnI : FT
  | [.c (.p (.int .i64 k))], _ => some (True, .v (.agg [.int .i64 ((lnI k)).lo, .int .i64 ((lnI k)).hi]), [])
  | _, _ => none
theorem F_lnI_eq {k : Int} {g : List PC} : F_lnI [.c (.p (.int .i64 k))] g = some (True, .v (.agg [.int .i64 ((lnI k)).lo, .int .i64 ((lnI k)).hi]), []) := rfl
theorem ln_fl {k : Int} (h : 0 ≤ k ∧ k ≤ 64) : mulFloor k 1598288580650331957 29 = (k * 1598288580650331957 / 536870912, true) ∧ mulFloor (-k) 1598288580650331958 29 = ((-k) * 1598288580650331958 / 536870912, true) := by
  unfold mulFloor wideInt
  rw [if_pos (by rw [within_iff]; simp only [Int.reduceToNat, Int.reducePow]; omega), if_pos (by rw [within_iff]; simp only [Int.reduceToNat, Int.reducePow]; omega)]; exact ⟨rfl, rfl⟩
theorem ln_in {k : Int} (h : 0 ≤ k ∧ k ≤ 64) : 0 ≤ (lnP k).lo ∧ (lnP k).lo ≤ (lnP k).hi ∧ (lnP k).hi ≤ 190530846400 := by unfold lnP; simp only; omega
theorem ln_ok {k : Int} (h : 0 ≤ k ∧ k ≤ 64) : okI (lnP k) = true := by
  have := ln_in h
  rw [okI_iff]; omega

end Go.Proofs.YtcnapkdccjibpaaGreatDoor.Eng
