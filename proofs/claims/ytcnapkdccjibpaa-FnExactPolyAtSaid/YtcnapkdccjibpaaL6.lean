/- What functions of the program compute, and that the program computes it: part 6. -/
import Derived.Test.YtcnapkdccjibpaaTab
import Derived.Test.YtcnapkdccjibpaaEng16
import Derived.Laws.BitsLemmas
import Derived.Laws.Bits64
import Derived.Laws.Bits64b
import Derived.Lib.Mul64
import Derived.Lib.BitFns
import Derived.Laws.Externs
namespace Go.Proofs.Ytcnapkdccjibpaa.Eng
open Go Go.RowKit
set_option linter.unusedVariables false
set_option linter.unusedSimpArgs false
set_option maxRecDepth 100000
set_option maxHeartbeats 1000000
-- quo
theorem bin_quo_c {T : Tab} {t : Nat} {k : IntKind} {a b : Int} (hb : decide (b = 0) = false) : binO T .quo t (some (.c (.p (.int k a)))) (some (.c (.p (.int k b)))) = some (sp (.int k (k.wrap (a.tdiv b)))) := bin_quo (by simpa using hb)
theorem bin_rem_c {T : Tab} {t : Nat} {k : IntKind} {a b : Int} (hb : decide (b = 0) = false) : binO T .rem t (some (.c (.p (.int k a)))) (some (.c (.p (.int k b)))) = some (sp (.int k (a.tmod b))) := bin_rem (by simpa using hb)
theorem tdiv_p {a b : Int} (ha : 0 ≤ a) : a.tdiv b = a / b := Int.tdiv_eq_ediv_of_nonneg ha
theorem tdiv_n {a b : Int} (ha : a < 0) : a.tdiv b = -(-a / b) := by
  have h : a = -(-a) := by omega
  rw [h, Int.neg_tdiv, Int.tdiv_eq_ediv_of_nonneg (by omega)]
  simp
theorem tmod_p {a b : Int} (ha : 0 ≤ a) : a.tmod b = a % b := Int.tmod_eq_emod_of_nonneg ha
theorem tmod_n {a b : Int} (ha : a < 0) : a.tmod b = -(-a % b) := by
  have h : a = -(-a) := by omega
  rw [h, Int.neg_tmod, Int.tmod_eq_emod_of_nonneg (by omega)]
  simp

end Go.Proofs.Ytcnapkdccjibpaa.Eng
