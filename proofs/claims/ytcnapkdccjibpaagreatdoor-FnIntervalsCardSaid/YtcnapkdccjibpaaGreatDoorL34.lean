/- What functions of the program compute, and that the program computes it: part 34. -/
import Derived.Test.YtcnapkdccjibpaaGreatDoorTab
import Derived.Test.YtcnapkdccjibpaaGreatDoorEng16
import Derived.Laws.BitsLemmas
import Derived.Laws.Bits64
import Derived.Laws.Bits64b
import Derived.Lib.Mul64
import Derived.Lib.BitFns
import Derived.Laws.Externs
import Derived.Test.YtcnapkdccjibpaaGreatDoorL1
import Derived.Test.YtcnapkdccjibpaaGreatDoorL2
import Derived.Test.YtcnapkdccjibpaaGreatDoorL19
import Derived.Test.YtcnapkdccjibpaaGreatDoorL29
import Derived.Test.YtcnapkdccjibpaaGreatDoorL33
namespace Go.Proofs.YtcnapkdccjibpaaGreatDoor.Eng
open Go Go.RowKit
set_option linter.unusedVariables false
set_option linter.unusedSimpArgs false
set_option maxRecDepth 100000
set_option maxHeartbeats 1000000
-- def FnIntervals
def M_lawFnIntervals : MT := fun m args h => match args, h with
  | [.c (.p (.sl a n c))], [] => some (Told m a n, .v (.c (.p (.bool true))), [])
  | _, _ => none
theorem ff_true {b : Bool} (h : b = true) (h' : b = false) : False := by rw [h] at h'; cases h'
theorem iv_less1 {a b : Iv} (ha : okI a = true) (hb : okI b = true) : (decide (lessI a b = 1) == decide (a.hi < b.lo)) = true := by
  rcases iv_less ha hb with ⟨h1, h2⟩ | ⟨h1, h2⟩ | ⟨h1, h2, _⟩ | ⟨h1, h2, _⟩ <;> rw [h2] <;> simp [h1]
theorem iv_less2 {a b : Iv} (ha : okI a = true) (hb : okI b = true) (h1 : decide (lessI a b = 0) = true) (h2 : decide (lessI b a = 0) = true) : decide (a.lo = a.hi) = true ∧ (decide (a.lo = b.lo) && decide (a.hi = b.hi)) = true := by
  rw [decide_eq_true_eq] at h1 h2
  rcases iv_less ha hb with ⟨k, e⟩ | ⟨k, e⟩ | ⟨k, e, e'⟩ | ⟨k, e, e', i1, i2, i3⟩
  · omega
  · omega
  · exact absurd h2 e'
  · exact ⟨decide_eq_true i1, by rw [decide_eq_true i2, decide_eq_true i3]; rfl⟩
theorem dec_self {x : Int} : decide (x = x) = true := by simp
theorem ivL_len (a : Iv) : (ivL a).length ≤ 1048576 := by
  cases h : okI a with
  | false => rw [ivL_w h]; decide
  | true =>
    rw [ivL_o h]
    have h1 := textD_len a.lo
    have h2 := textU_len a.hi
    simp only [List.length_append, List.length_cons, List.length_nil]
    omega

end Go.Proofs.YtcnapkdccjibpaaGreatDoor.Eng
