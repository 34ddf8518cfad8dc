/- What functions of the program compute, and that the program computes it: part 31. -/
import Derived.Test.YtcnapkdccjibpaaGreatTab
import Derived.Test.YtcnapkdccjibpaaGreatEng16
import Derived.Laws.BitsLemmas
import Derived.Laws.Bits64
import Derived.Laws.Bits64b
import Derived.Lib.Mul64
import Derived.Lib.BitFns
import Derived.Laws.Externs
import Derived.Test.YtcnapkdccjibpaaGreatL20
namespace Go.Proofs.YtcnapkdccjibpaaGreat.Eng
open Go Go.RowKit
set_option linter.unusedVariables false
set_option linter.unusedSimpArgs false
set_option maxRecDepth 100000
set_option maxHeartbeats 1000000
-- def FnDirections
def M_lawFnDirections : MT := fun m args h => match args, h with
  | [.c (.p (.sl a n c)), .c (.p (.sl a' n' c'))], [] => some (Told m a n ∧ Told m a' n', .v (.c (.p (.bool true))), [])
  | _, _ => none

end Go.Proofs.YtcnapkdccjibpaaGreat.Eng
