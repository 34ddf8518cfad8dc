/- What functions of the program compute, and that the program computes it: part 17. -/
import Derived.Test.YtcnapkdccjibpaaTab
import Derived.Test.YtcnapkdccjibpaaEng16
import Derived.Laws.BitsLemmas
import Derived.Laws.Bits64
import Derived.Laws.Bits64b
import Derived.Lib.Mul64
import Derived.Lib.BitFns
import Derived.Laws.Externs
import Derived.Test.YtcnapkdccjibpaaL14
namespace Go.Proofs.Ytcnapkdccjibpaa.Eng
open Go Go.RowKit
set_option linter.unusedVariables false
set_option linter.unusedSimpArgs false
set_option maxRecDepth 100000
set_option maxHeartbeats 1000000
-- def FnExactPolyAt
def M_lawPolyAt : MT := fun m args h => match args, h with
  | [.c (.p (.sl a n c)), .agg [.int .i64 p, .int .i64 q]], [] => some (ToldI m a n ∧ (n : Int) ≤ 9223372036854775807, .v (.c (.p (.bool true))), [])
  | _, _ => none
theorem lins_polyat : linsB [[],[0],[],[2,1],[1,3,3],[],[5,4,4,0,1,2,3,4,5]] = [[0,1,2,3,4,5,6],[0,1,2,3,5,4,6],[0,1,2,5,3,4,6],[0,1,5,2,3,4,6],[0,2,1,3,4,5,6],[0,2,1,3,5,4,6],[0,2,1,5,3,4,6],[0,2,5,1,3,4,6],[0,5,1,2,3,4,6],[0,5,2,1,3,4,6],[2,0,1,3,4,5,6],[2,0,1,3,5,4,6],[2,0,1,5,3,4,6],[2,0,5,1,3,4,6],[2,5,0,1,3,4,6],[5,0,1,2,3,4,6],[5,0,2,1,3,4,6],[5,2,0,1,3,4,6]] := by decide

end Go.Proofs.Ytcnapkdccjibpaa.Eng
