/- What functions of the program compute, and that the program computes it: part 11. -/
import Derived.Test.YtcnapkdccjibpaaGreatDoorTab
import Derived.Test.YtcnapkdccjibpaaGreatDoorEng16
import Derived.Laws.BitsLemmas
import Derived.Laws.Bits64
import Derived.Laws.Bits64b
import Derived.Lib.Mul64
import Derived.Lib.BitFns
import Derived.Laws.Externs
import Derived.Test.YtcnapkdccjibpaaGreatDoorL1
import Derived.Test.YtcnapkdccjibpaaGreatDoorL2
import Derived.Test.YtcnapkdccjibpaaGreatDoorL10
namespace Go.Proofs.YtcnapkdccjibpaaGreatDoor.Eng
open Go Go.RowKit
set_option linter.unusedVariables false
set_option linter.unusedSimpArgs false
set_option maxRecDepth 100000
set_option maxHeartbeats 1000000
-- quotient
def quotP (n d : Int) : Iv := if (fixFloor n d).2 && (fixCeil n d).2 then mkI (fixFloor n d).1 (fixCeil n d).1 else whole
def quotI (n d : Int) : Iv := if d < 0 then (if n = -9223372036854775808 ∨ d = -9223372036854775808 then whole else quotP (-n) (-d)) else quotP n d
def F_quotI : FT
  | [.c (.p (.int .i64 n)), .c (.p (.int .i64 d))], _ => some (inR n ∧ inR d, .v (.agg [.int .i64 ((quotI n d)).lo, .int .i64 ((quotI n d)).hi]), [])
  | _, _ => none
theorem F_quotI_eq {n : Int} {d : Int} {g : List PC} : F_quotI [.c (.p (.int .i64 n)), .c (.p (.int .i64 d))] g = some (inR n ∧ inR d, .v (.agg [.int .i64 ((quotI n d)).lo, .int .i64 ((quotI n d)).hi]), []) := rfl

theorem quotI_neg {n d : Int} (h : d < 0) (h1 : n ≠ -9223372036854775808) (h2 : d ≠ -9223372036854775808) : quotI n d = if (fixFloor (-n) (-d)).2 && (fixCeil (-n) (-d)).2 then mkI (fixFloor (-n) (-d)).1 (fixCeil (-n) (-d)).1 else whole := by
  unfold quotI
  rw [if_pos h, if_neg (by omega)]; rfl
theorem quotI_pos {n d : Int} (h : ¬ d < 0) : quotI n d = if (fixFloor n d).2 && (fixCeil n d).2 then mkI (fixFloor n d).1 (fixCeil n d).1 else whole := by
  unfold quotI
  rw [if_neg h]; rfl
theorem quotI_edge {n d : Int} (h : d < 0) (h1 : n = -9223372036854775808 ∨ d = -9223372036854775808) : quotI n d = whole := by
  unfold quotI
  rw [if_pos h, if_pos h1]

end Go.Proofs.YtcnapkdccjibpaaGreatDoor.Eng
