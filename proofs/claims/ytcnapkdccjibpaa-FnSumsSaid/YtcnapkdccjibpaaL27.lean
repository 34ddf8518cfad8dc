/- What functions of the program compute, and that the program computes it: part 27. -/
import Derived.Test.YtcnapkdccjibpaaTab
import Derived.Test.YtcnapkdccjibpaaEng16
import Derived.Laws.BitsLemmas
import Derived.Laws.Bits64
import Derived.Laws.Bits64b
import Derived.Lib.Mul64
import Derived.Lib.BitFns
import Derived.Laws.Externs
import Derived.Test.YtcnapkdccjibpaaL20
import Derived.Test.YtcnapkdccjibpaaL23
import Derived.Test.YtcnapkdccjibpaaL25
namespace Go.Proofs.Ytcnapkdccjibpaa.Eng
open Go Go.RowKit
set_option linter.unusedVariables false
set_option linter.unusedSimpArgs false
set_option maxRecDepth 100000
set_option maxHeartbeats 1000000
-- def FnSums
def M_lawFnSums : MT := fun m args h => match args, h with
  | [.c (.p (.sl a n c)), .c (.p (.sl a' n' c'))], [] => some (Told m a n ∧ Told m a' n', .v (.c (.p (.bool true))), [])
  | _, _ => none
theorem angle_ok {m : Addr → Option PC} {a : Option Addr} {n : Nat} (h : Told m a n) (hn : n ≤ 1048576) : -160000000000 ≤ angM m a n ∧ angM m a n ≤ 190000000000 := by
  have h1 := angN_in (sr0_ok (b := 0) h hn (by omega))
  have h2 := angW_in (m := m) (a := a) (n := n)
  have h3 := angM_in (m := m) (a := a) (n := n)
  omega

end Go.Proofs.Ytcnapkdccjibpaa.Eng
