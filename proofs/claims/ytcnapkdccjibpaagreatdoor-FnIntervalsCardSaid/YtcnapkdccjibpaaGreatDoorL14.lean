/- What functions of the program compute, and that the program computes it: part 14. -/
import Derived.Test.YtcnapkdccjibpaaGreatDoorTab
import Derived.Test.YtcnapkdccjibpaaGreatDoorEng16
import Derived.Laws.BitsLemmas
import Derived.Laws.Bits64
import Derived.Laws.Bits64b
import Derived.Lib.Mul64
import Derived.Lib.BitFns
import Derived.Laws.Externs
import Derived.Test.YtcnapkdccjibpaaGreatDoorL1
import Derived.Test.YtcnapkdccjibpaaGreatDoorL2
import Derived.Test.YtcnapkdccjibpaaGreatDoorL5
import Derived.Test.YtcnapkdccjibpaaGreatDoorL10
namespace Go.Proofs.YtcnapkdccjibpaaGreatDoor.Eng
open Go Go.RowKit
set_option linter.unusedVariables false
set_option linter.unusedSimpArgs false
set_option maxRecDepth 100000
set_option maxHeartbeats 1000000
-- series
def seriesL : Nat → Iv → Int → Iv → Iv
  | 0, _, _, s => s
  | k + 1, y, c, s => seriesL k y c (subI (intI 1) (mulI (divI y (intI ((2 * (k + 1 : Nat) + c) * (2 * (k + 1 : Nat) + c + 1)))) s))
def F_seriesP : FT
  | [.agg [.int .i64 y1, .int .i64 y2], .c (.p (.int .i64 c))], _ => some (c = 1 ∨ c = 2, .v (.agg [.int .i64 ((seriesL 8 (Iv.mk y1 y2) (c - 2) (intI 1))).lo, .int .i64 ((seriesL 8 (Iv.mk y1 y2) (c - 2) (intI 1))).hi]), [])
  | _, _ => none
theorem F_seriesP_eq {y1 : Int} {y2 : Int} {c : Int} {g : List PC} : F_seriesP [.agg [.int .i64 y1, .int .i64 y2], .c (.p (.int .i64 c))] g = some (c = 1 ∨ c = 2, .v (.agg [.int .i64 ((seriesL 8 (Iv.mk y1 y2) (c - 2) (intI 1))).lo, .int .i64 ((seriesL 8 (Iv.mk y1 y2) (c - 2) (intI 1))).hi]), []) := rfl
def F_seriesQ : FT
  | [.agg [.int .i64 y1, .int .i64 y2], .c (.p (.int .i64 c))], _ => some (c = 0 ∨ c = -1, .v (.agg [.int .i64 ((seriesL 8 (Iv.mk y1 y2) c (intI 1))).lo, .int .i64 ((seriesL 8 (Iv.mk y1 y2) c (intI 1))).hi]), [])
  | _, _ => none
theorem F_seriesQ_eq {y1 : Int} {y2 : Int} {c : Int} {g : List PC} : F_seriesQ [.agg [.int .i64 y1, .int .i64 y2], .c (.p (.int .i64 c))] g = some (c = 0 ∨ c = -1, .v (.agg [.int .i64 ((seriesL 8 (Iv.mk y1 y2) c (intI 1))).lo, .int .i64 ((seriesL 8 (Iv.mk y1 y2) c (intI 1))).hi]), []) := rfl

-- sinS
def sinS (x : Iv) : Iv := if insideI x ⟨-4294967296, 4294967296⟩ then addI (mulI x (seriesL 8 (sqrI x) 0 (intI 1))) ⟨-1, 1⟩ else whole
def cosS (x : Iv) : Iv := if insideI x ⟨-4294967296, 4294967296⟩ then addI (seriesL 8 (sqrI x) (-1) (intI 1)) ⟨-1, 1⟩ else whole
def F_sinS : FT
  | [.agg [.int .i64 x1, .int .i64 x2]], _ => some (True, .v (.agg [.int .i64 ((sinS (Iv.mk x1 x2))).lo, .int .i64 ((sinS (Iv.mk x1 x2))).hi]), [])
  | _, _ => none
theorem F_sinS_eq {x1 : Int} {x2 : Int} {g : List PC} : F_sinS [.agg [.int .i64 x1, .int .i64 x2]] g = some (True, .v (.agg [.int .i64 ((sinS (Iv.mk x1 x2))).lo, .int .i64 ((sinS (Iv.mk x1 x2))).hi]), []) := rfl
def F_cosS : FT
  | [.agg [.int .i64 x1, .int .i64 x2]], _ => some (True, .v (.agg [.int .i64 ((cosS (Iv.mk x1 x2))).lo, .int .i64 ((cosS (Iv.mk x1 x2))).hi]), [])
  | _, _ => none
theorem F_cosS_eq {x1 : Int} {x2 : Int} {g : List PC} : F_cosS [.agg [.int .i64 x1, .int .i64 x2]] g = some (True, .v (.agg [.int .i64 ((cosS (Iv.mk x1 x2))).lo, .int .i64 ((cosS (Iv.mk x1 x2))).hi]), []) := rfl

end Go.Proofs.YtcnapkdccjibpaaGreatDoor.Eng
