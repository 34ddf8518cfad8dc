/- What functions of the program compute, and that the program computes it: part 22. -/
import Derived.Test.YtcnapkdccjibpaaGreatTab
import Derived.Test.YtcnapkdccjibpaaGreatEng16
import Derived.Laws.BitsLemmas
import Derived.Laws.Bits64
import Derived.Laws.Bits64b
import Derived.Lib.Mul64
import Derived.Lib.BitFns
import Derived.Laws.Externs
import Derived.Test.YtcnapkdccjibpaaGreatL1
import Derived.Test.YtcnapkdccjibpaaGreatL2
import Derived.Test.YtcnapkdccjibpaaGreatL3
import Derived.Test.YtcnapkdccjibpaaGreatL8
import Derived.Test.YtcnapkdccjibpaaGreatL12
import Derived.Test.YtcnapkdccjibpaaGreatL19
namespace Go.Proofs.YtcnapkdccjibpaaGreat.Eng
open Go Go.RowKit
set_option linter.unusedVariables false
set_option linter.unusedSimpArgs false
set_option maxRecDepth 100000
set_option maxHeartbeats 1000000
-- directions
def dirA (y x : Int) : Iv := if openOk y = true ∧ openOk x = true ∧ ¬ (y = 0 ∧ x = 0) then (if absZ x < absZ y then subI (turnI (if y < 0 then -1 else 1)) (atanI (divI ⟨x, x⟩ ⟨y, y⟩)) else if 0 < x then atanI (divI ⟨y, y⟩ ⟨x, x⟩) else if y < 0 then addI (atanI (divI ⟨y, y⟩ ⟨x, x⟩)) (turnI (-2)) else addI (atanI (divI ⟨y, y⟩ ⟨x, x⟩)) (turnI 2)) else whole
def F_dirA : FT
  | [.c (.p (.int .i64 y)), .c (.p (.int .i64 x))], _ => some (True, .v (.agg [.int .i64 ((dirA y x)).lo, .int .i64 ((dirA y x)).hi]), [])
  | _, _ => none
theorem F_dirA_eq {y : Int} {x : Int} {g : List PC} : F_dirA [.c (.p (.int .i64 y)), .c (.p (.int .i64 x))] g = some (True, .v (.agg [.int .i64 ((dirA y x)).lo, .int .i64 ((dirA y x)).hi]), []) := rfl
theorem dirA_w {y x : Int} (h : ¬ (openOk y = true ∧ openOk x = true ∧ ¬ (y = 0 ∧ x = 0))) : dirA y x = whole := by
  unfold dirA
  rw [if_neg h]
theorem dirA_1 {y x : Int} (h : openOk y = true ∧ openOk x = true ∧ ¬ (y = 0 ∧ x = 0)) (ha : absZ x < absZ y) (hy : y < 0) : dirA y x = subI (turnI (-1)) (atanI (divI ⟨x, x⟩ ⟨y, y⟩)) := by
  unfold dirA
  rw [if_pos h, if_pos ha, if_pos hy]
theorem dirA_2 {y x : Int} (h : openOk y = true ∧ openOk x = true ∧ ¬ (y = 0 ∧ x = 0)) (ha : absZ x < absZ y) (hy : ¬ y < 0) : dirA y x = subI (turnI 1) (atanI (divI ⟨x, x⟩ ⟨y, y⟩)) := by
  unfold dirA
  rw [if_pos h, if_pos ha, if_neg hy]
theorem dirA_3 {y x : Int} (h : openOk y = true ∧ openOk x = true ∧ ¬ (y = 0 ∧ x = 0)) (ha : ¬ absZ x < absZ y) (hx : 0 < x) : dirA y x = atanI (divI ⟨y, y⟩ ⟨x, x⟩) := by
  unfold dirA
  rw [if_pos h, if_neg ha, if_pos hx]
theorem dirA_4 {y x : Int} (h : openOk y = true ∧ openOk x = true ∧ ¬ (y = 0 ∧ x = 0)) (ha : ¬ absZ x < absZ y) (hx : ¬ 0 < x) (hy : y < 0) : dirA y x = addI (atanI (divI ⟨y, y⟩ ⟨x, x⟩)) (turnI (-2)) := by
  unfold dirA
  rw [if_pos h, if_neg ha, if_neg hx, if_pos hy]
theorem dirA_5 {y x : Int} (h : openOk y = true ∧ openOk x = true ∧ ¬ (y = 0 ∧ x = 0)) (ha : ¬ absZ x < absZ y) (hx : ¬ 0 < x) (hy : ¬ y < 0) : dirA y x = addI (atanI (divI ⟨y, y⟩ ⟨x, x⟩)) (turnI 2) := by
  unfold dirA
  rw [if_pos h, if_neg ha, if_neg hx, if_neg hy]
theorem abs_lt_iff {y x : Int} : absZ x < absZ y ↔ x < absZ y ∧ -x < absZ y := by
  unfold absZ
  repeat' split
  all_goals omega
def dirI (y x : Iv) : Iv := if okI y = true ∧ okI x = true ∧ ¬ ((okI y = false ∨ within 0 y.lo y.hi = true) ∧ (okI x = false ∨ within 0 x.lo x.hi = true)) ∧ ¬ (x.lo < 0 ∧ y.lo < 0 ∧ 0 ≤ y.hi) then hullI (hullI (dirA y.lo x.lo) (dirA y.lo x.hi)) (hullI (dirA y.hi x.lo) (dirA y.hi x.hi)) else whole
def F_dirI : FT
  | [.agg [.int .i64 y1, .int .i64 y2], .agg [.int .i64 x1, .int .i64 x2]], _ => some (True, .v (.agg [.int .i64 ((dirI (Iv.mk y1 y2) (Iv.mk x1 x2))).lo, .int .i64 ((dirI (Iv.mk y1 y2) (Iv.mk x1 x2))).hi]), [])
  | _, _ => none
theorem F_dirI_eq {y1 : Int} {y2 : Int} {x1 : Int} {x2 : Int} {g : List PC} : F_dirI [.agg [.int .i64 y1, .int .i64 y2], .agg [.int .i64 x1, .int .i64 x2]] g = some (True, .v (.agg [.int .i64 ((dirI (Iv.mk y1 y2) (Iv.mk x1 x2))).lo, .int .i64 ((dirI (Iv.mk y1 y2) (Iv.mk x1 x2))).hi]), []) := rfl

end Go.Proofs.YtcnapkdccjibpaaGreat.Eng
