/- What functions of the program compute, and that the program computes it: part 19. -/
import Derived.Test.YtcnapkdccjibpaaGreatTab
import Derived.Test.YtcnapkdccjibpaaGreatEng16
import Derived.Laws.BitsLemmas
import Derived.Laws.Bits64
import Derived.Laws.Bits64b
import Derived.Lib.Mul64
import Derived.Lib.BitFns
import Derived.Laws.Externs
import Derived.Test.YtcnapkdccjibpaaGreatL1
import Derived.Test.YtcnapkdccjibpaaGreatL2
import Derived.Test.YtcnapkdccjibpaaGreatL3
import Derived.Test.YtcnapkdccjibpaaGreatL6
import Derived.Test.YtcnapkdccjibpaaGreatL7
import Derived.Test.YtcnapkdccjibpaaGreatL8
import Derived.Test.YtcnapkdccjibpaaGreatL12
import Derived.Test.YtcnapkdccjibpaaGreatL15
import Derived.Test.YtcnapkdccjibpaaGreatL18
namespace Go.Proofs.YtcnapkdccjibpaaGreat.Eng
open Go Go.RowKit
set_option linter.unusedVariables false
set_option linter.unusedSimpArgs false
set_option maxRecDepth 100000
set_option maxHeartbeats 1000000
-- arctan
def halfI2 : Iv := ⟨-6746518853, 6746518853⟩
def halvedI (x : Iv) : Iv := divI x (addI (intI 1) (sqrtI (addI (intI 1) (sqrI x))))
def fourI (x : Iv) : Iv := dblI (dblI (arcS (halvedI (halvedI x))))
def openOk (n : Int) : Bool := decide (-1152921504606846976 < n) && decide (n < 1152921504606846976)
theorem openOk_iff {n : Int} : openOk n = true ↔ -1152921504606846976 < n ∧ n < 1152921504606846976 := by simp [openOk]
def atanP (n : Int) : Iv := if 4294967296 < n then subI (turnI 1) (fourI (divI (intI 1) ⟨n, n⟩)) else fourI ⟨n, n⟩
def atanA (n : Int) : Iv := if openOk n then (if n < 0 then negI (atanP (-n)) else atanP n) else halfI2
def atanI (x : Iv) : Iv := if okI x then hullI (atanA x.lo) (atanA x.hi) else halfI2
def asinA (n : Int) : Iv := if within n (-4294967296) 4294967296 then (meetI (dblI (atanI (divI ⟨n, n⟩ (addI (intI 1) (circleI n))))) halfI2).1 else whole
def asinI (x : Iv) : Iv := if (meetI x ringI).2 then hullI (asinA (meetI x ringI).1.lo) (asinA (meetI x ringI).1.hi) else whole
def acosI (x : Iv) : Iv := subI (turnI 1) (asinI x)
def F_half2 : FT
  | [], _ => some (True, .v (.agg [.int .i64 ((halfI2)).lo, .int .i64 ((halfI2)).hi]), [])
  | _, _ => none
theorem F_half2_eq {g : List PC} : F_half2 [] g = some (True, .v (.agg [.int .i64 ((halfI2)).lo, .int .i64 ((halfI2)).hi]), []) := rfl
def F_halved : FT
  | [.agg [.int .i64 x1, .int .i64 x2]], _ => some (True, .v (.agg [.int .i64 ((halvedI (Iv.mk x1 x2))).lo, .int .i64 ((halvedI (Iv.mk x1 x2))).hi]), [])
  | _, _ => none
theorem F_halved_eq {x1 : Int} {x2 : Int} {g : List PC} : F_halved [.agg [.int .i64 x1, .int .i64 x2]] g = some (True, .v (.agg [.int .i64 ((halvedI (Iv.mk x1 x2))).lo, .int .i64 ((halvedI (Iv.mk x1 x2))).hi]), []) := rfl
def F_four : FT
  | [.agg [.int .i64 x1, .int .i64 x2]], _ => some (True, .v (.agg [.int .i64 ((fourI (Iv.mk x1 x2))).lo, .int .i64 ((fourI (Iv.mk x1 x2))).hi]), [])
  | _, _ => none
theorem F_four_eq {x1 : Int} {x2 : Int} {g : List PC} : F_four [.agg [.int .i64 x1, .int .i64 x2]] g = some (True, .v (.agg [.int .i64 ((fourI (Iv.mk x1 x2))).lo, .int .i64 ((fourI (Iv.mk x1 x2))).hi]), []) := rfl
def F_openOk : FT
  | [.c (.p (.int .i64 n))], _ => some (True, .v (.c (.p (.bool (openOk n)))), [])
  | _, _ => none
theorem F_openOk_eq {n : Int} {g : List PC} : F_openOk [.c (.p (.int .i64 n))] g = some (True, .v (.c (.p (.bool (openOk n)))), []) := rfl
def F_atanP : FT
  | [.c (.p (.int .i64 n))], _ => some (0 ≤ n ∧ n < 1152921504606846976, .v (.agg [.int .i64 ((atanP n)).lo, .int .i64 ((atanP n)).hi]), [])
  | _, _ => none
theorem F_atanP_eq {n : Int} {g : List PC} : F_atanP [.c (.p (.int .i64 n))] g = some (0 ≤ n ∧ n < 1152921504606846976, .v (.agg [.int .i64 ((atanP n)).lo, .int .i64 ((atanP n)).hi]), []) := rfl
def F_atanA : FT
  | [.c (.p (.int .i64 n))], _ => some (True, .v (.agg [.int .i64 ((atanA n)).lo, .int .i64 ((atanA n)).hi]), [])
  | _, _ => none
theorem F_atanA_eq {n : Int} {g : List PC} : F_atanA [.c (.p (.int .i64 n))] g = some (True, .v (.agg [.int .i64 ((atanA n)).lo, .int .i64 ((atanA n)).hi]), []) := rfl
def F_atanI : FT
  | [.agg [.int .i64 x1, .int .i64 x2]], _ => some (True, .v (.agg [.int .i64 ((atanI (Iv.mk x1 x2))).lo, .int .i64 ((atanI (Iv.mk x1 x2))).hi]), [])
  | _, _ => none
theorem F_atanI_eq {x1 : Int} {x2 : Int} {g : List PC} : F_atanI [.agg [.int .i64 x1, .int .i64 x2]] g = some (True, .v (.agg [.int .i64 ((atanI (Iv.mk x1 x2))).lo, .int .i64 ((atanI (Iv.mk x1 x2))).hi]), []) := rfl
def F_asinA : FT
  | [.c (.p (.int .i64 n))], _ => some (True, .v (.agg [.int .i64 ((asinA n)).lo, .int .i64 ((asinA n)).hi]), [])
  | _, _ => none
theorem F_asinA_eq {n : Int} {g : List PC} : F_asinA [.c (.p (.int .i64 n))] g = some (True, .v (.agg [.int .i64 ((asinA n)).lo, .int .i64 ((asinA n)).hi]), []) := rfl
def F_asinI : FT
  | [.agg [.int .i64 x1, .int .i64 x2]], _ => some (True, .v (.agg [.int .i64 ((asinI (Iv.mk x1 x2))).lo, .int .i64 ((asinI (Iv.mk x1 x2))).hi]), [])
  | _, _ => none
theorem F_asinI_eq {x1 : Int} {x2 : Int} {g : List PC} : F_asinI [.agg [.int .i64 x1, .int .i64 x2]] g = some (True, .v (.agg [.int .i64 ((asinI (Iv.mk x1 x2))).lo, .int .i64 ((asinI (Iv.mk x1 x2))).hi]), []) := rfl
def F_acosI : FT
  | [.agg [.int .i64 x1, .int .i64 x2]], _ => some (True, .v (.agg [.int .i64 ((acosI (Iv.mk x1 x2))).lo, .int .i64 ((acosI (Iv.mk x1 x2))).hi]), [])
  | _, _ => none
theorem F_acosI_eq {x1 : Int} {x2 : Int} {g : List PC} : F_acosI [.agg [.int .i64 x1, .int .i64 x2]] g = some (True, .v (.agg [.int .i64 ((acosI (Iv.mk x1 x2))).lo, .int .i64 ((acosI (Iv.mk x1 x2))).hi]), []) := rfl
theorem turn1 : turnI 1 = ⟨6746518852, 6746518853⟩ := rfl
theorem turnA1 : turnA 1 = ⟨6746518852, 6746518853⟩ := rfl

end Go.Proofs.YtcnapkdccjibpaaGreat.Eng
