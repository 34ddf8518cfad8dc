/- What functions of the program compute, and that the program computes it: part 27. -/
import Derived.Test.YtcnapkdccjibpaaGreatDoorTab
import Derived.Test.YtcnapkdccjibpaaGreatDoorEng16
import Derived.Laws.BitsLemmas
import Derived.Laws.Bits64
import Derived.Laws.Bits64b
import Derived.Lib.Mul64
import Derived.Lib.BitFns
import Derived.Laws.Externs
import Derived.Test.YtcnapkdccjibpaaGreatDoorL20
import Derived.Test.YtcnapkdccjibpaaGreatDoorL25
namespace Go.Proofs.YtcnapkdccjibpaaGreatDoor.Eng
open Go Go.RowKit
set_option linter.unusedVariables false
set_option linter.unusedSimpArgs false
set_option maxRecDepth 100000
set_option maxHeartbeats 1000000
-- plain truth12
/-- A polynomial's value. -/
def evL (x : Rat) : List Rat → Rat
  | [] => 0
  | c :: l => c + x * evL x l
def padL : List Rat → List Rat → List Rat
  | [], q => q
  | p, [] => p
  | a :: p, b :: q => (a + b) :: padL p q
def psc (c : Rat) : List Rat → List Rat
  | [] => []
  | a :: p => (c * a) :: psc c p
def pml : List Rat → List Rat → List Rat
  | [], _ => []
  | a :: p, q => padL (psc a q) (0 :: pml p q)
theorem ev_pad (x : Rat) : ∀ (p q : List Rat), evL x (padL p q) = evL x p + evL x q
  | [], q => by rw [padL, evL]; grind
  | a :: p, [] => by rw [padL, evL, evL]; grind; exact List.cons_ne_nil _ _
  | a :: p, b :: q => by rw [padL, evL, evL, evL, ev_pad x p q]; grind
theorem ev_psc (x c : Rat) : ∀ (p : List Rat), evL x (psc c p) = c * evL x p
  | [] => by rw [psc, evL]; grind
  | a :: p => by rw [psc, evL, evL, ev_psc x c p]; grind
theorem ev_pml (x : Rat) : ∀ (p q : List Rat), evL x (pml p q) = evL x p * evL x q
  | [], q => by rw [pml, evL]; grind
  | a :: p, q => by rw [pml, ev_pad, ev_psc, evL, evL, ev_pml x p q]; grind
/-- By Horner: the list's values at a polynomial. -/
def pcm : List Rat → List Rat → List Rat
  | [], _ => []
  | c :: l, p => padL [c] (pml p (pcm l p))
theorem ev_pcm (x : Rat) (p : List Rat) : ∀ (l : List Rat), evL x (pcm l p) = evL (evL x p) l
  | [] => rfl
  | c :: l => by
    have : evL x [c] = c := by rw [evL, evL]; grind
    rw [pcm, ev_pad, ev_pml, ev_pcm x p l, this, evL]
def pab : List Rat → List Rat
  | [] => []
  | a :: p => absR a :: pab p
theorem absR_bd (a : Rat) : Bd a (absR a) := by unfold absR Bd; split <;> grind
theorem ev_bd {x X : Rat} (h : Bd x X) : ∀ (p : List Rat), Bd (evL x p) (evL X (pab p))
  | [] => Bd.zero (by rw [pab, evL]; grind)
  | a :: p => (absR_bd a).add (h.mul (ev_bd h p))
/-- The arc series over x, as a polynomial in the square of x. -/
def aP : List Rat := [1, -1/3, 1/5, -1/7, 1/9, -1/11, 1/13, -1/15, 1/17, -1/19, 1/21]
/-- The square of the arc. -/
def wP : List Rat := 0 :: pml aP aP
def sP : List Rat := [1, -1/6, 1/120, -1/5040, 1/362880, -1/39916800]
def cP : List Rat := [1, -1/2, 1/24, -1/720, 1/40320, -1/3628800, 1/479001600]
def dP : List Rat := padL (pml aP (pcm sP wP)) (psc (-1) (pcm cP wP))
theorem dP_num : evL (1/16) (pab dP) ≤ 1/100000000000000 := by decide +kernel

end Go.Proofs.YtcnapkdccjibpaaGreatDoor.Eng
