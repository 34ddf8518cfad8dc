/- What functions of the program compute, and that the program computes it: part 19. -/
import Derived.Test.YtcnapkdccjibpaaGreatDoorTab
import Derived.Test.YtcnapkdccjibpaaGreatDoorEng16
import Derived.Laws.BitsLemmas
import Derived.Laws.Bits64
import Derived.Laws.Bits64b
import Derived.Lib.Mul64
import Derived.Lib.BitFns
import Derived.Laws.Externs
import Derived.Test.YtcnapkdccjibpaaGreatDoorL1
import Derived.Test.YtcnapkdccjibpaaGreatDoorL2
namespace Go.Proofs.YtcnapkdccjibpaaGreatDoor.Eng
open Go Go.RowKit
set_option linter.unusedVariables false
set_option linter.unusedSimpArgs false
set_option maxRecDepth 100000
set_option maxHeartbeats 1000000
-- bytes
/-- Every byte of a given slice is told. -/
def Told (m : Addr → Option PC) (a : Option Addr) (n : Nat) : Prop := ∀ i, i < n → ∃ b v, a = some b ∧ m (b.add i) = some (.int .u8 v) ∧ 0 ≤ v ∧ v < 256
def byteAt (m : Addr → Option PC) (a : Option Addr) (i : Nat) : Int := match a with
  | some b => (match m (b.add i) with
    | some (.int _ v) => v
    | _ => 0)
  | none => 0
theorem byteAt_of {m : Addr → Option PC} {b : Addr} {i : Nat} {v : Int} (h : m (b.add i) = some (.int .u8 v)) : byteAt m (some b) i = v := by simp only [byteAt, h]
def d8F (m : Addr → Option PC) (a : Option Addr) (n : Nat) (k N : Int) : Int := if N ≤ 1 ∨ (n : Int) ≤ k then 0 else (if k + 1 < n then 256 * byteAt m a k.toNat + byteAt m a (k.toNat + 1) else byteAt m a k.toNat) % N
def M_d8 : MT := fun m args h => match args with
  | [.c (.p (.sl a n c)), .c (.p (.int .i64 k)), .c (.p (.int .i64 N))] => some (Told m a n ∧ 0 ≤ k ∧ k ≤ 1000000 ∧ n ≤ 1048576, .v (.c (.p (.int .i64 (d8F m a n k N)))), h)
  | _ => none
theorem M_d8_eq {m : Addr → Option PC} {h : Heap} {a : Option Addr} {n c : Nat} {k N : Int} : M_d8 m [.c (.p (.sl a n c)), .c (.p (.int .i64 k)), .c (.p (.int .i64 N))] h = some (Told m a n ∧ 0 ≤ k ∧ k ≤ 1000000 ∧ n ≤ 1048576, .v (.c (.p (.int .i64 (d8F m a n k N)))), h) := rfl
theorem d8_in {m : Addr → Option PC} {a : Option Addr} {n : Nat} {k N : Int} (hN : 1 < N) : 0 ≤ d8F m a n k N ∧ d8F m a n k N < N := by
  unfold d8F
  split
  · omega
  · exact ⟨Int.emod_nonneg _ (by omega), Int.emod_lt_of_pos _ (by omega)⟩
def widthI (x : Iv) : Int := if okI x then x.hi - x.lo else -1
def F_widthI : FT
  | [.agg [.int .i64 x1, .int .i64 x2]], _ => some (True, .v (.c (.p (.int .i64 (widthI (Iv.mk x1 x2))))), [])
  | _, _ => none
theorem F_widthI_eq {x1 : Int} {x2 : Int} {g : List PC} : F_widthI [.agg [.int .i64 x1, .int .i64 x2]] g = some (True, .v (.c (.p (.int .i64 (widthI (Iv.mk x1 x2))))), []) := rfl

end Go.Proofs.YtcnapkdccjibpaaGreatDoor.Eng
