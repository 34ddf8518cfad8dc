/- What functions of the program compute, and that the program computes it: part 28. -/
import Derived.Test.YtcnapkdccjibpaaGreatTab
import Derived.Test.YtcnapkdccjibpaaGreatEng16
import Derived.Laws.BitsLemmas
import Derived.Laws.Bits64
import Derived.Laws.Bits64b
import Derived.Lib.Mul64
import Derived.Lib.BitFns
import Derived.Laws.Externs
import Derived.Test.YtcnapkdccjibpaaGreatL8
import Derived.Test.YtcnapkdccjibpaaGreatL24
import Derived.Test.YtcnapkdccjibpaaGreatL26
namespace Go.Proofs.YtcnapkdccjibpaaGreat.Eng
open Go Go.RowKit
set_option linter.unusedVariables false
set_option linter.unusedSimpArgs false
set_option maxRecDepth 100000
set_option maxHeartbeats 1000000
-- def angles
def angL : List Int := [0, 1, 5, 1000000, 3000000000, 8000000000, 30000000000]
/-- The first number of an interval of angles: drawn, or an end of a quarter turn's. -/
def angN (m : Addr → Option PC) (a : Option Addr) (n : Nat) : Int × Sr :=
  if pkV m a n 3 (num m a n 160000000000 ⟨0, 0⟩).2 = 0 then
    ((turnA (pkV m a n 20 (pkN m a n 3 (num m a n 160000000000 ⟨0, 0⟩).2) - 10)).lo, pkN m a n 20 (pkN m a n 3 (num m a n 160000000000 ⟨0, 0⟩).2))
  else ((num m a n 160000000000 ⟨0, 0⟩).1, pkN m a n 3 (num m a n 160000000000 ⟨0, 0⟩).2)
def angW (m : Addr → Option PC) (a : Option Addr) (n : Nat) : Int := amV angL (pkV m a n 7 (angN m a n).2)
def angM (m : Addr → Option PC) (a : Option Addr) (n : Nat) : Int :=
  if 0 < angW m a n then (angN m a n).1 + amV [0, angW m a n, angW m a n / 2, angW m a n / 3] (pkV m a n 4 (pkN m a n 7 (angN m a n).2)) else (angN m a n).1
theorem turnA_in {k : Int} (h : -10 ≤ k ∧ k < 10) : -70000000000 ≤ (turnA k).lo ∧ (turnA k).lo ≤ 70000000000 := by
  unfold turnA turnP turnLo
  split
  · simp only; omega
  · split
    · simp only; omega
    · simp only; omega
theorem angN_in {m : Addr → Option PC} {a : Option Addr} {n : Nat} {b : Int} (hs : SrOk m a n b ⟨0, 0⟩) : -160000000000 ≤ (angN m a n).1 ∧ (angN m a n).1 ≤ 160000000000 ∧ SrOk m a n (b + 24) (angN m a n).2 := by
  have h1 := num_in (most := 160000000000) (by omega) hs
  have ok2 := pkN_ok (k := 3) h1.2.2
  have ok3 := pkN_ok (k := 20) ok2
  have hb := pkV_in (m := m) (a := a) (n := n) (k := 20) (x := pkN m a n 3 (num m a n 160000000000 ⟨0, 0⟩).2)
  have hb2 := hb.2 (by omega)
  unfold angN
  split
  · have := turnA_in (k := pkV m a n 20 (pkN m a n 3 (num m a n 160000000000 ⟨0, 0⟩).2) - 10) (by omega)
    exact ⟨by simp only; omega, by simp only; omega, ok3.mono (by omega)⟩
  · exact ⟨h1.1, h1.2.1, ok2.mono (by omega)⟩
theorem amV7 {v : Int} (h : 0 ≤ v ∧ v < 7) : 0 ≤ amV angL v ∧ amV angL v ≤ 30000000000 := by
  obtain rfl | rfl | rfl | rfl | rfl | rfl | rfl : v = 0 ∨ v = 1 ∨ v = 2 ∨ v = 3 ∨ v = 4 ∨ v = 5 ∨ v = 6 := by omega
  all_goals decide
theorem angW_in {m : Addr → Option PC} {a : Option Addr} {n : Nat} : 0 ≤ angW m a n ∧ angW m a n ≤ 30000000000 := by
  have hb := pkV_in (m := m) (a := a) (n := n) (k := 7) (x := (angN m a n).2)
  exact amV7 ⟨hb.1, hb.2 (by omega)⟩
theorem amVw {w v : Int} (h : 0 ≤ v ∧ v < 4) (hw : 0 ≤ w) : 0 ≤ amV [0, w, w / 2, w / 3] v ∧ amV [0, w, w / 2, w / 3] v ≤ w := by
  obtain rfl | rfl | rfl | rfl : v = 0 ∨ v = 1 ∨ v = 2 ∨ v = 3 := by omega
  all_goals (simp [amV]; try omega)
theorem angM_in {m : Addr → Option PC} {a : Option Addr} {n : Nat} : (angN m a n).1 ≤ angM m a n ∧ angM m a n ≤ (angN m a n).1 + angW m a n := by
  have hw := angW_in (m := m) (a := a) (n := n)
  have hb := pkV_in (m := m) (a := a) (n := n) (k := 4) (x := pkN m a n 7 (angN m a n).2)
  have := amVw ⟨hb.1, hb.2 (by omega)⟩ hw.1
  unfold angM
  split <;> omega
def angTup (m : Addr → Option PC) (a : Option Addr) (n : Nat) : SV := .tup [.agg [.int .i64 (angN m a n).1, .int .i64 ((angN m a n).1 + angW m a n)], .c (.p (.int .i64 (angM m a n)))]
def M_angles : MT := fun m args h => match args with
  | [.c (.p (.sl a n c))] => some (Told m a n ∧ n ≤ 1048576, angTup m a n, h)
  | _ => none
theorem M_angles_eq {m : Addr → Option PC} {h : Heap} {a : Option Addr} {n c : Nat} : M_angles m [.c (.p (.sl a n c))] h = some (Told m a n ∧ n ≤ 1048576, .tup [.agg [.int .i64 (angN m a n).1, .int .i64 ((angN m a n).1 + angW m a n)], .c (.p (.int .i64 (angM m a n)))], h) := rfl
theorem plain_tup2 {k : Nat} {x : List PC} {y : PC} : SV.plain k (.tup [.agg x, .c (.p y)]) := by
  intro z hz
  simp only [List.mem_cons, List.not_mem_nil, or_false] at hz
  rcases hz with rfl | rfl <;> trivial
theorem endM_tup2 {hp l : Heap} {x : List PC} {y : PC} : endM hp.length (.tup [.agg x, .c (.p y)]) hp (hp ++ l) (some [.agg x, .c (.p y)]) :=
  endM_same rfl plain_tup2 rfl rfl (by simp) (by simp)
theorem box1 {h : Heap} {x z : List PC} : (h ++ [x] ++ [z])[h.length]? = some x := by simp
theorem box1s {h : Heap} {x y z : List PC} : (h ++ [x] ++ [z]).set h.length y = h ++ [y] ++ [z] := by simp
theorem box2 {h : Heap} {x x' z : List PC} : (h ++ [x] ++ [z])[(h ++ [x']).length]? = some z := by simp
theorem box3 {h : Heap} {x z u : List PC} : (h ++ [x] ++ [z] ++ [u])[h.length]? = some x := by simp
theorem box3s {h : Heap} {x y z u : List PC} : (h ++ [x] ++ [z] ++ [u]).set h.length y = h ++ [y] ++ [z] ++ [u] := by simp
theorem box4 {h : Heap} {x x' z z' u : List PC} : (h ++ [x] ++ [z] ++ [u])[(h ++ [x'] ++ [z']).length]? = some u := by simp
theorem box5 {h : Heap} {x z u v : List PC} : (h ++ [x] ++ [z] ++ [u] ++ [v])[h.length]? = some x := by simp
theorem box5s {h : Heap} {x y z u v : List PC} : (h ++ [x] ++ [z] ++ [u] ++ [v]).set h.length y = h ++ [y] ++ [z] ++ [u] ++ [v] := by simp

end Go.Proofs.YtcnapkdccjibpaaGreat.Eng
