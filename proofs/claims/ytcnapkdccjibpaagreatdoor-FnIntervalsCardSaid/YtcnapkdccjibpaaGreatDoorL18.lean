/- What functions of the program compute, and that the program computes it: part 18. -/
import Derived.Test.YtcnapkdccjibpaaGreatDoorTab
import Derived.Test.YtcnapkdccjibpaaGreatDoorEng16
import Derived.Laws.BitsLemmas
import Derived.Laws.Bits64
import Derived.Laws.Bits64b
import Derived.Lib.Mul64
import Derived.Lib.BitFns
import Derived.Laws.Externs
import Derived.Test.YtcnapkdccjibpaaGreatDoorL1
import Derived.Test.YtcnapkdccjibpaaGreatDoorL2
import Derived.Test.YtcnapkdccjibpaaGreatDoorL7
import Derived.Test.YtcnapkdccjibpaaGreatDoorL16
namespace Go.Proofs.YtcnapkdccjibpaaGreatDoor.Eng
open Go Go.RowKit
set_option linter.unusedVariables false
set_option linter.unusedSimpArgs false
set_option maxRecDepth 100000
set_option maxHeartbeats 1000000
-- rows
/-- A slice that the function itself has made: none at all, or a box behind box L. -/
def RowAt (L : Nat) (h : Heap) (sl : Cl) (z n : Nat) (cs : List PC) : Prop := (n = 0 ∧ cs = [] ∧ sl = .p (.sl none 0 0)) ∨ (0 < n ∧ cs.length = n * z ∧ ∃ i, sl = .row i 0 n z ∧ L < i ∧ h[i]? = some cs)
theorem ne_of_f {b : Bool} (h : b = false) : ¬ b = true := by rw [h]; decide
def rowR (k z n : Nat) : Cl := if n = 0 then .p (.sl none 0 0) else .row k 0 n z
def rowH (h : Heap) (n : Nat) (cs : List PC) : Heap := if n = 0 then h else h ++ [cs]
theorem rowR_0 {k z : Nat} : rowR k z 0 = .p (.sl none 0 0) := rfl
theorem rowR_s {k z n : Nat} : rowR k z (n + 1) = .row k 0 (n + 1) z := rfl
theorem rowH_0 {h : Heap} {cs : List PC} : rowH h 0 cs = h := rfl
theorem rowH_s {h : Heap} {n : Nat} {cs : List PC} : rowH h (n + 1) cs = h ++ [cs] := rfl
theorem app_step {L : Nat} {h : Heap} {sl : Cl} {z n : Nat} {cs c zz : List PC} {m : Addr → Option PC} (hR : RowAt L h sl z n cs) (hz : zz.length = z) (hc : c.length = z) (h0 : 0 < z) (hn : n < 1048576) (hL : L < h.length) :
    ∃ sl' h2, appO (h ++ [c]) m (some (tdRow zz)) (some [.c sl, .c (.row h.length 0 1 z)]) = some (some (.v (.c sl')), h2) ∧ RowAt L h2 sl' z (n + 1) (cs ++ c) ∧ (∀ i, i ≤ L → h2[i]? = h[i]?) ∧ h.length ≤ h2.length := by
  subst hz
  have hcne : c ≠ [] := by intro e; rw [e] at hc; simp at hc; omega
  have hrc : rowCells zz.length (h ++ [c]) m (.c (.row h.length 0 1 zz.length)) = some (1, c) := by
    simp only [rowCells]
    rw [if_pos trivial]
    simp only [List.getElem?_concat_length]
    rw [if_pos ⟨by omega, hcne⟩]
    simp only [List.drop_zero, Nat.one_mul]
    rw [← hc, List.take_length]
  have hd : (tdRow zz).row = true := rfl
  have he : (tdRow zz).ez1 = zz := rfl
  rcases hR with ⟨rfl, rfl, rfl⟩ | ⟨hn0, hl, i, rfl, hi, hcs⟩
  · refine ⟨.row (h.length + 1) 0 1 zz.length, h ++ [c] ++ [c], ?_, .inr ⟨by omega, by simpa using hc, h.length + 1, rfl, by omega, ?_⟩, ?_, by simp⟩
    · simp only [appO, hd, he, if_true, hrc]
      simp only [appF]
      rw [if_pos ⟨by omega, .inl (by omega), by omega⟩]
      simp
    · simp
    · intro j hj
      rw [List.append_assoc, List.getElem?_append_left (by omega)]
  · have hil := (List.getElem?_eq_some_iff.1 hcs).1
    refine ⟨.row (h.length + 1) 0 (n + 1) zz.length, (h ++ [c]).set i [] ++ [cs ++ c], ?_, .inr ⟨by omega, by simp [hl, hc, Nat.succ_mul], h.length + 1, rfl, by omega, ?_⟩, ?_, by simp only [List.length_append, List.length_set, List.length_cons, List.length_nil]; omega⟩
    · simp only [appO, hd, he, if_true, hrc]
      simp only [appF]
      rw [if_pos ⟨by omega, .inl (by omega), by omega⟩, if_pos ⟨trivial, hn0, by omega⟩, List.getElem?_append_left hil, hcs]
      simp only
      rw [if_pos hl]
      simp
    · rw [List.getElem?_append_right (by simp)]
      simp
    · intro j hj
      rw [List.getElem?_append_left (by simp; omega), List.getElem?_set_ne (by omega), List.getElem?_append_left (by omega)]
theorem take_of {h hp : Heap} (hl : hp.length ≤ h.length) (ht : ∀ i, i < hp.length → h[i]? = hp[i]?) : h.take hp.length = hp := by
  apply List.ext_getElem?
  intro i
  rw [List.getElem?_take]
  split
  · rename_i hi; exact ht i hi
  · rename_i hi; rw [List.getElem?_eq_none (by omega)]
theorem endM_row {L : Nat} {h hp : Heap} {sl : Cl} {z n : Nat} {cs : List PC} (hR : RowAt L h sl z n cs) (hL : hp.length ≤ L + 1) (hl : hp.length ≤ h.length) (ht : ∀ i, i < hp.length → h[i]? = hp[i]?) :
    endM hp.length (.v (.c (rowR hp.length z n))) (rowH hp n cs) h (some [.c sl]) := by
  have htk := take_of hl ht
  rcases hR with ⟨rfl, rfl, rfl⟩ | ⟨hn0, hlen, i, rfl, hi, hcs⟩
  · exact endM_same rfl trivial rfl rfl hl htk
  · have e1 : rowR hp.length z n = .row hp.length 0 n z := by unfold rowR; rw [if_neg (by omega)]
    have e2 : rowH hp n cs = hp ++ [cs] := by unfold rowH; rw [if_neg (by omega)]
    rw [e1, e2]
    refine ⟨⟨[i], ?_, ?_, by simp, hl, ?_, by simp, ?_⟩⟩
    · simp [resSV, SV.ren, AV.ren]
    · show hp.length < hp.length + 1
      omega
    · rw [htk]; simp
    · intro j k ds hj hd hne
      cases j with
      | succ j => simp at hj
      | zero =>
        simp at hj hd
        subst hj; subst hd
        exact ⟨hcs, by omega⟩

-- hulls
def anglesOk (x : Iv) : Bool := okI x && (angleOk x.lo && angleOk x.hi)
def F_anglesOk : FT
  | [.agg [.int .i64 x1, .int .i64 x2]], _ => some (True, .v (.c (.p (.bool (anglesOk (Iv.mk x1 x2))))), [])
  | _, _ => none
theorem F_anglesOk_eq {x1 : Int} {x2 : Int} {g : List PC} : F_anglesOk [.agg [.int .i64 x1, .int .i64 x2]] g = some (True, .v (.c (.p (.bool (anglesOk (Iv.mk x1 x2))))), []) := rfl
def turnL : Nat → Int → Iv → List Int
  | 0, _, _ => []
  | n + 1, k, x => if (meetI (turnI k) x).2 then k :: turnL n (k + 1) x else turnL n (k + 1) x
def turnN (x : Iv) : Nat := (quarter x.hi - quarter x.lo + 3).toNat
def turns (x : Iv) : List Int := turnL (turnN x) (quarter x.lo - 1) x
def turnsC (x : Iv) : List PC := (turns x).map (PC.int .i64)
def M_turns : MT := fun _ args h => match args with
  | [.agg [.int .i64 a, .int .i64 b]] => some (a ≤ b ∧ angleOk a = true ∧ angleOk b = true, .v (.c (rowR h.length 1 (turns ⟨a, b⟩).length)), rowH h (turns ⟨a, b⟩).length (turnsC ⟨a, b⟩))
  | _ => none
theorem M_turns_eq {m : Addr → Option PC} {h : Heap} {a b : Int} : M_turns m [.agg [.int .i64 a, .int .i64 b]] h = some (a ≤ b ∧ angleOk a = true ∧ angleOk b = true, .v (.c (rowR h.length 1 (turns ⟨a, b⟩).length)), rowH h (turns ⟨a, b⟩).length (turnsC ⟨a, b⟩)) := rfl
def hullK (t : Int) (out : Iv) (k : Int) : Iv := if (k + t) % 4 = 1 then hullI out (intI 1) else if (k + t) % 4 = 3 then hullI out (intI (-1)) else out
def hullL (t : Int) : List Int → Iv → Iv
  | [], out => out
  | k :: r, out => hullL t r (hullK t out k)
def hullC (x : Iv) (t : Int) : Iv := if anglesOk x then hullL t (turns x) (hullI (circ x.lo t) (circ x.hi t)) else ringI
def F_hullC : FT
  | [.agg [.int .i64 x1, .int .i64 x2], .c (.p (.int .i64 t))], _ => some (t = 0 ∨ t = 1, .v (.agg [.int .i64 ((hullC (Iv.mk x1 x2) t)).lo, .int .i64 ((hullC (Iv.mk x1 x2) t)).hi]), [])
  | _, _ => none
theorem F_hullC_eq {x1 : Int} {x2 : Int} {t : Int} {g : List PC} : F_hullC [.agg [.int .i64 x1, .int .i64 x2], .c (.p (.int .i64 t))] g = some (t = 0 ∨ t = 1, .v (.agg [.int .i64 ((hullC (Iv.mk x1 x2) t)).lo, .int .i64 ((hullC (Iv.mk x1 x2) t)).hi]), []) := rfl
theorem quarter_mono {a b : Int} (h : a ≤ b) (h1 : angleOk a = true) (h2 : angleOk b = true) : quarter a ≤ quarter b := by
  unfold quarter
  rw [h1, h2]
  simp only [if_true]
  omega
theorem anglesOk_out {a b : Int} (h : anglesOk ⟨a, b⟩ = true) : a ≤ b ∧ angleOk a = true ∧ angleOk b = true := by
  unfold anglesOk at h
  simp only [Bool.and_eq_true] at h
  exact ⟨(okI_mk.1 h.1).2.1, h.2.1, h.2.2⟩
theorem turnsC_get {x : Iv} {pre post : List Int} {k : Int} (h : turns x = pre ++ k :: post) : (turnsC x)[pre.length]? = some (PC.int .i64 k) := by
  unfold turnsC
  rw [h]
  simp
theorem turnL_bd : ∀ (n : Nat) (k : Int) (x : Iv), ∀ j ∈ turnL n k x, k ≤ j ∧ j < k + n
  | 0, k, x, j, h => by cases h
  | n + 1, k, x, j, h => by
    unfold turnL at h
    split at h
    · rcases List.mem_cons.1 h with rfl | h
      · omega
      · have := turnL_bd n (k + 1) x j h; omega
    · have := turnL_bd n (k + 1) x j h; omega
theorem turnL_len : ∀ (n : Nat) (k : Int) (x : Iv), (turnL n k x).length ≤ n
  | 0, k, x => by simp [turnL]
  | n + 1, k, x => by
    unfold turnL
    have := turnL_len n (k + 1) x
    split <;> simp <;> omega
theorem turns_bd {x : Iv} {k : Int} (h : k ∈ turns x) : -170 ≤ k ∧ k ≤ 170 := by
  have h1 := turnL_bd _ _ _ k h
  have q1 := quarter_bd0 x.lo
  have q2 := quarter_bd0 x.hi
  unfold turnN at h1
  omega

end Go.Proofs.YtcnapkdccjibpaaGreatDoor.Eng
