/- What functions of the program compute, and that the program computes it: part 30. -/
import Derived.Test.YtcnapkdccjibpaaGreatDoorShelf
import Derived.Test.YtcnapkdccjibpaaGreatDoorTab
import Derived.Test.YtcnapkdccjibpaaGreatDoorEng16
import Derived.Laws.BitsLemmas
import Derived.Laws.Bits64
import Derived.Laws.Bits64b
import Derived.Lib.Mul64
import Derived.Lib.BitFns
import Derived.Laws.Externs
import Derived.Test.YtcnapkdccjibpaaGreatDoorL1
import Derived.Test.YtcnapkdccjibpaaGreatDoorL2
import Derived.Test.YtcnapkdccjibpaaGreatDoorL4
import Derived.Test.YtcnapkdccjibpaaGreatDoorL5
import Derived.Test.YtcnapkdccjibpaaGreatDoorL10
import Derived.Test.YtcnapkdccjibpaaGreatDoorL20
import Derived.Test.YtcnapkdccjibpaaGreatDoorL23
import Derived.Test.YtcnapkdccjibpaaGreatDoorL28
import Derived.Test.YtcnapkdccjibpaaGreatDoorL29
namespace Go.Proofs.YtcnapkdccjibpaaGreatDoor.Eng
open Go Go.RowKit
set_option linter.unusedVariables false
set_option linter.unusedSimpArgs false
set_option maxRecDepth 100000
set_option maxHeartbeats 1000000
-- texts read
theorem endS_sb {a0 : List UInt8} {a1 : Bool} {t : List UInt8 × Bool} {r : SV} {h : Heap} (hr : .tup [.c (.p (.str (bs ((t).1)))), .c (.p (.bool ((t).2)))] = r) (e : (a0, a1) = t) : endS r [] h (some [.c (.p (.str (bs a0))), .c (.p (.bool a1))]) := by
  subst e; subst hr; exact ⟨rfl, by simp [SV.res, AV.res, Cl.res], rfl⟩
theorem endS_ssb {a0 : List UInt8} {a1 : List UInt8} {a2 : Bool} {t : List UInt8 × List UInt8 × Bool} {r : SV} {h : Heap} (hr : .tup [.c (.p (.str (bs ((t).1)))), .c (.p (.str (bs ((t).2.1)))), .c (.p (.bool ((t).2.2)))] = r) (e : (a0, a1, a2) = t) : endS r [] h (some [.c (.p (.str (bs a0))), .c (.p (.str (bs a1))), .c (.p (.bool a2))]) := by
  subst e; subst hr; exact ⟨rfl, by simp [SV.res, AV.res, Cl.res], rfl⟩
def F_cutPre : FT
  | [.c (.p (.str s)), .c (.p (.str p))], _ => some (True, .tup [.c (.p (.str (bs (((Lib.trimPrefix (s.data.toList) (p.data.toList), Lib.hasPrefix (s.data.toList) (p.data.toList))).1)))), .c (.p (.bool (((Lib.trimPrefix (s.data.toList) (p.data.toList), Lib.hasPrefix (s.data.toList) (p.data.toList))).2)))], [])
  | _, _ => none
theorem F_cutPre_eq {s : ByteArray} {p : ByteArray} {g : List PC} : F_cutPre [.c (.p (.str s)), .c (.p (.str p))] g = some (True, .tup [.c (.p (.str (bs (((Lib.trimPrefix (s.data.toList) (p.data.toList), Lib.hasPrefix (s.data.toList) (p.data.toList))).1)))), .c (.p (.bool (((Lib.trimPrefix (s.data.toList) (p.data.toList), Lib.hasPrefix (s.data.toList) (p.data.toList))).2)))], []) := rfl
def F_cutSuf : FT
  | [.c (.p (.str s)), .c (.p (.str p))], _ => some ((s.data.toList).length ≤ 1048576, .tup [.c (.p (.str (bs (((Lib.trimSuffix (s.data.toList) (p.data.toList), Lib.hasSuffix (s.data.toList) (p.data.toList))).1)))), .c (.p (.bool (((Lib.trimSuffix (s.data.toList) (p.data.toList), Lib.hasSuffix (s.data.toList) (p.data.toList))).2)))], [])
  | _, _ => none
theorem F_cutSuf_eq {s : ByteArray} {p : ByteArray} {g : List PC} : F_cutSuf [.c (.p (.str s)), .c (.p (.str p))] g = some ((s.data.toList).length ≤ 1048576, .tup [.c (.p (.str (bs (((Lib.trimSuffix (s.data.toList) (p.data.toList), Lib.hasSuffix (s.data.toList) (p.data.toList))).1)))), .c (.p (.bool (((Lib.trimSuffix (s.data.toList) (p.data.toList), Lib.hasSuffix (s.data.toList) (p.data.toList))).2)))], []) := rfl
def F_cutTwo : FT
  | [.c (.p (.str s)), .c (.p (.str p))], _ => some ((s.data.toList).length ≤ 1048576, .tup [.c (.p (.str (bs ((Lib.cut (s.data.toList) (p.data.toList)).1)))), .c (.p (.str (bs ((Lib.cut (s.data.toList) (p.data.toList)).2.1)))), .c (.p (.bool ((Lib.cut (s.data.toList) (p.data.toList)).2.2)))], [])
  | _, _ => none
theorem F_cutTwo_eq {s : ByteArray} {p : ByteArray} {g : List PC} : F_cutTwo [.c (.p (.str s)), .c (.p (.str p))] g = some ((s.data.toList).length ≤ 1048576, .tup [.c (.p (.str (bs ((Lib.cut (s.data.toList) (p.data.toList)).1)))), .c (.p (.str (bs ((Lib.cut (s.data.toList) (p.data.toList)).2.1)))), .c (.p (.bool ((Lib.cut (s.data.toList) (p.data.toList)).2.2)))], []) := rfl
def F_trimPre : FT
  | [.c (.p (.str s)), .c (.p (.str p))], _ => some (True, .v (.c (.p (.str (bs (Lib.trimPrefix (s.data.toList) (p.data.toList)))))), [])
  | _, _ => none
theorem F_trimPre_eq {s : ByteArray} {p : ByteArray} {g : List PC} : F_trimPre [.c (.p (.str s)), .c (.p (.str p))] g = some (True, .v (.c (.p (.str (bs (Lib.trimPrefix (s.data.toList) (p.data.toList)))))), []) := rfl
def F_trimDig : FT
  | [.c (.p (.str s)), .c (.p (.str c))], _ => some ((s.data.toList).length ≤ 4194304 ∧ (c.data.toList) = [48, 49, 50, 51, 52, 53, 54, 55, 56, 57], .v (.c (.p (.str (bs (Lib.trimS (s.data.toList) (c.data.toList)))))), [])
  | _, _ => none
theorem F_trimDig_eq {s : ByteArray} {c : ByteArray} {g : List PC} : F_trimDig [.c (.p (.str s)), .c (.p (.str c))] g = some ((s.data.toList).length ≤ 4194304 ∧ (c.data.toList) = [48, 49, 50, 51, 52, 53, 54, 55, 56, 57], .v (.c (.p (.str (bs (Lib.trimS (s.data.toList) (c.data.toList)))))), []) := rfl

-- read rd1
/-- A digit; the number that digits are. -/
def digB (b : UInt8) : Bool := decide (48 ≤ b.toNat) && decide (b.toNat ≤ 57)
def valL : Int → List UInt8 → Int
  | m, [] => m
  | m, b :: r => valL (10 * m + ((b.toNat : Int) - 48)) r
theorem valL_app : ∀ (l r : List UInt8) (m : Int), valL m (l ++ r) = valL (valL m l) r
  | [], r, m => rfl
  | b :: l, r, m => by simp only [List.cons_append, valL]; exact valL_app l r _
theorem digB_of {n : Nat} (h : n < 10) : digB (UInt8.ofNat (48 + n)) = true ∧ ((UInt8.ofNat (48 + n)).toNat : Int) - 48 = n := by
  have : ∀ k : Nat, k < 10 → digB (UInt8.ofNat (48 + k)) = true ∧ ((UInt8.ofNat (48 + k)).toNat : Int) - 48 = k := by decide
  exact this n h
theorem dec_dig (u : Nat) : (Lib.decDigits u).all digB = true ∧ valL 0 (Lib.decDigits u) = u := by
  induction u using Nat.strongRecOn with
  | _ u ih =>
    rw [Lib.decDigits]
    split
    · rename_i h
      have := digB_of h
      simp only [List.all_cons, List.all_nil, valL, this.1, Bool.and_true, true_and]
      omega
    · rename_i h
      have i1 := ih (u / 10) (by omega)
      have i2 := @digB_of (u % 10) (by omega)
      rw [valL_app]
      refine ⟨by rw [List.all_append, i1.1, Bool.true_and]; simp only [List.all_cons, List.all_nil, i2.1, Bool.and_true], ?_⟩
      rw [i1.2]
      simp only [valL, i2.2]
      omega
theorem itoa_dig {n : Int} (h : 0 ≤ n) : (Lib.itoa n).all digB = true ∧ valL 0 (Lib.itoa n) = n := by
  unfold Lib.itoa
  rw [if_neg (by omega)]
  have := dec_dig n.toNat
  exact ⟨this.1, by rw [this.2]; omega⟩
theorem valL_lin : ∀ (l : List UInt8) (m : Int), valL m l = m * pw10 l.length + valL 0 l
  | [], m => by simp [valL, pw10]
  | b :: r, m => by
    have h := pw10_s (n := (r.length : Int)) (by omega)
    simp only [valL]
    rw [valL_lin r, valL_lin r (10 * 0 + _)]
    have e : ((b :: r).length : Int) = r.length + 1 := by simp
    rw [e, h]
    grind
theorem valL_rep : ∀ (k : Nat), valL 0 (List.replicate k 48) = 0
  | 0 => rfl
  | k + 1 => by
    rw [List.replicate_succ]
    simp only [valL]
    exact valL_rep k
theorem zeros_dig {d n : Int} (h0 : 0 ≤ n) (h1 : n < pw10 d) (hd : 1 ≤ d) : (zeros d (Lib.itoa n)).all digB = true ∧ valL 0 (zeros d (Lib.itoa n)) = n ∧ ((zeros d (Lib.itoa n)).length : Int) = d := by
  have i1 := itoa_dig h0
  have i2 := itoa_len_d h0 h1 hd
  unfold zeros
  refine ⟨?_, ?_, ?_⟩
  · rw [List.all_append, i1.1, Bool.and_true, List.all_eq_true]
    intro x hx
    rw [List.eq_of_mem_replicate hx]; decide
  · rw [valL_app, valL_rep, i1.2]
  · simp; omega
/-- The parts of a number's text. -/
theorem units_parts (m : Int) {d : Int} (h0 : 0 ≤ d) (h9 : d ≤ 9) : ∃ sg W P : List UInt8, unitsL m d = sg ++ W ++ (if d = 0 then [] else [46] ++ P) ∧ sg = (if m < 0 then [45] else []) ∧ W.all digB = true ∧ P.all digB = true ∧ 1 ≤ W.length ∧ (P.length : Int) = d ∧ valL 0 (W ++ P) = absZ m ∧ valL 0 W = absZ m / pw10 d ∧ (∀ k : Int, 1 ≤ k → absZ m / pw10 d < pw10 k → (W.length : Int) ≤ k) := by
  have hp := pw10_in (n := d) (by omega)
  have ha := @absZ_nn m
  have q0 : 0 ≤ absZ m / pw10 d := Int.ediv_nonneg ha (by omega)
  have r0 : 0 ≤ absZ m % pw10 d := Int.emod_nonneg _ (by omega)
  have r1 : absZ m % pw10 d < pw10 d := Int.emod_lt_of_pos _ (by omega)
  have hW := itoa_dig q0
  by_cases hd : d = 0
  · subst hd
    refine ⟨_, Lib.itoa (absZ m / pw10 0), [], rfl, rfl, hW.1, rfl, itoa_pos _, rfl, ?_, hW.2, fun k hk hl => itoa_len_d q0 hl hk⟩
    rw [List.append_nil, hW.2]; simp [pw10]
  · have hz := zeros_dig r0 r1 (by omega)
    refine ⟨_, Lib.itoa (absZ m / pw10 d), zeros d (Lib.itoa (absZ m % pw10 d)), rfl, rfl, hW.1, hz.1, itoa_pos _, hz.2.2, ?_, hW.2, fun k hk hl => itoa_len_d q0 hl hk⟩
    rw [valL_app, valL_lin, hz.2.2, hW.2, hz.2.1]
    have := Int.mul_ediv_add_emod (absZ m) (pw10 d)
    grind

-- read rd2
/-- The first dot. -/
def dotAt : List UInt8 → Option Nat
  | [] => none
  | b :: r => if b = 46 then some 0 else (dotAt r).map (· + 1)
theorem dotAt_dig : ∀ {l : List UInt8} {r : List UInt8}, (∀ x ∈ l, x ≠ 46) → dotAt (l ++ 46 :: r) = some l.length
  | [], r, _ => by simp [dotAt]
  | b :: l, r, h => by
    simp only [List.cons_append, dotAt]
    rw [if_neg (h b (by simp)), dotAt_dig (fun x hx => h x (by simp [hx]))]
    simp
theorem dotAt_none : ∀ {l : List UInt8}, (∀ x ∈ l, x ≠ 46) → dotAt l = none
  | [], _ => rfl
  | b :: l, h => by
    simp only [dotAt]
    rw [if_neg (h b (by simp)), dotAt_none (fun x hx => h x (by simp [hx]))]
    rfl
theorem idx_dot : ∀ {l : List UInt8}, Lib.index l [46] = match dotAt l with | some i => (i : Int) | none => -1
  | [] => by simp [Lib.index, dotAt]
  | b :: l => by
    have ih := @idx_dot l
    simp only [Lib.index, dotAt, List.isPrefixOf]
    by_cases h : b = 46
    · subst h; simp
    · have hb : (46 == b) = false := by simp; exact fun e => h e.symm
      rw [if_neg h, ih]
      cases dotAt l with
      | none => simp [hb]
      | some i =>
        have : ¬ ((i : Int) = -1) := by omega
        simp [hb, this]
theorem cut_dot (l : List UInt8) : Lib.cut l [46] = match dotAt l with | some i => (l.take i, l.drop (i + 1), true) | none => (l, [], false) := by
  unfold Lib.cut
  rw [idx_dot]
  cases dotAt l with
  | none => simp
  | some i => simp
/-- impl's reading of digits. -/
def parseI (s : List UInt8) : Int × Int × Bool :=
  let c := Lib.cut s [46]
  let un := Lib.trimPrefix c.1 [45]
  if (c.2.2 != decide (0 < (c.2.1.length : Int))) || (decide (9 < (c.2.1.length : Int)) || (!within un.length 1 9 || !(un ++ c.2.1).all digB)) then (0, 0, false)
  else (if un = c.1 then valL 0 (un ++ c.2.1) else -valL 0 (un ++ c.2.1), c.2.1.length, decide (unitsL (if un = c.1 then valL 0 (un ++ c.2.1) else -valL 0 (un ++ c.2.1)) c.2.1.length = s))
/-- spec's. -/
def bodyS (s : List UInt8) : List UInt8 := match dotAt s with
  | some i => s.take i ++ s.drop (i + 1)
  | none => s
def digsS (s : List UInt8) : Int := match dotAt s with
  | some i => (s.length : Int) - 1 - i
  | none => 0
def signS (b : List UInt8) : Int := if b.head? = some 45 then -1 else 1
def restS (b : List UInt8) : List UInt8 := if b.head? = some 45 then b.drop 1 else b
def parseS (s : List UInt8) : Int × Int × Bool :=
  let b := restS (bodyS s)
  if decide (9 < digsS s) || decide (18 < (b.length : Int)) then (0, 0, false)
  else if !b.all digB then (0, 0, false)
  else if unitsL (valL 0 b * signS (bodyS s)) (digsS s) ≠ s then (0, 0, false)
  else (valL 0 b * signS (bodyS s), digsS s, true)
theorem take_dot (A P : List UInt8) : (A ++ ([46] ++ P)).take A.length = A := List.take_left
theorem drop_dot (A P : List UInt8) : (A ++ ([46] ++ P)).drop (A.length + 1) = P := by
  rw [show A.length + 1 = (A ++ [46]).length by simp, ← List.append_assoc, List.drop_left]
theorem dig_ne {l : List UInt8} (h : l.all digB = true) {c : UInt8} (hc : digB c = false) : ∀ x ∈ l, x ≠ c := by
  intro x hx e
  subst e
  rw [List.all_eq_true] at h
  rw [h _ hx] at hc
  cases hc
theorem units_dot (m : Int) {d : Int} (h0 : 0 ≤ d) (h9 : d ≤ 9) : ∃ sg W P : List UInt8, unitsL m d = sg ++ W ++ (if d = 0 then [] else [46] ++ P) ∧ sg = (if m < 0 then [45] else []) ∧ W.all digB = true ∧ P.all digB = true ∧ 1 ≤ W.length ∧ (P.length : Int) = d ∧ valL 0 (W ++ P) = absZ m ∧ (∀ k : Int, 1 ≤ k → absZ m / pw10 d < pw10 k → (W.length : Int) ≤ k) ∧
    dotAt (unitsL m d) = (if d = 0 then none else some (sg ++ W).length) := by
  obtain ⟨sg, W, P, e1, e2, e3, e4, e5, e6, e7, _, e8⟩ := units_parts m h0 h9
  refine ⟨sg, W, P, e1, e2, e3, e4, e5, e6, e7, e8, ?_⟩
  have hne : ∀ x ∈ sg ++ W, x ≠ 46 := by
    intro x hx
    rw [List.mem_append] at hx
    rcases hx with hx | hx
    · rw [e2] at hx
      split at hx
      · simp at hx; subst hx; decide
      · cases hx
    · exact dig_ne e3 (by decide) x hx
  rw [e1]
  split
  · rw [List.append_nil]; exact dotAt_none hne
  · rw [List.singleton_append]; exact dotAt_dig hne
theorem head_dig {W : List UInt8} (h : W.all digB = true) : W.head? ≠ some 45 := by
  cases W with
  | nil => simp
  | cons b r =>
    simp only [List.all_cons, Bool.and_eq_true] at h
    intro e
    simp at e
    subst e
    exact absurd h.1 (by decide)
theorem parseI_units (m : Int) {d : Int} (h0 : 0 ≤ d) (h9 : d ≤ 9) (hm : absZ m / pw10 d < 1000000000) : parseI (unitsL m d) = (m, d, true) := by
  obtain ⟨sg, W, P, e1, e2, e3, e4, e5, e6, e7, e8, e9⟩ := units_dot m h0 h9
  have hW := e8 9 (by omega) hm
  have hc : Lib.cut (unitsL m d) [46] = (sg ++ W, P, !decide (d = 0)) := by
    rw [cut_dot, e9]
    by_cases hd : d = 0
    · have : P = [] := List.eq_nil_of_length_eq_zero (by omega)
      rw [if_pos hd] at e1
      rw [if_pos hd, e1, this]; simp [hd]
    · rw [if_neg hd]
      rw [if_neg hd] at e1
      simp only [e1, take_dot, drop_dot]
      simp [hd]
  have hu : Lib.trimPrefix (sg ++ W) [45] = W := by
    unfold Lib.trimPrefix Lib.hasPrefix
    rw [e2]
    split
    · simp
    · rename_i hn
      have := head_dig e3
      rw [if_neg]; · rfl
      cases W with
      | nil => simp
      | cons b r => simp [List.isPrefixOf] at this ⊢; exact fun e => this e.symm
  have hx : (W = sg ++ W) = (¬ m < 0) := by
    rw [e2]
    by_cases hm0 : m < 0
    · simp only [if_pos hm0]
      refine propext ⟨fun h => ?_, fun h => absurd hm0 h⟩
      have := congrArg List.length h
      simp at this
    · simp [hm0]
  have hv : (if W = sg ++ W then valL 0 (W ++ P) else -valL 0 (W ++ P)) = m := by
    rw [e7]
    unfold absZ
    by_cases hm0 : m < 0
    · rw [if_neg (by rw [hx]; simpa using hm0), if_pos hm0]; omega
    · rw [if_pos (by rw [hx]; exact hm0), if_neg hm0]
  simp only [parseI, hc, hu, hv, e6]
  rw [if_neg]
  · simp
  · simp only [List.all_append, e3, e4, within, Bool.and_self, Bool.not_true, Bool.or_false, Bool.or_eq_true, bne_iff_ne, decide_eq_true_eq, Bool.not_eq_true', not_or]
    refine ⟨?_, by omega, ?_⟩
    · by_cases hd : d = 0
      · subst hd; decide
      · have : 0 < d := by omega
        simp [hd, this]
    · simp; omega
theorem parseS_units (m : Int) {d : Int} (h0 : 0 ≤ d) (h9 : d ≤ 9) (hm : absZ m / pw10 d < 1000000000) : parseS (unitsL m d) = (m, d, true) := by
  obtain ⟨sg, W, P, e1, e2, e3, e4, e5, e6, e7, e8, e9⟩ := units_dot m h0 h9
  have hW := e8 9 (by omega) hm
  have hb : bodyS (unitsL m d) = sg ++ (W ++ P) := by
    unfold bodyS
    rw [e9]
    by_cases hd : d = 0
    · have : P = [] := List.eq_nil_of_length_eq_zero (by omega)
      rw [if_pos hd] at e1
      rw [if_pos hd, e1, this]; simp
    · rw [if_neg hd]
      rw [if_neg hd] at e1
      simp only [e1, take_dot, drop_dot]
      simp
  have hdg : digsS (unitsL m d) = d := by
    unfold digsS
    rw [e9]
    by_cases hd : d = 0
    · simp [hd]
    · rw [if_neg hd]
      simp only [e1, if_neg hd]
      simp
      omega
  have hWP : (W ++ P).all digB = true := by simp [e3, e4]
  have hr : restS (sg ++ (W ++ P)) = W ++ P := by
    unfold restS
    rw [e2]
    by_cases hm0 : m < 0
    · simp [hm0]
    · rw [if_neg hm0, List.nil_append, if_neg (head_dig hWP)]
  have hs : signS (sg ++ (W ++ P)) = if m < 0 then -1 else 1 := by
    unfold signS
    rw [e2]
    by_cases hm0 : m < 0
    · simp [hm0]
    · rw [if_neg hm0, if_neg hm0, if_neg (by simpa using head_dig hWP)]
  have hv : valL 0 (W ++ P) * (if m < 0 then -1 else 1) = m := by
    rw [e7]; unfold absZ; split <;> omega
  simp only [parseS, hb, hdg, hr, hs, hv, hWP]
  rw [if_neg (by simp; omega)]
  simp

-- read rd3
/-- A decimal number, rounded down and rounded up. -/
def fixRead (p : Int × Int × Bool) : Int × Int × Bool := if p.2.2 && ((fixFloor p.1 (pw10 p.2.1)).2 && (fixCeil p.1 (pw10 p.2.1)).2) then ((fixFloor p.1 (pw10 p.2.1)).1, (fixCeil p.1 (pw10 p.2.1)).1, true) else (0, 0, false)
theorem valL_in : ∀ {l : List UInt8}, l.all digB = true → 0 ≤ valL 0 l ∧ valL 0 l < pw10 l.length
  | [], _ => by simp [valL, pw10]
  | b :: r, h => by
    simp only [List.all_cons, Bool.and_eq_true] at h
    have i1 := valL_in h.2
    have hb := h.1
    simp only [digB, Bool.and_eq_true, decide_eq_true_eq] at hb
    have h1 := pw10_s (n := (r.length : Int)) (by omega)
    have e : ((b :: r).length : Int) = r.length + 1 := by simp
    rw [e, h1]
    simp only [valL]
    rw [valL_lin]
    have h2 : (0 : Int) ≤ 10 * 0 + ((b.toNat : Int) - 48) ∧ (10 * 0 + ((b.toNat : Int) - 48)) ≤ 9 := by omega
    generalize 10 * 0 + ((b.toNat : Int) - 48) = c at h2 ⊢
    have h3 : 0 < pw10 r.length := by omega
    have h4 := Int.mul_le_mul_of_nonneg_right h2.2 (Int.le_of_lt h3)
    have h5 := Int.mul_nonneg h2.1 (Int.le_of_lt h3)
    omega
theorem pw10_mono {a b : Int} (h0 : 0 ≤ a) (h : a ≤ b) (hb : b ≤ 18) : pw10 a ≤ pw10 b := by
  have : ∀ x : Nat, x < 19 → ∀ y : Nat, y < 19 → x ≤ y → (10 : Int) ^ x ≤ 10 ^ y := by decide
  exact this a.toNat (by omega) b.toNat (by omega) (by omega)
theorem pw10_add {a b : Int} (h0 : 0 ≤ a) (h1 : 0 ≤ b) : pw10 (a + b) = pw10 a * pw10 b := by
  unfold pw10
  rw [show (a + b).toNat = a.toNat + b.toNat by omega, Int.pow_add]
theorem parseI_out {s : List UInt8} (h : (parseI s).2.2 = true) : ∃ m d : Int, 0 ≤ d ∧ d ≤ 9 ∧ absZ m / pw10 d < 1000000000 ∧ s = unitsL m d := by
  unfold parseI at h
  simp only at h
  split at h
  · cases h
  · rename_i hc
    simp only [decide_eq_true_eq] at h
    simp only [Bool.or_eq_true, bne_iff_ne, decide_eq_true_eq, Bool.not_eq_true', not_or, within, Bool.and_eq_false_iff, decide_eq_false_iff_not, Bool.not_eq_false] at hc
    obtain ⟨c1, c2, c3, c4⟩ := hc
    generalize Lib.trimPrefix (Lib.cut s [46]).fst [45] = un at h c3 c4
    generalize (Lib.cut s [46]).snd.fst = pt at h c2 c4 c3
    generalize (Lib.cut s [46]).fst = w0 at h
    obtain ⟨v1, v2⟩ := valL_in c4
    have hl : ((un ++ pt).length : Int) = un.length + pt.length := by simp
    rw [hl, pw10_add (by omega) (by omega)] at v2
    have h9 : pw10 (un.length : Int) ≤ pw10 9 := pw10_mono (by omega) (by omega) (by omega)
    have hp := pw10_in (n := (pt.length : Int)) (by omega)
    refine ⟨if un = w0 then valL 0 (un ++ pt) else -valL 0 (un ++ pt), pt.length, by omega, by omega, ?_, h.symm⟩
    have ha : absZ (if un = w0 then valL 0 (un ++ pt) else -valL 0 (un ++ pt)) = valL 0 (un ++ pt) := by
      unfold absZ; split <;> split <;> omega
    rw [ha]
    have h99 : pw10 9 = 1000000000 := by decide
    have := Int.mul_le_mul_of_nonneg_right h9 (show 0 ≤ pw10 (pt.length : Int) by omega)
    exact Int.ediv_lt_of_lt_mul (by omega) (by rw [h99] at this; omega)
theorem dotAt_lt : ∀ {l : List UInt8} {i : Nat}, dotAt l = some i → i < l.length
  | b :: r, i, h => by
    simp only [dotAt] at h
    split at h
    · simp at h; subst h; simp
    · cases hr : dotAt r with
      | none => rw [hr] at h; cases h
      | some j =>
        rw [hr] at h
        simp at h
        have := dotAt_lt hr
        simp; omega
theorem digsS_nn (s : List UInt8) : 0 ≤ digsS s := by
  unfold digsS
  split
  · rename_i i h
    have := dotAt_lt h
    omega
  · omega
theorem parseS_out {s : List UInt8} (h : (parseS s).2.2 = true) : ∃ m d : Int, 0 ≤ d ∧ d ≤ 9 ∧ s = unitsL m d ∧ parseS s = (m, d, true) := by
  unfold parseS at h ⊢
  simp only at h ⊢
  split at h
  · cases h
  rename_i c1
  rw [if_neg c1]
  split at h
  · cases h
  rename_i c2
  rw [if_neg c2]
  split at h
  · cases h
  rename_i c3
  rw [if_neg c3]
  simp only [ne_eq, Decidable.not_not] at c3
  simp only [Bool.or_eq_true, decide_eq_true_eq, not_or] at c1
  exact ⟨_, _, digsS_nn s, by omega, c3.symm, rfl⟩
theorem floor_great {m d : Int} (h0 : 0 ≤ d) (h9 : d ≤ 9) (h : (fixFloor m (pw10 d)).2 = true) : absZ m / pw10 d < 1000000000 := by
  have hp := pw10_in (n := d) (by omega)
  unfold fixFloor at h
  have hf := fixed_out h
  have hok : fixOk (mulDiv m 4294967296 (pw10 d)).1 = true := by
    unfold fixed at h
    split at h
    · rename_i hh; simp at hh; exact hh.2
    · cases h
  have h2 := hf.2
  unfold mulDiv at h2 hok
  rw [if_pos (by omega)] at h2 hok
  unfold wideInt at h2 hok
  split at h2
  · rename_i hw
    rw [if_pos hw] at hok
    simp only [fixOk, within, Bool.and_eq_true, decide_eq_true_eq] at hok
    generalize hP : pw10 d = P at hok hp ⊢
    have hP0 : 0 < P := by omega
    have k1 := Int.mul_ediv_add_emod (m * 4294967296) P
    have k2 := Int.emod_nonneg (m * 4294967296) (show P ≠ 0 by omega)
    have k3 := Int.emod_lt_of_pos (m * 4294967296) hP0
    generalize m * 4294967296 / P = q at hok k1
    have l1 : P * q ≤ P * 1152921504606846976 := Int.mul_le_mul_of_nonneg_left hok.2 (by omega)
    have l2 : P * (-1152921504606846976) ≤ P * q := Int.mul_le_mul_of_nonneg_left hok.1 (by omega)
    refine Int.ediv_lt_of_lt_mul hP0 ?_
    unfold absZ
    split <;> omega
  · cases h2
theorem read_eq (s : List UInt8) : fixRead (parseS s) = fixRead (parseI s) := by
  cases hI : (parseI s).2.2 with
  | true =>
    obtain ⟨m, d, h0, h9, hm, rfl⟩ := parseI_out hI
    rw [parseS_units m h0 h9 hm, parseI_units m h0 h9 hm]
  | false =>
    have e1 : fixRead (parseI s) = (0, 0, false) := by unfold fixRead; simp [hI]
    rw [e1]
    cases hS : (parseS s).2.2 with
    | false => unfold fixRead; simp [hS]
    | true =>
      obtain ⟨m, d, h0, h9, hs, hp⟩ := parseS_out hS
      unfold fixRead
      rw [hp]
      simp only
      cases hf : (fixFloor m (pw10 d)).2 with
      | false => simp
      | true =>
        have hm := floor_great h0 h9 hf
        rw [hs, parseI_units m h0 h9 hm] at hI
        cases hI
/-- The read number's text. -/
theorem read_units {s : List UInt8} (h : (fixRead (parseI s)).2.2 = true) : ∃ m d : Int, 0 ≤ d ∧ d ≤ 9 ∧ absZ m / pw10 d < 1000000000 ∧ s = unitsL m d := by
  refine parseI_out ?_
  unfold fixRead at h
  split at h
  · rename_i hc; simp at hc; exact hc.1
  · cases h
theorem read_chars {s : List UInt8} (h : (fixRead (parseI s)).2.2 = true) : 1 ≤ s.length ∧ (∀ x ∈ s, x ≠ 44) ∧ ∀ x ∈ s, x ≠ 32 := by
  obtain ⟨m, d, h0, h9, _, rfl⟩ := read_units h
  obtain ⟨sg, W, P, e1, e2, e3, e4, e5, e6, _⟩ := units_parts m h0 h9
  rw [e1]
  have key : ∀ c : UInt8, digB c = false → c ≠ 45 → c ≠ 46 → ∀ x ∈ sg ++ W ++ (if d = 0 then [] else [46] ++ P), x ≠ c := by
    intro c c1 c2 c3 x hx
    rw [List.mem_append, List.mem_append] at hx
    rcases hx with (hx | hx) | hx
    · rw [e2] at hx
      split at hx
      · simp at hx; subst hx; exact c2.symm
      · cases hx
    · exact dig_ne e3 c1 x hx
    · split at hx
      · cases hx
      · rw [List.singleton_append, List.mem_cons] at hx
        rcases hx with rfl | hx
        · exact c3.symm
        · exact dig_ne e4 c1 x hx
  exact ⟨by simp only [List.length_append]; omega, key 44 (by decide) (by decide) (by decide), key 32 (by decide) (by decide) (by decide)⟩

-- read rd4
def readF (s : List UInt8) : Int × Int × Bool := fixRead (parseI s)
/-- impl's reading of an interval. -/
def ivI (s : List UInt8) : Iv × Bool :=
  if s = wholeL then (whole, true) else
  let i1 := Lib.trimPrefix s [91]
  let i2 := Lib.trimSuffix i1 [93]
  let c := Lib.cut i2 [44, 32]
  if !Lib.hasPrefix s [91] || (!Lib.hasSuffix i1 [93] || (!c.2.2 || (!(readF c.1).2.2 || (!(readF c.2.1).2.2 || !okI ⟨(readF c.1).1, (readF c.2.1).2.1⟩)))) then (⟨0, 0⟩, false)
  else (⟨(readF c.1).1, (readF c.2.1).2.1⟩, true)
/-- The parts of a text between bytes. -/
def splitL (b : UInt8) : List UInt8 → List (List UInt8)
  | [] => [[]]
  | x :: r => if x = b then [] :: splitL b r else match splitL b r with
    | w :: ws => (x :: w) :: ws
    | [] => [[x]]
theorem splitL_none {b : UInt8} : ∀ {l : List UInt8}, (∀ x ∈ l, x ≠ b) → splitL b l = [l]
  | [], _ => rfl
  | x :: r, h => by
    simp only [splitL]
    rw [if_neg (h x (by simp)), splitL_none (fun y hy => h y (by simp [hy]))]
theorem splitL_hit {b : UInt8} : ∀ {l r : List UInt8}, (∀ x ∈ l, x ≠ b) → splitL b (l ++ b :: r) = l :: splitL b r
  | [], r, _ => by simp [splitL]
  | x :: l, r, h => by
    simp only [List.cons_append, splitL]
    rw [if_neg (h x (by simp)), splitL_hit (fun y hy => h y (by simp [hy]))]
theorem splitL_ne {b : UInt8} : ∀ (l : List UInt8), splitL b l ≠ []
  | [] => by simp [splitL]
  | x :: r => by
    simp only [splitL]
    split
    · simp
    · split <;> simp
theorem splitL_one {b : UInt8} : ∀ {l w : List UInt8}, splitL b l = [w] → l = w
  | [], w, h => by simp [splitL] at h; exact h.symm
  | x :: r, w, h => by
    simp only [splitL] at h
    split at h
    · have := splitL_ne (b := b) r
      simp at h; exact absurd h.2 this
    · split at h
      · rename_i w' ws hs
        simp at h
        obtain ⟨rfl, rfl⟩ := h
        rw [splitL_one hs]
      · rename_i hs; exact absurd hs (splitL_ne r)
theorem splitL_two {b : UInt8} : ∀ {l w v : List UInt8}, splitL b l = [w, v] → l = w ++ b :: v
  | [], w, v, h => by simp [splitL] at h
  | x :: r, w, v, h => by
    simp only [splitL] at h
    split at h
    · rename_i e
      simp at h
      obtain ⟨rfl, h⟩ := h
      rw [splitL_one h, e]; rfl
    · split at h
      · rename_i w' ws hs
        simp at h
        obtain ⟨rfl, rfl⟩ := h
        rw [splitL_two hs]; rfl
      · rename_i hs; exact absurd hs (splitL_ne r)
/-- spec's. -/
def ivS (s : List UInt8) : Iv × Bool :=
  if s = wholeL then (whole, true) else
  if decide ((s.length : Int) < 6) || (decide (s.head? ≠ some 91) || decide (s.getLast? ≠ some 93)) then (⟨0, 0⟩, false) else
  match splitL 32 ((s.take (s.length - 1)).drop 1) with
  | [w, v] => if decide ((w.length : Int) < 2) || decide (w.getLast? ≠ some 44) then (⟨0, 0⟩, false) else
    if !(readF (w.take (w.length - 1))).2.2 || (!(readF v).2.2 || !okI ⟨(readF (w.take (w.length - 1))).1, (readF v).2.1⟩) then (⟨0, 0⟩, false)
    else (⟨(readF (w.take (w.length - 1))).1, (readF v).2.1⟩, true)
  | _ => (⟨0, 0⟩, false)
def formL (x y : List UInt8) : List UInt8 := [91] ++ (x ++ ([44, 32] ++ y)) ++ [93]
def ivG (x y : List UInt8) : Iv × Bool := if okI ⟨(readF x).1, (readF y).2.1⟩ then (⟨(readF x).1, (readF y).2.1⟩, true) else (⟨0, 0⟩, false)
theorem index_comma : ∀ {x y : List UInt8}, (∀ c ∈ x, c ≠ 44) → Lib.index (x ++ ([44, 32] ++ y)) [44, 32] = x.length
  | [], y, _ => by simp [Lib.index, List.isPrefixOf]
  | b :: x, y, h => by
    have ih := @index_comma x y (fun c hc => h c (by simp [hc]))
    have hb : (44 == b) = false := by simpa using fun e : 44 = b => h b (by simp) e.symm
    rw [List.cons_append, Lib.index, ih]
    have : ¬ ((x.length : Int) = -1) := by omega
    simp [hb, List.isPrefixOf, this]
theorem form_ne (x y : List UInt8) : formL x y ≠ wholeL := by
  intro h
  have := congrArg List.head? h
  simp [formL, wholeL] at this
theorem ivI_form {x y : List UInt8} (hx : (readF x).2.2 = true) (hy : (readF y).2.2 = true) : ivI (formL x y) = ivG x y := by
  have cx := (read_chars hx).2.1
  have h1 : Lib.hasPrefix (formL x y) [91] = true := by simp [Lib.hasPrefix, formL, List.isPrefixOf]
  have h2 : Lib.trimPrefix (formL x y) [91] = x ++ ([44, 32] ++ y) ++ [93] := by
    unfold Lib.trimPrefix; rw [if_pos h1]; simp [formL]
  have h3 : Lib.hasSuffix (x ++ ([44, 32] ++ y) ++ [93]) [93] = true := by
    unfold Lib.hasSuffix
    rw [List.isSuffixOf_iff_suffix]
    exact List.suffix_append _ _
  have h4 : Lib.trimSuffix (x ++ ([44, 32] ++ y) ++ [93]) [93] = x ++ ([44, 32] ++ y) := by
    unfold Lib.trimSuffix; rw [if_pos h3]
    have e : (x ++ ([44, 32] ++ y) ++ [93]).length - List.length [(93 : UInt8)] = (x ++ ([44, 32] ++ y)).length := by simp
    have e' := List.take_left (l₁ := x ++ ([44, 32] ++ y)) (l₂ := [93])
    rw [← e] at e'
    exact e'
  have h5 : Lib.cut (x ++ ([44, 32] ++ y)) [44, 32] = (x, y, true) := by
    unfold Lib.cut
    rw [index_comma cx, if_pos (by omega)]
    simp only [Int.toNat_natCast, List.take_left]
    rw [show x.length + ([44, 32] : List UInt8).length = (x ++ [44, 32]).length by simp, ← List.append_assoc, List.drop_left]
  unfold ivI ivG
  rw [if_neg (form_ne x y)]
  simp only [h1, h2, h3, h4, h5, hx, hy, Bool.not_true, Bool.false_or]
  cases okI ⟨(readF x).1, (readF y).2.1⟩ <;> simp
theorem ivI_out {s : List UInt8} (h0 : s ≠ wholeL) (h : ivI s ≠ (⟨0, 0⟩, false)) : ∃ x y, s = formL x y ∧ (readF x).2.2 = true ∧ (readF y).2.2 = true := by
  unfold ivI at h
  rw [if_neg h0] at h
  simp only at h
  split at h
  · exact absurd rfl h
  · rename_i hc
    simp only [Bool.or_eq_true, Bool.not_eq_true', not_or, Bool.not_eq_false] at hc
    obtain ⟨c1, c2, c3, c4, c5, _⟩ := hc
    refine ⟨_, _, ?_, c4, c5⟩
    have e1 : s = [91] ++ Lib.trimPrefix s [91] := by
      unfold Lib.trimPrefix
      rw [if_pos c1]
      unfold Lib.hasPrefix at c1
      obtain ⟨t, ht⟩ := List.isPrefixOf_iff_prefix.1 c1
      rw [← ht]; simp
    generalize Lib.trimPrefix s [91] = i1 at e1 c2 c3 ⊢
    have e2 : i1 = Lib.trimSuffix i1 [93] ++ [93] := by
      unfold Lib.trimSuffix
      rw [if_pos c2]
      unfold Lib.hasSuffix at c2
      obtain ⟨t, ht⟩ := List.isSuffixOf_iff_suffix.1 c2
      rw [← ht]; simp
    generalize Lib.trimSuffix i1 [93] = i2 at e2 c3 ⊢
    have e3 : i2 = (Lib.cut i2 [44, 32]).1 ++ ([44, 32] ++ (Lib.cut i2 [44, 32]).2.1) := by
      unfold Lib.cut at c3 ⊢
      split at c3
      · rename_i hi
        rw [if_pos hi]
        rcases Lib.index_spec i2 [44, 32] with ⟨hh, _⟩ | ⟨i, hh, hle, hocc, _⟩
        · rw [hh] at hi; omega
        · rw [hh]
          simp only [Int.toNat_natCast]
          unfold Lib.occAt at hocc
          obtain ⟨t, ht⟩ := List.isPrefixOf_iff_prefix.1 hocc
          have h6 : i2.drop (i + ([44, 32] : List UInt8).length) = t := by
            rw [← List.drop_drop, ← ht]; rfl
          rw [h6, ht, List.take_append_drop]
      · cases c3
    unfold formL
    rw [← e3, List.append_assoc, ← e2]; exact e1
theorem ivS_form {x y : List UInt8} (hx : (readF x).2.2 = true) (hy : (readF y).2.2 = true) : ivS (formL x y) = ivG x y := by
  obtain ⟨x1, x2, x3⟩ := read_chars hx
  obtain ⟨y1, y2, y3⟩ := read_chars hy
  have hlen : (formL x y).length = x.length + y.length + 4 := by simp [formL]; omega
  have hmid : ((formL x y).take ((formL x y).length - 1)).drop 1 = (x ++ [44]) ++ 32 :: y := by
    have : (formL x y).take ((formL x y).length - 1) = [91] ++ (x ++ ([44, 32] ++ y)) := by
      unfold formL
      rw [show ([91] ++ (x ++ ([44, 32] ++ y)) ++ [93] : List UInt8).length - 1 = ([91] ++ (x ++ ([44, 32] ++ y))).length by simp; omega, List.take_left]
    rw [this]; simp
  have hs : splitL 32 ((x ++ [44]) ++ 32 :: y) = [x ++ [44], y] := by
    rw [splitL_hit, splitL_none y3]
    intro c hc
    rw [List.mem_append] at hc
    rcases hc with hc | hc
    · exact x3 c hc
    · simp at hc; subst hc; decide
  unfold ivS ivG
  rw [if_neg (form_ne x y), if_neg, hmid, hs]
  · have e1 : (x ++ [44]).take ((x ++ [44]).length - 1) = x := by simp
    simp only [e1, hx, hy]
    rw [if_neg]
    · cases okI ⟨(readF x).1, (readF y).2.1⟩ <;> simp
    · simp; omega
  · have k1 : (formL x y).head? = some 91 := by simp [formL]
    have k2 : (formL x y).getLast? = some 93 := by unfold formL; rw [List.getLast?_append]; rfl
    rw [k1, k2, hlen]
    simp
    omega
theorem ivS_out {s : List UInt8} (h0 : s ≠ wholeL) (h : ivS s ≠ (⟨0, 0⟩, false)) : ∃ x y, s = formL x y ∧ (readF x).2.2 = true ∧ (readF y).2.2 = true := by
  unfold ivS at h
  rw [if_neg h0] at h
  split at h
  · exact absurd rfl h
  · rename_i hc
    simp only [Bool.or_eq_true, decide_eq_true_eq, not_or, ne_eq, Decidable.not_not] at hc
    obtain ⟨c1, c2, c3⟩ := hc
    split at h
    · rename_i w v hs
      split at h
      · exact absurd rfl h
      · rename_i hw
        simp only [Bool.or_eq_true, decide_eq_true_eq, not_or, ne_eq, Decidable.not_not] at hw
        split at h
        · exact absurd rfl h
        · rename_i hr
          simp only [Bool.or_eq_true, Bool.not_eq_true', not_or, Bool.not_eq_false] at hr
          refine ⟨_, _, ?_, hr.1, hr.2.1⟩
          have e1 := splitL_two hs
          have last : ∀ {l : List UInt8} {c : UInt8}, l.getLast? = some c → l = l.take (l.length - 1) ++ [c] := by
            intro l c hl
            obtain ⟨t, rfl⟩ := List.getLast?_eq_some_iff.1 hl
            simp
          have e2 := last hw.2
          have e3 := last c3
          have e4 : s.take (s.length - 1) = 91 :: (s.take (s.length - 1)).drop 1 := by
            cases s with
            | nil => cases c2
            | cons a t =>
              simp at c2; subst c2
              cases t with
              | nil => simp at c1
              | cons b t => simp
          have e5 : s = 91 :: (w ++ 32 :: v) ++ [93] := by
            rw [← e1, ← e4]; exact e3
          rw [e5]
          unfold formL
          have : w ++ 32 :: v = w.take (w.length - 1) ++ ([44, 32] ++ v) := by
            conv => lhs; rw [e2]
            simp
          rw [this]; simp
    · exact absurd rfl h
theorem iv_eq (s : List UInt8) : ivS s = ivI s := by
  by_cases h0 : s = wholeL
  · unfold ivS ivI; rw [if_pos h0, if_pos h0]
  by_cases hx : ∃ x y, s = formL x y ∧ (readF x).2.2 = true ∧ (readF y).2.2 = true
  · obtain ⟨x, y, rfl, h1, h2⟩ := hx
    rw [ivS_form h1 h2, ivI_form h1 h2]
  · have k1 : ivS s = (⟨0, 0⟩, false) := Classical.byContradiction fun h => hx (ivS_out h0 h)
    have k2 : ivI s = (⟨0, 0⟩, false) := Classical.byContradiction fun h => hx (ivI_out h0 h)
    rw [k1, k2]

-- read contracts
def F_readDigs : FT
  | [.c (.p (.str s))], _ => some ((s.data.toList).length ≤ 1048576, .tup [.c (.p (.int .i64 ((parseI (s.data.toList)).1))), .c (.p (.int .i64 ((parseI (s.data.toList)).2.1))), .c (.p (.bool ((parseI (s.data.toList)).2.2)))], [])
  | _, _ => none
theorem F_readDigs_eq {s : ByteArray} {g : List PC} : F_readDigs [.c (.p (.str s))] g = some ((s.data.toList).length ≤ 1048576, .tup [.c (.p (.int .i64 ((parseI (s.data.toList)).1))), .c (.p (.int .i64 ((parseI (s.data.toList)).2.1))), .c (.p (.bool ((parseI (s.data.toList)).2.2)))], []) := rfl
def F_readFix : FT
  | [.c (.p (.str s))], _ => some ((s.data.toList).length ≤ 1048576, .tup [.c (.p (.int .i64 ((readF (s.data.toList)).1))), .c (.p (.int .i64 ((readF (s.data.toList)).2.1))), .c (.p (.bool ((readF (s.data.toList)).2.2)))], [])
  | _, _ => none
theorem F_readFix_eq {s : ByteArray} {g : List PC} : F_readFix [.c (.p (.str s))] g = some ((s.data.toList).length ≤ 1048576, .tup [.c (.p (.int .i64 ((readF (s.data.toList)).1))), .c (.p (.int .i64 ((readF (s.data.toList)).2.1))), .c (.p (.bool ((readF (s.data.toList)).2.2)))], []) := rfl
def F_readIv : FT
  | [.c (.p (.str s))], _ => some ((s.data.toList).length ≤ 1048576, .tup [.agg [.int .i64 (((ivI (s.data.toList)).1)).lo, .int .i64 (((ivI (s.data.toList)).1)).hi], .c (.p (.bool ((ivI (s.data.toList)).2)))], [])
  | _, _ => none
theorem F_readIv_eq {s : ByteArray} {g : List PC} : F_readIv [.c (.p (.str s))] g = some ((s.data.toList).length ≤ 1048576, .tup [.agg [.int .i64 (((ivI (s.data.toList)).1)).lo, .int .i64 (((ivI (s.data.toList)).1)).hi], .c (.p (.bool ((ivI (s.data.toList)).2)))], []) := rfl

-- read cut
theorem cut_len (s p : List UInt8) : (Lib.cut s p).1.length ≤ s.length ∧ (Lib.cut s p).2.1.length ≤ s.length := by
  unfold Lib.cut
  split
  · simp; omega
  · simp
theorem pre_len (s p : List UInt8) : (Lib.trimPrefix s p).length ≤ s.length := by
  unfold Lib.trimPrefix; split <;> simp
theorem suf_len (s p : List UInt8) : (Lib.trimSuffix s p).length ≤ s.length := by
  unfold Lib.trimSuffix; split <;> simp
theorem drop_while_nil {α : Type} (p : α → Bool) : ∀ {l : List α}, l.dropWhile p = [] ↔ l.all p = true
  | [] => by simp
  | a :: l => by
    rw [List.dropWhile_cons]
    cases h : p a with
    | true => simp [h, drop_while_nil p (l := l)]
    | false => simp [h]
theorem trimS_nil {l cs : List UInt8} : Lib.trimS l cs = [] ↔ l.all (cs.contains ·) = true := by
  unfold Lib.trimS Lib.trimLeftS Lib.trimRightS
  rw [drop_while_nil]
  constructor
  · intro h
    by_cases h2 : (l.reverse.dropWhile fun x => cs.contains x) = []
    · rw [drop_while_nil] at h2; simpa using h2
    · exfalso
      cases h3 : l.reverse.dropWhile (fun x => cs.contains x) with
      | nil => exact h2 h3
      | cons a t =>
        have h4 := List.head_dropWhile_not (fun x => cs.contains x) (l := l.reverse) (by rw [h3]; simp)
        rw [h3] at h
        simp only [h3, List.head_cons] at h4
        rw [List.all_reverse, List.all_cons, h4] at h
        cases h
  · intro h
    have h2 : l.reverse.dropWhile (fun x => cs.contains x) = [] := by rw [drop_while_nil]; simpa using h
    rw [h2]; rfl
theorem dig_in (b : UInt8) : [48, 49, 50, 51, 52, 53, 54, 55, 56, 57].contains b = digB b := by
  have : ∀ n : Nat, n < 256 → [48, 49, 50, 51, 52, 53, 54, 55, 56, 57].contains (UInt8.ofNat n) = digB (UInt8.ofNat n) := by decide
  have := this b.toNat (by have := b.toNat_lt; omega)
  simpa using this
theorem trim_dig (l : List UInt8) : decide (Lib.trimS l [48, 49, 50, 51, 52, 53, 54, 55, 56, 57] = []) = l.all digB := by
  have h := @trimS_nil l [48, 49, 50, 51, 52, 53, 54, 55, 56, 57]
  simp only [dig_in] at h
  rw [Bool.eq_iff_iff, decide_eq_true_eq, h]

-- strings.CutPrefix
theorem strings_CutPrefix_cutPre_ok : Fn Tryz.prog 37 F_cutPre := by
  refine ⟨enters_of Tryz.func37 (by kernel_rfl) rfl, fun args g pre r new hF hp hwf G w hG => ?_⟩
  unfold F_cutPre at hF
  clear hwf
  split at hF
  · rename_i s p
    simp only [Option.some.injEq, Prod.mk.injEq] at hF
    obtain ⟨rfl, hr, rfl⟩ := hF
    refine (Go.Proofs.Tryz.strings_CutPrefix s p w).mono ?_
    rintro e w' ⟨rfl, rfl⟩
    subst hr
    exact ⟨[], rfl, hr_plain (Below.refl _ _), fun x hx => by simp at hx; rcases hx with rfl | rfl <;> trivial⟩
  · cases hF

-- strings.CutSuffix
theorem strings_CutSuffix_cutSuf_ok : Fn Tryz.prog 38 F_cutSuf := by
  refine ⟨enters_of Tryz.func38 (by kernel_rfl) rfl, fun args g pre r new hF hp hwf G w hG => ?_⟩
  unfold F_cutSuf at hF
  clear hwf
  split at hF
  · rename_i s p
    simp only [Option.some.injEq, Prod.mk.injEq] at hF
    obtain ⟨rfl, hr, rfl⟩ := hF
    have hs : s.size = s.data.toList.length := by (rw [Array.length_toList]; rfl)
    refine (Go.Proofs.Tryz.strings_CutSuffix s p w (by omega)).mono ?_
    rintro e w' ⟨rfl, rfl⟩
    subst hr
    exact ⟨[], rfl, hr_plain (Below.refl _ _), fun x hx => by simp at hx; rcases hx with rfl | rfl <;> trivial⟩
  · cases hF

-- strings.TrimPrefix
theorem strings_TrimPrefix_trimPre_ok : Fn Tryz.prog 90 F_trimPre := by
  refine ⟨enters_of Tryz.func90 (by kernel_rfl) rfl, fun args g pre r new hF hp hwf G w hG => ?_⟩
  unfold F_trimPre at hF
  clear hwf
  split at hF
  · rename_i s p
    simp only [Option.some.injEq, Prod.mk.injEq] at hF
    obtain ⟨rfl, hr, rfl⟩ := hF
    refine (Go.Proofs.Tryz.strings_TrimPrefix s p w).mono ?_
    rintro e w' ⟨rfl, rfl⟩
    subst hr
    exact ⟨[], rfl, hr_plain (Below.refl _ _), trivial⟩
  · cases hF

-- strings.Cut
theorem strings_Cut_cutTwo_ok : Fn Tryz.prog 39 F_cutTwo := by
  refine ⟨enters_of Tryz.func39 (by kernel_rfl) rfl, fun args g pre r new hF hp hwf G w hG => ?_⟩
  unfold F_cutTwo at hF
  clear hwf
  split at hF
  · rename_i s p
    simp only [Option.some.injEq, Prod.mk.injEq] at hF
    obtain ⟨rfl, hr, rfl⟩ := hF
    obtain ⟨_, m, hm⟩ := hG.tabs.int (0, .i64) (by simp [laidInts])
    have hs : s.size = s.data.toList.length := by (rw [Array.length_toList]; rfl)
    refine (Go.Proofs.Tryz.strings_Cut s p m w (by omega) hm).mono ?_
    rintro e w' ⟨rfl, k, rfl⟩
    subst hr
    exact ⟨[], rfl, hr_plain ⟨rfl, rfl, rfl, Nat.le_refl _, fun _ _ => rfl⟩, fun x hx => by simp at hx; rcases hx with rfl | rfl | rfl <;> trivial⟩
  · cases hF

-- strings.Trim
theorem strings_Trim_trimDig_ok : Fn Tryz.prog 91 F_trimDig := by
  refine ⟨enters_of Tryz.func91 (by kernel_rfl) rfl, fun args g pre r new hF hp hwf G w hG => ?_⟩
  unfold F_trimDig at hF
  clear hwf
  split at hF
  · rename_i s c
    simp only [Option.some.injEq, Prod.mk.injEq] at hF
    obtain ⟨rfl, hr, rfl⟩ := hF
    obtain ⟨h0, h1⟩ := hp
    have hs : s.size = s.data.toList.length := by (rw [Array.length_toList]; rfl)
    have hc : c.size = c.data.toList.length := by (rw [Array.length_toList]; rfl)
    rw [h1] at hc
    refine (Any.strings_Trim_laid Tryz.lays160 (by kernel_rfl) s c w (by omega) (by rw [hc]; decide) (by rw [h1]; exact ascii_of_all (by decide))).mono ?_
    rintro e w' ⟨rfl, hb⟩
    subst hr
    exact ⟨[], rfl, hr_plain hb, trivial⟩
  · cases hF

end Go.Proofs.YtcnapkdccjibpaaGreatDoor.Eng
