/- What functions of the program compute, and that the program computes it: part 19. -/
import Derived.Test.YtcnapkdccjibpaaGreatDoorTab
import Derived.Test.YtcnapkdccjibpaaGreatDoorEng16
import Derived.Laws.BitsLemmas
import Derived.Laws.Bits64
import Derived.Laws.Bits64b
import Derived.Lib.Mul64
import Derived.Lib.BitFns
import Derived.Laws.Externs
import Derived.Test.YtcnapkdccjibpaaGreatDoorL1
import Derived.Test.YtcnapkdccjibpaaGreatDoorL2
import Derived.Test.YtcnapkdccjibpaaGreatDoorL16
import Derived.Test.YtcnapkdccjibpaaGreatDoorL17
import Derived.Test.YtcnapkdccjibpaaGreatDoorL18
namespace Go.Proofs.YtcnapkdccjibpaaGreatDoor.Eng
open Go Go.RowKit
set_option linter.unusedVariables false
set_option linter.unusedSimpArgs false
set_option maxRecDepth 100000
set_option maxHeartbeats 1000000
-- def draws
def dL (m : Addr → Option PC) (a : Option Addr) (n : Nat) : Nat → Int → Sr → Int × Sr
  | 0, y, s => (y, s)
  | k + 1, y, s => dL m a n k (256 * y + srV m a n s) (srN m a n s)
def drawL : List Int := [0, 1, -1, 4294967296, -4294967296, 8589934592, 2147483648, 1152921504606846976, -1152921504606846976, 1152921504606846975]
def dr3 (m : Addr → Option PC) (a : Option Addr) (n : Nat) (q : Int) (s : Sr) : Int × Sr :=
  if q = 0 then (amV drawL (pkV m a n 10 s), pkN m a n 10 s)
  else if q = 1 then ((pkV m a n 400 s - 200) * 4294967296, pkN m a n 400 s)
  else if q = 2 then (pkV m a n 1000 s - 500, pkN m a n 1000 s)
  else dL m a n (3 + pkV m a n 3 (srN m a n s)).toNat (srV m a n s - 128) (pkN m a n 3 (srN m a n s))
def d03 (m : Addr → Option PC) (a : Option Addr) (n : Nat) (s : Sr) : Int × Sr := dr3 m a n (pkV m a n 8 s) (pkN m a n 8 s)
theorem dL_in {m : Addr → Option PC} {a : Option Addr} {n : Nat} : ∀ (k : Nat) {y : Int} {s : Sr} {b : Int}, k ≤ 5 → -(2 ^ (7 + 8 * (5 - k))) ≤ y → y ≤ 2 ^ (7 + 8 * (5 - k)) - 1 → SrOk m a n b s → -140737488355328 ≤ (dL m a n k y s).1 ∧ (dL m a n k y s).1 ≤ 140737488355327 ∧ SrOk m a n (b + k) (dL m a n k y s).2
  | 0, y, s, b, hk, h0, h1, hs => by
    have e : (2 : Int) ^ (7 + 8 * (5 - 0)) = 140737488355328 := by decide
    rw [e] at h0 h1
    exact ⟨h0, by simp only [dL]; omega, hs.mono (by omega)⟩
  | k + 1, y, s, b, hk, h0, h1, hs => by
    have hv := srV_in (x := s) hs.1 hs.2.2.1
    have e : (2 : Int) ^ (7 + 8 * (5 - k)) = 2 ^ (7 + 8 * (5 - (k + 1))) * 256 := by
      have e1 : 7 + 8 * (5 - k) = 7 + 8 * (5 - (k + 1)) + 8 := by omega
      rw [e1, Int.pow_add]; rfl
    have := dL_in k (y := 256 * y + srV m a n s) (by omega) (by rw [e]; omega) (by rw [e]; omega) (srN_ok hs)
    rw [dL]
    exact ⟨this.1, this.2.1, this.2.2.mono (by omega)⟩
theorem amV10 {v : Int} (h : 0 ≤ v ∧ v < 10) : -1152921504606846976 ≤ amV drawL v ∧ amV drawL v ≤ 1152921504606846976 := by
  obtain rfl | rfl | rfl | rfl | rfl | rfl | rfl | rfl | rfl | rfl : v = 0 ∨ v = 1 ∨ v = 2 ∨ v = 3 ∨ v = 4 ∨ v = 5 ∨ v = 6 ∨ v = 7 ∨ v = 8 ∨ v = 9 := by omega
  all_goals decide
theorem dr3_in {m : Addr → Option PC} {a : Option Addr} {n : Nat} {q b : Int} {s : Sr} (hs : SrOk m a n b s) : -1152921504606846976 ≤ (dr3 m a n q s).1 ∧ (dr3 m a n q s).1 ≤ 1152921504606846976 ∧ SrOk m a n (b + 10) (dr3 m a n q s).2 := by
  unfold dr3
  split
  · have hb := pkV_in (m := m) (a := a) (n := n) (k := 10) (x := s)
    have := amV10 ⟨hb.1, hb.2 (by omega)⟩
    exact ⟨this.1, this.2, (pkN_ok hs).mono (by omega)⟩
  · split
    · have hb := pkV_in (m := m) (a := a) (n := n) (k := 400) (x := s)
      have := hb.2 (by omega)
      exact ⟨by simp only; omega, by simp only; omega, (pkN_ok hs).mono (by omega)⟩
    · split
      · have hb := pkV_in (m := m) (a := a) (n := n) (k := 1000) (x := s)
        have := hb.2 (by omega)
        exact ⟨by simp only; omega, by simp only; omega, (pkN_ok hs).mono (by omega)⟩
      · have hv := srV_in (x := s) hs.1 hs.2.2.1
        have hb := pkV_in (m := m) (a := a) (n := n) (k := 3) (x := srN m a n s)
        have hb2 := hb.2 (by omega)
        have h7 : (128 : Int) ≤ 2 ^ (7 + 8 * (5 - (3 + pkV m a n 3 (srN m a n s)).toNat)) := by
          have : (2 : Nat) ^ 7 ≤ 2 ^ (7 + 8 * (5 - (3 + pkV m a n 3 (srN m a n s)).toNat)) := Nat.pow_le_pow_right (by omega) (by omega)
          exact_mod_cast this
        have := dL_in (m := m) (a := a) (n := n) (3 + pkV m a n 3 (srN m a n s)).toNat (y := srV m a n s - 128) (by omega) (by omega) (by omega) (pkN_ok (k := 3) (srN_ok hs))
        exact ⟨by omega, by omega, this.2.2.mono (by omega)⟩
theorem d03_in {m : Addr → Option PC} {a : Option Addr} {n : Nat} {b : Int} {s : Sr} (hs : SrOk m a n b s) : -1152921504606846976 ≤ (d03 m a n s).1 ∧ (d03 m a n s).1 ≤ 1152921504606846976 ∧ SrOk m a n (b + 12) (d03 m a n s).2 := by
  have := dr3_in (q := pkV m a n 8 s) (pkN_ok (k := 8) hs)
  exact ⟨this.1, this.2.1, this.2.2.mono (by omega)⟩
def d03O (m : Addr → Option PC) (h : Heap) (i : Nat) : Option (Option Addr × Nat × Nat × Sr) → Option (Prop × SV × Heap)
  | some (a, n, c, x) => some (SrOk m a n 800000000 x, .v (.c (.p (.int .i64 (d03 m a n x).1))), h.set i (srC a n c (d03 m a n x).2))
  | none => none
def M_draw3 : MT := fun m args h => match args with
  | [.c (.ptr (.own i 0))] => d03O m h i (srOf h[i]?)
  | _ => none
theorem M_draw3_eq {m : Addr → Option PC} {h : Heap} {i : Nat} : M_draw3 m [.c (.ptr (.own i 0))] h = d03O m h i (srOf h[i]?) := rfl
theorem d03O_some {m : Addr → Option PC} {h : Heap} {i : Nat} {a : Option Addr} {n c : Nat} {x : Sr} : d03O m h i (some (a, n, c, x)) = some (SrOk m a n 800000000 x, .v (.c (.p (.int .i64 (d03 m a n x).1))), h.set i (srC a n c (d03 m a n x).2)) := rfl

theorem one_draw3 : OneM M_draw3 := by
  intro m args h p r h' hM
  unfold M_draw3 at hM
  split at hM
  · rename_i i
    cases hs : srOf h[i]? with
    | none => rw [hs] at hM; cases hM
    | some t =>
      obtain ⟨a, n, c, x⟩ := t
      rw [hs] at hM
      simp only [d03O, Option.some.injEq, Prod.mk.injEq] at hM
      obtain ⟨_, _, rfl⟩ := hM
      exact ⟨_, rfl, fun j hj => by rw [List.getElem?_set_ne (Ne.symm hj)]⟩
  · cases hM

-- def draws4
def d4w (m : Addr → Option PC) (a : Option Addr) (n : Nat) (q : Int) (s : Sr) : Int × Sr :=
  if q = 0 then (0, s) else if q = 1 then (pkV m a n 20 s, pkN m a n 20 s) else if q = 2 then (4294967296 * (1 + pkV m a n 6 s), pkN m a n 6 s)
  else if q = 3 then (2 ^ (pkV m a n 40 s).toNat, pkN m a n 40 s) else (pkV m a n 60000 s, pkN m a n 60000 s)
def d04 (m : Addr → Option PC) (a : Option Addr) (n : Nat) (s : Sr) : Iv × Sr :=
  (mkI (d03 m a n s).1 ((d03 m a n s).1 + (d4w m a n (pkV m a n 6 (d03 m a n s).2) (pkN m a n 6 (d03 m a n s).2)).1), (d4w m a n (pkV m a n 6 (d03 m a n s).2) (pkN m a n 6 (d03 m a n s).2)).2)
theorem pow40 {v : Int} (h : 0 ≤ v ∧ v < 40) : (1 : Int) ≤ 2 ^ v.toNat ∧ (2 : Int) ^ v.toNat ≤ 549755813888 := by
  have h1 : (1 : Int) ≤ 2 ^ v.toNat := Int.pow_pos (by omega)
  have h2 : (2 : Int) ^ v.toNat ≤ 2 ^ 39 := by
    have : (2 : Nat) ^ v.toNat ≤ 2 ^ 39 := Nat.pow_le_pow_right (by omega) (by omega)
    exact_mod_cast this
  have c39 : (2 : Int) ^ 39 = 549755813888 := by decide
  rw [c39] at h2
  exact ⟨h1, h2⟩
theorem d4w_in {m : Addr → Option PC} {a : Option Addr} {n : Nat} {q b : Int} {s : Sr} (hs : SrOk m a n b s) : 0 ≤ (d4w m a n q s).1 ∧ (d4w m a n q s).1 ≤ 549755813888 ∧ SrOk m a n (b + 2) (d4w m a n q s).2 := by
  have b1 := pkV_in (m := m) (a := a) (n := n) (k := 20) (x := s)
  have b2 := pkV_in (m := m) (a := a) (n := n) (k := 6) (x := s)
  have b3 := pkV_in (m := m) (a := a) (n := n) (k := 40) (x := s)
  have b4 := pkV_in (m := m) (a := a) (n := n) (k := 60000) (x := s)
  have c1 := b1.2 (by omega)
  have c2 := b2.2 (by omega)
  have c4 := b4.2 (by omega)
  have p := pow40 ⟨b3.1, b3.2 (by omega)⟩
  unfold d4w
  split
  · exact ⟨by simp only; omega, by simp only; omega, hs.mono (by omega)⟩
  · split
    · exact ⟨by simp only; omega, by simp only; omega, pkN_ok hs⟩
    · split
      · exact ⟨by simp only; omega, by simp only; omega, pkN_ok hs⟩
      · split
        · exact ⟨by simp only; omega, by simp only; omega, pkN_ok hs⟩
        · exact ⟨by simp only; omega, by simp only; omega, pkN_ok hs⟩
theorem d04_ok {m : Addr → Option PC} {a : Option Addr} {n : Nat} {b : Int} {s : Sr} (hs : SrOk m a n b s) : SrOk m a n (b + 20) (d04 m a n s).2 :=
  (d4w_in (pkN_ok (d03_in hs).2.2)).2.2.mono (by omega)
def d04O (m : Addr → Option PC) (h : Heap) (i : Nat) : Option (Option Addr × Nat × Nat × Sr) → Option (Prop × SV × Heap)
  | some (a, n, c, x) => some (SrOk m a n 700000000 x, .v (.agg [.int .i64 (d04 m a n x).1.lo, .int .i64 (d04 m a n x).1.hi]), h.set i (srC a n c (d04 m a n x).2))
  | none => none
def M_draw4 : MT := fun m args h => match args with
  | [.c (.ptr (.own i 0))] => d04O m h i (srOf h[i]?)
  | _ => none
theorem M_draw4_eq {m : Addr → Option PC} {h : Heap} {i : Nat} : M_draw4 m [.c (.ptr (.own i 0))] h = d04O m h i (srOf h[i]?) := rfl
theorem d04O_some {m : Addr → Option PC} {h : Heap} {i : Nat} {a : Option Addr} {n c : Nat} {x : Sr} : d04O m h i (some (a, n, c, x)) = some (SrOk m a n 700000000 x, .v (.agg [.int .i64 (d04 m a n x).1.lo, .int .i64 (d04 m a n x).1.hi]), h.set i (srC a n c (d04 m a n x).2)) := rfl

theorem one_draw4 : OneM M_draw4 := by
  intro m args h p r h' hM
  unfold M_draw4 at hM
  split at hM
  · rename_i i
    cases hs : srOf h[i]? with
    | none => rw [hs] at hM; cases hM
    | some t =>
      obtain ⟨a, n, c, x⟩ := t
      rw [hs] at hM
      simp only [d04O, Option.some.injEq, Prod.mk.injEq] at hM
      obtain ⟨_, _, rfl⟩ := hM
      exact ⟨_, rfl, fun j hj => by rw [List.getElem?_set_ne (Ne.symm hj)]⟩
  · cases hM

-- def small draws
def smLo (m : Addr → Option PC) (a : Option Addr) (n : Nat) (most : Int) (s : Sr) : Int := (pkV m a n (2 * most + 1) s - most) * 4294967296 + pkV m a n 65536 (pkN m a n (2 * most + 1) s) * 65536
def smS (m : Addr → Option PC) (a : Option Addr) (n : Nat) (most : Int) (s : Sr) : Sr := pkN m a n 65536 (pkN m a n (2 * most + 1) s)
def sm4 (m : Addr → Option PC) (a : Option Addr) (n : Nat) (most : Int) (s : Sr) : Iv × Sr :=
  if pkV m a n 2 (smS m a n most s) = 0 then (⟨smLo m a n most s, smLo m a n most s⟩, pkN m a n 2 (smS m a n most s))
  else (⟨smLo m a n most s, smLo m a n most s + pkV m a n 5000 (pkN m a n 2 (smS m a n most s))⟩, pkN m a n 5000 (pkN m a n 2 (smS m a n most s)))
theorem smLo_in {m : Addr → Option PC} {a : Option Addr} {n : Nat} {most : Int} {s : Sr} (hm : 0 ≤ most ∧ most ≤ 1000) : -(most * 4294967296) ≤ smLo m a n most s ∧ smLo m a n most s ≤ most * 4294967296 + 4294901760 := by
  have b1 := pkV_in (m := m) (a := a) (n := n) (k := 2 * most + 1) (x := s)
  have b2 := pkV_in (m := m) (a := a) (n := n) (k := 65536) (x := pkN m a n (2 * most + 1) s)
  have c1 := b1.2 (by omega)
  have c2 := b2.2 (by omega)
  unfold smLo
  omega
theorem sm4_in {m : Addr → Option PC} {a : Option Addr} {n : Nat} {most b : Int} {s : Sr} (hs : SrOk m a n b s) (hm : 0 ≤ most ∧ most ≤ 1000) : okI (sm4 m a n most s).1 = true ∧ -(most * 4294967296) ≤ (sm4 m a n most s).1.lo ∧ (sm4 m a n most s).1.hi ≤ most * 4294967296 + 4294906760 ∧ (sm4 m a n most s).1.hi - (sm4 m a n most s).1.lo < 5000 ∧ SrOk m a n (b + 8) (sm4 m a n most s).2 := by
  have h := smLo_in (m := m) (a := a) (n := n) (s := s) hm
  have h1 := pkN_ok (k := 2) (pkN_ok (k := 65536) (pkN_ok (k := 2 * most + 1) hs))
  have b3 := pkV_in (m := m) (a := a) (n := n) (k := 5000) (x := pkN m a n 2 (smS m a n most s))
  have c3 := b3.2 (by omega)
  unfold sm4
  split
  · exact ⟨by rw [okI_mk]; omega, by simp only; omega, by simp only; omega, by simp only; omega, h1.mono (by omega)⟩
  · exact ⟨by rw [okI_mk]; omega, by simp only; omega, by simp only; omega, by simp only; omega, (pkN_ok h1).mono (by omega)⟩
def sm4O (m : Addr → Option PC) (h : Heap) (i : Nat) (most : Int) : Option (Option Addr × Nat × Nat × Sr) → Option (Prop × SV × Heap)
  | some (a, n, c, x) => some (SrOk m a n 700000000 x ∧ 0 ≤ most ∧ most ≤ 1000, .v (.agg [.int .i64 (sm4 m a n most x).1.lo, .int .i64 (sm4 m a n most x).1.hi]), h.set i (srC a n c (sm4 m a n most x).2))
  | none => none
def M_small : MT := fun m args h => match args with
  | [.c (.ptr (.own i 0)), .c (.p (.int .i64 most))] => sm4O m h i most (srOf h[i]?)
  | _ => none
theorem M_small_eq {m : Addr → Option PC} {h : Heap} {i : Nat} {most : Int} : M_small m [.c (.ptr (.own i 0)), .c (.p (.int .i64 most))] h = sm4O m h i most (srOf h[i]?) := rfl
theorem sm4O_some {m : Addr → Option PC} {h : Heap} {i : Nat} {most : Int} {a : Option Addr} {n c : Nat} {x : Sr} : sm4O m h i most (some (a, n, c, x)) = some (SrOk m a n 700000000 x ∧ 0 ≤ most ∧ most ≤ 1000, .v (.agg [.int .i64 (sm4 m a n most x).1.lo, .int .i64 (sm4 m a n most x).1.hi]), h.set i (srC a n c (sm4 m a n most x).2)) := rfl

theorem one_small : OneM M_small := by
  intro m args h p r h' hM
  unfold M_small at hM
  split at hM
  · rename_i i k
    cases hs : srOf h[i]? with
    | none => rw [hs] at hM; cases hM
    | some t =>
      obtain ⟨a, n, c, x⟩ := t
      rw [hs] at hM
      simp only [sm4O, Option.some.injEq, Prod.mk.injEq] at hM
      obtain ⟨_, _, rfl⟩ := hM
      exact ⟨_, rfl, fun j hj => by rw [List.getElem?_set_ne (Ne.symm hj)]⟩
  · cases hM

-- def A2Intervals
def goodI (D : Iv) : Bool := okI D && (decide (-288230376151711744 ≤ D.lo) && decide (D.hi ≤ 288230376151711744))
def triA (m : Addr → Option PC) (a : Option Addr) (n : Nat) (s : Sr) : Iv × Sr := if goodI (d04 m a n s).1 then d04 m a n s else sm4 m a n 50 (d04 m a n s).2
def triF (m : Addr → Option PC) (a : Option Addr) (n : Nat) (A : Iv) (s : Sr) : Int := A.lo + pkV m a n (min (A.hi - A.lo) 60000 + 1) s
def triT (m : Addr → Option PC) (a : Option Addr) (n : Nat) (A : Iv) (f : Int) (s : Sr) : Int := f + pkV m a n (min (A.hi - f) 60000 + 1) s
/-- An interval, a part of it, and how the source stands behind them. -/
def triP (m : Addr → Option PC) (a : Option Addr) (n : Nat) (A : Iv) (s : Sr) : Iv × Sr :=
  (⟨triF m a n A s, triT m a n A (triF m a n A s) (pkN m a n (min (A.hi - A.lo) 60000 + 1) s)⟩, pkN m a n (min (A.hi - triF m a n A s) 60000 + 1) (pkN m a n (min (A.hi - A.lo) 60000 + 1) s))
def tri (m : Addr → Option PC) (a : Option Addr) (n : Nat) (s : Sr) : Iv × Iv × Sr := ((triA m a n s).1, triP m a n (triA m a n s).1 (triA m a n s).2)
theorem goodI_iff {D : Iv} : goodI D = true ↔ okI D = true ∧ -288230376151711744 ≤ D.lo ∧ D.hi ≤ 288230376151711744 := by simp [goodI]
theorem triA_in {m : Addr → Option PC} {a : Option Addr} {n : Nat} {b : Int} {s : Sr} (hs : SrOk m a n b s) : goodI (triA m a n s).1 = true ∧ SrOk m a n (b + 30) (triA m a n s).2 := by
  have h1 := d04_ok hs
  unfold triA
  split
  · rename_i h; exact ⟨h, h1.mono (by omega)⟩
  · have h2 := sm4_in (most := 50) h1 (by omega)
    have h3 := okI_iff.1 h2.1
    exact ⟨goodI_iff.2 ⟨h2.1, by omega, by omega⟩, h2.2.2.2.2.mono (by omega)⟩
theorem triF_in {m : Addr → Option PC} {a : Option Addr} {n : Nat} {A : Iv} {s : Sr} (h : A.lo ≤ A.hi) : A.lo ≤ triF m a n A s ∧ triF m a n A s ≤ A.hi := by
  have hb := pkV_in (m := m) (a := a) (n := n) (k := min (A.hi - A.lo) 60000 + 1) (x := s)
  have := hb.2 (by omega)
  unfold triF
  omega
theorem triT_in {m : Addr → Option PC} {a : Option Addr} {n : Nat} {A : Iv} {f : Int} {s : Sr} (h : f ≤ A.hi) : f ≤ triT m a n A f s ∧ triT m a n A f s ≤ A.hi := by
  have hb := pkV_in (m := m) (a := a) (n := n) (k := min (A.hi - f) 60000 + 1) (x := s)
  have := hb.2 (by omega)
  unfold triT
  omega
theorem tri_in {m : Addr → Option PC} {a : Option Addr} {n : Nat} {b : Int} {s : Sr} (hs : SrOk m a n b s) : goodI (tri m a n s).1 = true ∧ Part (tri m a n s).2.1 (tri m a n s).1 ∧ SrOk m a n (b + 40) (tri m a n s).2.2 := by
  have h1 := triA_in hs
  have h2 := goodI_iff.1 h1.1
  have h3 := okI_iff.1 h2.1
  have f := triF_in (m := m) (a := a) (n := n) (s := (triA m a n s).2) h3.2.1
  have t := triT_in (m := m) (a := a) (n := n) (s := pkN m a n (min ((triA m a n s).1.hi - (triA m a n s).1.lo) 60000 + 1) (triA m a n s).2) f.2
  refine ⟨h1.1, ⟨?_, h2.1, f.1, t.2⟩, (pkN_ok (pkN_ok h1.2)).mono (by omega)⟩
  show okI ⟨_, _⟩ = true
  rw [okI_mk]; omega
def t1 (m : Addr → Option PC) (a : Option Addr) (n : Nat) : Iv × Iv × Sr := tri m a n ⟨0, 0⟩
def t2 (m : Addr → Option PC) (a : Option Addr) (n : Nat) : Iv × Iv × Sr := tri m a n (t1 m a n).2.2
def t3 (m : Addr → Option PC) (a : Option Addr) (n : Nat) : Iv × Iv × Sr := tri m a n (t2 m a n).2.2
def c2 (x : Iv) : List PC := [.int .i64 x.lo, .int .i64 x.hi]
def c4 (x y : Iv) : List PC := [.int .i64 x.lo, .int .i64 x.hi, .int .i64 y.lo, .int .i64 y.hi]
def c6 (x y z : Iv) : List PC := [.int .i64 x.lo, .int .i64 x.hi, .int .i64 y.lo, .int .i64 y.hi, .int .i64 z.lo, .int .i64 z.hi]
def M_a2 : MT := fun m args h => match args, h with
  | [.c (.p (.sl a n c))], [] => some (Told m a n ∧ n ≤ 1048576, .tup [.c (.row 0 0 3 2), .c (.row 1 0 3 2)], [c6 (t1 m a n).1 (t2 m a n).1 (t3 m a n).1, c6 (t1 m a n).2.1 (t2 m a n).2.1 (t3 m a n).2.1])
  | _, _ => none
theorem M_a2_eq {m : Addr → Option PC} {a : Option Addr} {n c : Nat} : M_a2 m [.c (.p (.sl a n c))] [] = some (Told m a n ∧ n ≤ 1048576, .tup [.c (.row 0 0 3 2), .c (.row 1 0 3 2)], [c6 (t1 m a n).1 (t2 m a n).1 (t3 m a n).1, c6 (t1 m a n).2.1 (t2 m a n).2.1 (t3 m a n).2.1]) := rfl
section
variable {m : Addr → Option PC} {s a1 a2 b1 b2 u1 u2 v1 v2 w1 w2 x1 x2 y1 y2 p1 p2 q1 q2 z1 z2 : PC} {S : List PC}
theorem a2_app0 : appO [S, [], [], [a1, a2], [u1, u2]] m (some (tdRow [z1, z2])) (some [.c (.emp 1 0), .c (.row 4 0 1 2)]) = some (some (.v (.c (.row 5 0 1 2))), [S, [], [], [a1, a2], [u1, u2], [u1, u2]]) := rfl
theorem a2_app1 : appO [S, [], [], [a1, a2], [u1, u2], [x1, x2], [v1, v2]] m (some (tdRow [z1, z2])) (some [.c (.emp 2 0), .c (.row 6 0 1 2)]) = some (some (.v (.c (.row 7 0 1 2))), [S, [], [], [a1, a2], [u1, u2], [x1, x2], [v1, v2], [v1, v2]]) := rfl
variable {A T L U P : List PC}
theorem a2_app2 : appO [S, [], [], A, T, [x1, x2], U, P, [b1, b2], [u1, u2]] m (some (tdRow [z1, z2])) (some [.c (.row 5 0 1 2), .c (.row 9 0 1 2)]) = some (some (.v (.c (.row 10 0 2 2))), [S, [], [], A, T, [], U, P, [b1, b2], [u1, u2], [x1, x2, u1, u2]]) := rfl
theorem a2_app3 : appO [S, [], [], A, T, [], U, [y1, y2], [b1, b2], [u1, u2], L, [v1, v2]] m (some (tdRow [z1, z2])) (some [.c (.row 7 0 1 2), .c (.row 11 0 1 2)]) = some (some (.v (.c (.row 12 0 2 2))), [S, [], [], A, T, [], U, [], [b1, b2], [u1, u2], L, [v1, v2], [y1, y2, v1, v2]]) := rfl
variable {A' T' U' : List PC}
theorem a2_app4 : appO [S, [], [], A, T, [], U, [], A', T', [x1, x2, y1, y2], U', P, [b1, b2], [u1, u2]] m (some (tdRow [z1, z2])) (some [.c (.row 10 0 2 2), .c (.row 14 0 1 2)]) = some (some (.v (.c (.row 15 0 3 2))), [S, [], [], A, T, [], U, [], A', T', [], U', P, [b1, b2], [u1, u2], [x1, x2, y1, y2, u1, u2]]) := rfl
theorem a2_app5 : appO [S, [], [], A, T, [], U, [], A', T', [], U', [x1, x2, y1, y2], [b1, b2], [u1, u2], L, [v1, v2]] m (some (tdRow [z1, z2])) (some [.c (.row 12 0 2 2), .c (.row 16 0 1 2)]) = some (some (.v (.c (.row 17 0 3 2))), [S, [], [], A, T, [], U, [], A', T', [], U', [], [b1, b2], [u1, u2], L, [v1, v2], [x1, x2, y1, y2, v1, v2]]) := rfl
end
def a2I (m : Addr → Option PC) (a : Option Addr) (n c : Nat) (k : Nat) (e : Env) (h : Heap) : Prop := match k with
  | 0 => h = [srC a n c ⟨0, 0⟩, [], []] ∧ look e 5 = some (.v (.c (.emp 1 0))) ∧ look e 6 = some (.v (.c (.emp 2 0)))
  | 1 => (∃ A T U, h = [srC a n c (t1 m a n).2.2, [], [], A, T, c2 (t1 m a n).1, U, c2 (t1 m a n).2.1]) ∧ look e 5 = some (.v (.c (.row 5 0 1 2))) ∧ look e 6 = some (.v (.c (.row 7 0 1 2)))
  | 2 => (∃ A T U A' T' U', h = [srC a n c (t2 m a n).2.2, [], [], A, T, [], U, [], A', T', c4 (t1 m a n).1 (t2 m a n).1, U', c4 (t1 m a n).2.1 (t2 m a n).2.1]) ∧ look e 5 = some (.v (.c (.row 10 0 2 2))) ∧ look e 6 = some (.v (.c (.row 12 0 2 2)))
  | _ => (∃ A T U A' T' U' A'' T'' U'', h = [srC a n c (t3 m a n).2.2, [], [], A, T, [], U, [], A', T', [], U', [], A'', T'', c6 (t1 m a n).1 (t2 m a n).1 (t3 m a n).1, U'', c6 (t1 m a n).2.1 (t2 m a n).2.1 (t3 m a n).2.1]) ∧ look e 5 = some (.v (.c (.row 15 0 3 2))) ∧ look e 6 = some (.v (.c (.row 17 0 3 2)))

theorem a2_end {s A T U A' T' U' A'' T'' U'' L P : List PC} (hL : L ≠ []) (hP : P ≠ []) : endM 0 (.tup [.c (.row 0 0 3 2), .c (.row 1 0 3 2)]) [L, P] [s, [], [], A, T, [], U, [], A', T', [], U', [], A'', T'', L, U'', P] (some [.c (.row 15 0 3 2), .c (.row 17 0 3 2)]) := by
  refine ⟨⟨[15, 17], ?_, ?_, by simp, by simp, by simp, by simp, ?_⟩⟩
  · simp [resSV, SV.ren, AV.ren]
  · intro x hx
    simp at hx
    rcases hx with rfl | rfl <;> simp [AV.plain]
  · intro j k ds hj hd hne
    cases j with
    | zero => simp at hj hd; subst hj; subst hd; simp
    | succ j =>
      cases j with
      | zero => simp at hj hd; subst hj; subst hd; simp
      | succ j => simp at hj

end Go.Proofs.YtcnapkdccjibpaaGreatDoor.Eng
