/- What functions of the program compute, and that the program computes it: part 26. -/
import Derived.Test.YtcnapkdccjibpaaGreatDoorTab
import Derived.Test.YtcnapkdccjibpaaGreatDoorEng16
import Derived.Laws.BitsLemmas
import Derived.Laws.Bits64
import Derived.Laws.Bits64b
import Derived.Lib.Mul64
import Derived.Lib.BitFns
import Derived.Laws.Externs
import Derived.Test.YtcnapkdccjibpaaGreatDoorL7
import Derived.Test.YtcnapkdccjibpaaGreatDoorL20
import Derived.Test.YtcnapkdccjibpaaGreatDoorL21
import Derived.Test.YtcnapkdccjibpaaGreatDoorL23
import Derived.Test.YtcnapkdccjibpaaGreatDoorL25
namespace Go.Proofs.YtcnapkdccjibpaaGreatDoor.Eng
open Go Go.RowKit
set_option linter.unusedVariables false
set_option linter.unusedSimpArgs false
set_option maxRecDepth 100000
set_option maxHeartbeats 1000000
-- plain truth6
theorem Bd.divn {a e : Rat} (h : Bd a e) (n : Nat) : Bd (a / ((n + 1 : Nat) : Rat)) (e / ((n + 1 : Nat) : Rat)) := by
  have hp : (0 : Rat) < ((n + 1 : Nat) : Rat) := Rat.natCast_pos.2 (Nat.succ_pos n)
  have hi : (0 : Rat) ≤ ((n + 1 : Nat) : Rat)⁻¹ := Rat.le_of_lt (Rat.inv_pos.2 hp)
  have h2 := h.mul (y := ((n + 1 : Nat) : Rat)⁻¹) (e := ((n + 1 : Nat) : Rat)⁻¹) ⟨by grind, Rat.le_refl⟩
  rw [Rat.div_def, Rat.div_def]
  exact h2
theorem tm_lip {x y : Rat} (hx : Bd x 1) (hy : Bd y 1) (h : x ≤ y) : ∀ (n : Nat), Bd (tmR y (n + 1) - tmR x (n + 1)) ((y - x) * tmR 1 n)
  | 0 => by
    have e1 : ∀ z : Rat, tmR z (0 + 1) = z := fun z => by
      have : ((0 + 1 : Nat) : Rat) = 1 := rfl
      rw [tmR, this, tmR]; grind
    rw [e1, e1, tmR]
    unfold Bd; grind
  | n + 1 => by
    have ih := tm_lip hx hy h n
    have h1 := (tm_bd hy (n + 1)).mul (y := y - x) (e := y - x) (by unfold Bd; grind)
    have h2 := ih.mul hx
    have h3 := (h1.add h2).divn (n + 1)
    have hs := tm_succ 1 n
    have e1 : (tmR y (n + 1) * (y - x) + (tmR y (n + 1) - tmR x (n + 1)) * x) / ((n + 1 + 1 : Nat) : Rat) = tmR y (n + 1 + 1) - tmR x (n + 1 + 1) := by
      have ht : ∀ z : Rat, tmR z (n + 1 + 1) = tmR z (n + 1) * z / ((n + 1 + 1 : Nat) : Rat) := fun z => rfl
      rw [ht, ht]
      clear h3 h2 h1 ih hs
      generalize tmR y (n + 1) = a
      generalize tmR x (n + 1) = b
      generalize ((n + 1 + 1 : Nat) : Rat) = p
      grind
    have e2 : (tmR 1 (n + 1) * (y - x) + (y - x) * tmR 1 n * 1) / ((n + 1 + 1 : Nat) : Rat) = (y - x) * tmR 1 (n + 1) := by
      have e3 : tmR 1 n = ((n + 1 : Nat) : Rat) * tmR 1 (n + 1) := by grind
      have e4 : ((n + 1 + 1 : Nat) : Rat) = ((n + 1 : Nat) : Rat) + 1 := by
        rw [Rat.natCast_add]; rfl
      have hn := cast_ne (n + 1)
      rw [e3]
      clear h3 h2 h1 ih hs e1 e3
      generalize tmR 1 (n + 1) = a at *
      generalize ((n + 1 + 1 : Nat) : Rat) = p at *
      generalize ((n + 1 : Nat) : Rat) = q at *
      grind
    rw [e1, e2] at h3
    exact h3
theorem tm_lip2 {x y : Rat} (h0 : 0 ≤ x) (hy : y ≤ 1) (h : x ≤ y) : ∀ (n : Nat), Bd (tmR y (2 * n + 2) - tmR x (2 * n + 2)) ((y * y - x * x) / 2 * tmR 1 (2 * n + 1))
  | 0 => by
    have e1 : ∀ z : Rat, tmR z (2 * 0 + 2) = z * z / 2 := fun z => by
      have a1 : ((0 + 1 : Nat) : Rat) = 1 := rfl
      have a2 : ((0 + 1 + 1 : Nat) : Rat) = 2 := rfl
      show tmR z (0 + 1 + 1) = _
      rw [tmR, tmR, tmR, a1, a2]; grind
    have e2 : tmR 1 (2 * 0 + 1) = 1 := by decide +kernel
    rw [e1, e1, e2]
    have := mul_mid (p := 0) (q := y) (u := x) (v := x)
    have := sq_mono h0 h
    unfold Bd; grind
  | n + 1 => by
    have ih := tm_lip2 h0 hy h n
    have hsq := sq_mono h0 h
    have hx2 : Bd (x * x) 1 := by
      have := sq_mono h0 (show x ≤ 1 by grind)
      have := sq_nonneg x
      unfold Bd; grind
    have hd : Bd (y * y - x * x) (y * y - x * x) := by unfold Bd; grind
    have hy1 : Bd y 1 := by unfold Bd; grind
    have h1 := (tm_bd hy1 (2 * n + 2)).mul hd
    have h2 := ih.mul hx2
    have h3 := ((h1.add h2).divn (2 * n + 2)).divn (2 * n + 3)
    have hn := cast_ne (2 * n + 2)
    have hm := cast_ne (2 * n + 3)
    have e1 : (tmR y (2 * n + 2) * (y * y - x * x) + (tmR y (2 * n + 2) - tmR x (2 * n + 2)) * (x * x)) / ((2 * n + 2 + 1 : Nat) : Rat) / ((2 * n + 3 + 1 : Nat) : Rat) = tmR y (2 * (n + 1) + 2) - tmR x (2 * (n + 1) + 2) := by
      have : ∀ z : Rat, tmR z (2 * (n + 1) + 2) = tmR z (2 * n + 2) * z / ((2 * n + 2 + 1 : Nat) : Rat) * z / ((2 * n + 3 + 1 : Nat) : Rat) := fun z => rfl
      rw [this, this]
      generalize tmR y (2 * n + 2) = a at *
      generalize tmR x (2 * n + 2) = b at *
      generalize ((2 * n + 2 + 1 : Nat) : Rat) = p at *
      generalize ((2 * n + 3 + 1 : Nat) : Rat) = q at *
      clear h3 h2 h1 ih hx2 hd hy1 hsq
      grind
    have hs1 := tm_succ 1 (2 * n + 1)
    have e2 : (tmR 1 (2 * n + 2) * (y * y - x * x) + (y * y - x * x) / 2 * tmR 1 (2 * n + 1) * 1) / ((2 * n + 2 + 1 : Nat) : Rat) / ((2 * n + 3 + 1 : Nat) : Rat) = (y * y - x * x) / 2 * tmR 1 (2 * (n + 1) + 1) := by
      have t1 : tmR 1 (2 * (n + 1) + 1) = tmR 1 (2 * n + 2) * 1 / ((2 * n + 2 + 1 : Nat) : Rat) := rfl
      have e3 : tmR 1 (2 * n + 1) = ((2 * n + 1 + 1 : Nat) : Rat) * tmR 1 (2 * n + 2) := by grind
      have e4 : ((2 * n + 3 + 1 : Nat) : Rat) = ((2 * n + 1 + 1 : Nat) : Rat) + 2 := by
        rw [show 2 * n + 3 + 1 = (2 * n + 1 + 1) + 2 by omega, Rat.natCast_add]; rfl
      rw [t1, e3]
      clear h3 h2 h1 ih hx2 hd hy1 hsq e1 t1 e3 hs1
      generalize tmR 1 (2 * n + 2) = b at *
      generalize ((2 * n + 2 + 1 : Nat) : Rat) = p at *
      generalize ((2 * n + 3 + 1 : Nat) : Rat) = q at *
      generalize ((2 * n + 1 + 1 : Nat) : Rat) = r at *
      grind
    rw [e1, e2] at h3
    exact h3
def gS (i : Nat) : Rat := if i % 2 = 1 ∧ 3 ≤ i then tmR 1 (i - 1) else 0
def gC (i : Nat) : Rat := if i % 2 = 0 ∧ 4 ≤ i then tmR 1 (i - 1) else 0
theorem gS_num : smR gS 30 ≤ 3/5 := by decide +kernel
theorem gC_num : smR gC 30 ≤ 1/5 := by decide +kernel
theorem pick1 (a : Rat) : smR (fun i => if i = 1 then a else 0) 30 = a := by simp [smR]; grind
theorem pick2 (a : Rat) : smR (fun i => if i = 2 then a else 0) 30 = a := by simp [smR]; grind
theorem sT_strict {x y : Rat} (hx : Bd x 1) (hy : Bd y 1) (h : x ≤ y) : sT x + (y - x) * (2/5) ≤ sT y := by
  have key : Bd (smR (fun i => (fsR y i + -1 * fsR x i) + -1 * (if i = 1 then y - x else 0)) 30) (smR (fun i => (y - x) * gS i) 30) := by
    refine sm_bd 30 fun i _ => ?_
    have hg : ∀ i, 0 ≤ (y - x) * tmR 1 i := fun i => ((tm_lip hx hy h i).nonneg)
    by_cases h1 : i = 1
    · subst h1
      have e1 : ∀ z : Rat, fsR z 1 = z := fun z => by
        have : ((0 + 1 : Nat) : Rat) = 1 := rfl
        unfold fsR; rw [tmR, this, tmR]; simp [sgs]; grind
      rw [e1, e1, if_pos rfl]
      have : gS 1 = 0 := rfl
      rw [this]
      have e : y + -1 * x + -1 * (y - x) = 0 := by grind
      rw [e]; exact Bd.zero (by grind)
    · rw [if_neg h1]
      unfold fsR gS
      by_cases h2 : i % 2 = 1
      · obtain ⟨j, rfl⟩ : ∃ j, i = j + 1 := ⟨i - 1, by omega⟩
        rw [if_pos ⟨h2, by omega⟩]
        have h3 := (sgs_bd (j + 1)).mul (tm_lip hx hy h j)
        rw [Rat.one_mul] at h3
        have e : sgs (j + 1) * tmR y (j + 1) + -1 * (sgs (j + 1) * tmR x (j + 1)) + -1 * 0 = sgs (j + 1) * (tmR y (j + 1) - tmR x (j + 1)) := by grind
        rw [e]; exact h3
      · have : sgs i = 0 := by unfold sgs; rw [if_neg (by omega), if_neg (by omega)]
        rw [this, if_neg (by omega)]
        have e : (0 : Rat) * tmR y i + -1 * (0 * tmR x i) + -1 * 0 = 0 := by grind
        rw [e]; exact Bd.zero (by grind)
  rw [sm_add, sm_add, sm_mul, sm_mul, sm_mul, pick1] at key
  have hn := Rat.mul_le_mul_of_nonneg_left gS_num (show 0 ≤ y - x by grind)
  unfold Bd at key
  unfold sT
  grind
theorem sT_mono {x y : Rat} (hx : Bd x 1) (hy : Bd y 1) (h : x ≤ y) : sT x ≤ sT y := by
  have := sT_strict hx hy h
  grind
theorem cT_mono {x y : Rat} (h0 : 0 ≤ x) (hy : y ≤ 1) (h : x ≤ y) : cT y ≤ cT x := by
  have hsq := sq_mono h0 h
  have key : Bd (smR (fun i => (fcR y i + -1 * fcR x i) + (if i = 2 then (y * y - x * x) / 2 else 0)) 30) (smR (fun i => (y * y - x * x) / 2 * gC i) 30) := by
    refine sm_bd 30 fun i _ => ?_
    by_cases h1 : i = 2
    · subst h1
      have e1 : ∀ z : Rat, fcR z 2 = -(z * z / 2) := fun z => by
        have a1 : ((0 + 1 : Nat) : Rat) = 1 := rfl
        have a2 : ((1 + 1 : Nat) : Rat) = 2 := rfl
        unfold fcR; rw [tmR, tmR, tmR, a1, a2]; simp [sgc]; grind
      rw [e1, e1, if_pos rfl]
      have : gC 2 = 0 := rfl
      rw [this]
      have e : -(y * y / 2) + -1 * -(x * x / 2) + (y * y - x * x) / 2 = 0 := by grind
      rw [e]; exact Bd.zero (by grind)
    · rw [if_neg h1]
      unfold fcR gC
      by_cases h2 : i % 2 = 0
      · by_cases h4 : 4 ≤ i
        · obtain ⟨j, rfl⟩ : ∃ j, i = 2 * j + 2 := ⟨i / 2 - 1, by omega⟩
          rw [if_pos ⟨h2, h4⟩, show 2 * j + 2 - 1 = 2 * j + 1 by omega]
          have h3 := (sgc_bd (2 * j + 2)).mul (tm_lip2 h0 hy h j)
          rw [Rat.one_mul] at h3
          have e : sgc (2 * j + 2) * tmR y (2 * j + 2) + -1 * (sgc (2 * j + 2) * tmR x (2 * j + 2)) + 0 = sgc (2 * j + 2) * (tmR y (2 * j + 2) - tmR x (2 * j + 2)) := by grind
          rw [e]; exact h3
        · have h5 : i = 0 := by omega
          subst h5
          rw [if_neg (by omega)]
          have e : sgc 0 * tmR y 0 + -1 * (sgc 0 * tmR x 0) + 0 = 0 := by rw [tmR, tmR]; grind
          rw [e]; exact Bd.zero (by grind)
      · have : sgc i = 0 := by unfold sgc; rw [if_neg (by omega), if_neg (by omega)]
        rw [this, if_neg (by omega)]
        have e : (0 : Rat) * tmR y i + -1 * (0 * tmR x i) + 0 = 0 := by grind
        rw [e]; exact Bd.zero (by grind)
  rw [sm_add, sm_add, sm_mul, sm_mul, pick2] at key
  have hn := Rat.mul_le_mul_of_nonneg_left gC_num (show 0 ≤ (y * y - x * x) / 2 by grind)
  unfold Bd at key
  unfold cT
  grind
theorem cT_mono' {x y : Rat} (h0 : y ≤ 0) (hx : -1 ≤ x) (h : x ≤ y) : cT x ≤ cT y := by
  have := cT_mono (x := -y) (y := -x) (by grind) (by grind) (by grind)
  rw [cT_neg, cT_neg] at this
  exact this

-- plain truth7
theorem nmA : sT (3/5) ≤ cT (4/5) := by decide +kernel
theorem nmB : -cT (3/5) ≤ sT (-4/5) := by decide +kernel
theorem nmC : 0 ≤ cT (4/5) := by decide +kernel
theorem qT_1 : 4/5 ≤ qT ∧ qT ≤ 8/5 := by constructor <;> decide +kernel
theorem cT_low {x : Rat} (h : Bd x (4/5)) : cT (4/5) ≤ cT x := by
  by_cases h0 : 0 ≤ x
  · exact cT_mono h0 (by decide +kernel) h.2
  · have := cT_mono (x := -x) (y := 4/5) (by grind) (by decide +kernel) (by unfold Bd at h; grind)
    rw [cT_neg] at this; exact this
/-- Where the sine of k quarters and r more rises. -/
def Rises (k : Int) (r : Rat) : Prop := k % 4 = 0 ∨ (k % 4 = 3 ∧ 0 ≤ r) ∨ (k % 4 = 1 ∧ r ≤ 0)
/-- A placeR between two where the sine is greatest. -/
def Peak (i j : Int) (r s : Rat) : Prop := ∃ k : Int, k % 4 = 1 ∧ i ≤ k ∧ k ≤ j ∧ r ≤ ((k - i : Int) : Rat) * qT ∧ ((k - j : Int) : Rat) * qT ≤ s
theorem castR0 : ((0 : Int) : Rat) = 0 := rfl
theorem castR1 : ((1 : Int) : Rat) = 1 := rfl
theorem castR2 : ((2 : Int) : Rat) = 2 := rfl
theorem castm1 : ((-1 : Int) : Rat) = -1 := rfl
theorem back {d : Int} (h : d ≤ -1) {s : Rat} (hs : Bd s (4/5)) : (d : Rat) * qT ≤ s := by
  have h1 := Rat.intCast_le_intCast.2 h
  rw [castm1] at h1
  have h2 := Rat.mul_le_mul_of_nonneg_right h1 (show 0 ≤ qT by have := qT_1; grind)
  have := qT_1
  unfold Bd at hs
  grind
theorem rise_right {i j : Int} {r s : Rat} (hr : Bd r (4/5)) (hs : Bd s (4/5)) (hij : i ≤ j) (hx : r ≤ s + ((j - i : Int) : Rat) * qT) (hR : Rises i r) :
    VV i r ≤ VV j s + (eps + eps) ∨ Peak i j r s := by
  have he : (0 : Rat) ≤ eps := by decide +kernel
  have q := qT_1
  have r1 : Bd r 1 := hr.mono (by decide +kernel)
  have s1 : Bd s 1 := hs.mono (by decide +kernel)
  have step : ∀ {k : Int}, r ≤ s + qT → (3/5 ≤ r) → (k = i) → Bd (VV (k + 1) (r - qT) - VV k r) (eps + eps) ∧ -1 ≤ r - qT ∧ r - qT ≤ 0 := by
    intro k h1 h2 hk
    have h3 := V_shift' (k + 1) hr
    rw [show k + 1 - 1 = k by omega] at h3
    unfold Bd at hr
    exact ⟨h3, by have : qT ≤ 8/5 := q.2; grind, by grind⟩
  obtain rfl | rfl | rfl | h3 : j = i ∨ j = i + 1 ∨ j = i + 2 ∨ i + 3 ≤ j := by omega
  · -- the same quarter
    rw [Int.sub_self, castR0] at hx
    have hx : r ≤ s := by grind
    rcases hR with h | ⟨h, h0⟩ | ⟨h, h0⟩
    · left; rw [V0 h, V0 h]; have := sT_mono r1 s1 hx; grind
    · left; rw [V3 h, V3 h]; have := cT_mono h0 (s1.2) hx; grind
    · by_cases hs0 : 0 ≤ s
      · right; exact ⟨j, h, by omega, by omega, by rw [Int.sub_self, castR0]; grind, by rw [Int.sub_self, castR0]; grind⟩
      · left; rw [V1 h, V1 h]; have := cT_mono' (by grind) (r1.1) hx; grind
  · rw [show i + 1 - i = 1 by omega, castR1] at hx
    have hx : r ≤ s + qT := by grind
    rcases hR with h | ⟨h, h0⟩ | ⟨h, h0⟩
    · by_cases hs0 : 0 ≤ s
      · right; exact ⟨i + 1, by omega, by omega, by omega, by rw [show i + 1 - i = 1 by omega, castR1]; unfold Bd at hr; grind, by rw [Int.sub_self, castR0]; grind⟩
      · left
        rw [V0 h, V1 (show (i + 1) % 4 = 1 by omega)]
        by_cases h5 : 3/5 ≤ r
        · obtain ⟨a, b, c⟩ := step hx h5 rfl
          rw [V0 h, V1 (show (i + 1) % 4 = 1 by omega)] at a
          have := cT_mono' (x := r - qT) (y := s) (by grind) b (by grind)
          unfold Bd at a; grind
        · have a := sT_mono (x := r) (y := 3/5) r1 (by unfold Bd; constructor <;> decide +kernel) (by grind)
          have b := cT_low hs
          have c := nmA
          grind
    · left
      rw [V3 h, V0 (show (i + 1) % 4 = 0 by omega)]
      by_cases h5 : 3/5 ≤ r
      · obtain ⟨a, b, c⟩ := step hx h5 rfl
        rw [V3 h, V0 (show (i + 1) % 4 = 0 by omega)] at a
        have := sT_mono (x := r - qT) (y := s) (by unfold Bd; grind) s1 (by grind)
        unfold Bd at a; grind
      · have a := cT_mono (x := r) (y := 3/5) h0 (by decide +kernel) (by grind)
        have b := sT_mono (x := -4/5) (y := s) (by unfold Bd; constructor <;> decide +kernel) s1 (by unfold Bd at hs; grind)
        have c := nmB
        grind
    · right
      exact ⟨i, h, by omega, by omega, by rw [Int.sub_self, castR0]; grind, back (by omega) hs⟩
  · rcases hR with h | ⟨h, h0⟩ | ⟨h, h0⟩
    · right; exact ⟨i + 1, by omega, by omega, by omega, by rw [show i + 1 - i = 1 by omega, castR1]; unfold Bd at hr; grind, back (by omega) hs⟩
    · left
      rw [V3 h, V1 (show (i + 2) % 4 = 1 by omega)]
      have a := cT_low hs
      have b := cT_low hr
      have c := nmC
      grind
    · right
      exact ⟨i, h, by omega, by omega, by rw [Int.sub_self, castR0]; grind, back (by omega) hs⟩
  · right
    rcases hR with h | ⟨h, h0⟩ | ⟨h, h0⟩
    · exact ⟨i + 1, by omega, by omega, by omega, by rw [show i + 1 - i = 1 by omega, castR1]; unfold Bd at hr; grind, back (by omega) hs⟩
    · exact ⟨i + 2, by omega, by omega, by omega, by rw [show i + 2 - i = 2 by omega, castR2]; unfold Bd at hr; grind, back (by omega) hs⟩
    · exact ⟨i, h, by omega, by omega, by rw [Int.sub_self, castR0]; grind, back (by omega) hs⟩
theorem V_mirror (k : Int) (r : Rat) : VV (2 - k) (-r) = VV k r := by
  have := V_neg1 (k - 1) r
  rw [show -(k - 1) + 1 = 2 - k by omega, show k - 1 + 1 = k by omega] at this
  exact this
theorem rises_or (k : Int) (r : Rat) : Rises k r ∨ Rises (2 - k) (-r) := by
  unfold Rises
  rcases mod4 k with h | h | h | h
  · exact .inl (.inl h)
  · by_cases h0 : r ≤ 0
    · exact .inl (.inr (.inr ⟨h, h0⟩))
    · exact .inr (.inr (.inr ⟨by omega, by grind⟩))
  · exact .inr (.inl (by omega))
  · by_cases h0 : 0 ≤ r
    · exact .inl (.inr (.inl ⟨h, h0⟩))
    · exact .inr (.inr (.inl ⟨by omega, by grind⟩))
/-- The sine between two places is at most what it is at one of them, but for a peak. -/
theorem under {p i j : Int} {u r s : Rat} (hu : Bd u (4/5)) (hr : Bd r (4/5)) (hs : Bd s (4/5)) (hpi : p ≤ i) (hij : i ≤ j)
    (hx1 : u ≤ r + ((i - p : Int) : Rat) * qT) (hx2 : r ≤ s + ((j - i : Int) : Rat) * qT) :
    VV i r ≤ VV j s + (eps + eps) ∨ VV i r ≤ VV p u + (eps + eps) ∨ Peak p j u s := by
  rcases rises_or i r with hR | hR
  · rcases rise_right hr hs hij hx2 hR with h | ⟨k, h1, h2, h3, h4, h5⟩
    · exact .inl h
    · refine .inr (.inr ⟨k, h1, by omega, h3, ?_, h5⟩)
      have e : ((k - p : Int) : Rat) = ((k - i : Int) : Rat) + ((i - p : Int) : Rat) := by rw [← Rat.intCast_add]; congr 1; omega
      rw [e]; grind
  · have e1 : ((2 - p - (2 - i) : Int) : Rat) = ((i - p : Int) : Rat) := by congr 1; omega
    rcases rise_right hr.neg hu.neg (show 2 - i ≤ 2 - p by omega) (by rw [e1]; grind) hR with h | ⟨k, h1, h2, h3, h4, h5⟩
    · rw [V_mirror, V_mirror] at h; exact .inr (.inl h)
    · refine .inr (.inr ⟨2 - k, by omega, by omega, by omega, ?_, ?_⟩)
      · have e : ((2 - k - p : Int) : Rat) = -((k - (2 - p) : Int) : Rat) := by rw [← Rat.intCast_neg]; congr 1; omega
        rw [e]; grind
      · have e : ((2 - k - j : Int) : Rat) = -((k - (2 - i) : Int) : Rat) - ((j - i : Int) : Rat) := by rw [← Rat.intCast_neg, ← Rat.intCast_sub]; congr 1; omega
        rw [e]; grind
theorem V_two (k : Int) (r : Rat) : VV (k + 2) r = -VV k r := by
  rcases mod4 k with h | h | h | h
  · rw [V0 h, V2 (show (k + 2) % 4 = 2 by omega)]
  · rw [V1 h, V3 (show (k + 2) % 4 = 3 by omega)]
  · rw [V2 h, V0 (show (k + 2) % 4 = 0 by omega)]; grind
  · rw [V3 h, V1 (show (k + 2) % 4 = 1 by omega)]; grind

-- plain truth10
theorem sT_0 : sT 0 = 0 := by decide +kernel
theorem sT_pos {x : Rat} (h : Bd x (4/5)) (h0 : 0 < x) : 0 < sT x := by
  have := sT_strict (x := 0) (y := x) (Bd.zero (by decide +kernel)) (h.mono (by decide +kernel)) (by grind)
  rw [sT_0] at this; grind
theorem sT_nonneg {x : Rat} (h : Bd x (4/5)) (h0 : 0 ≤ x) : 0 ≤ sT x := by
  have := sT_strict (x := 0) (y := x) (Bd.zero (by decide +kernel)) (h.mono (by decide +kernel)) (by grind)
  rw [sT_0] at this; grind
theorem cT_pos {x : Rat} (h : Bd x (4/5)) : 0 < cT x := by
  have := cT_low h
  have : (0 : Rat) < cT (4/5) := by decide +kernel
  grind
theorem cT_le1 {x : Rat} (h : Bd x (4/5)) : cT x ≤ 1 := by
  unfold Bd at h
  by_cases h0 : 0 ≤ x
  · have := cT_mono (x := 0) (y := x) (by grind) (by grind) h0; rw [cT_0] at this; exact this
  · have := cT_mono' (x := x) (y := 0) (by grind) (by grind) (by grind); rw [cT_0] at this; exact this
theorem sT_8 : sT (4/5) ≤ 3/4 := by decide +kernel
theorem sT_in {x : Rat} (h : Bd x (4/5)) : Bd (sT x) (3/4) := by
  have h1 := h.mono (e := 1) (by decide +kernel)
  have a := sT_mono h1 (y := 4/5) (by unfold Bd; constructor <;> decide +kernel) h.2
  have b := sT_mono (x := -(4/5)) (by unfold Bd; constructor <;> decide +kernel) h1 h.1
  rw [sT_neg] at b
  have := sT_8
  unfold Bd; grind
theorem V_1 (k : Int) {x : Rat} (h : Bd x (4/5)) : Bd (VV k x) 1 := by
  have h1 := (sT_in h).mono (e := 1) (by decide +kernel)
  have h2 : Bd (cT x) 1 := ⟨by have := cT_pos h; grind, cT_le1 h⟩
  rcases V_cases k with ⟨_, e⟩ | ⟨_, e⟩ | ⟨_, e⟩ | ⟨_, e⟩ <;> rw [e]
  · exact h1
  · exact h2
  · exact h1.neg
  · exact h2.neg
theorem mul_le2 {a b c d : Rat} (h1 : 0 ≤ a) (h2 : a ≤ b) (h3 : 0 ≤ c) (h4 : c ≤ d) : a * c ≤ b * d := by
  have x := Rat.mul_le_mul_of_nonneg_right h2 h3
  have y := Rat.mul_le_mul_of_nonneg_left h4 (show 0 ≤ b by grind)
  grind
/-- Two places of the circle, near which are two whose tangents are in order. -/
def LE2 (S C S' C' : Rat) : Prop := ∃ s c s' c' : Rat, (Bd (s - S) (2 * eps) ∧ Bd (c - C) (2 * eps) ∧ Bd (s' - S') (2 * eps) ∧ Bd (c' - C') (2 * eps)) ∧ (Bd s 1 ∧ Bd c 1 ∧ Bd s' 1 ∧ Bd c' 1) ∧ 0 < c ∧ 0 < c' ∧ s * c' ≤ s' * c
theorem self_bd (x : Rat) : Bd (x - x) (2 * eps) := by
  have : x - x = 0 := by grind
  rw [this]; exact Bd.zero (by decide +kernel)
theorem LE2.exact {S C S' C' : Rat} (h1 : Bd S 1) (h2 : Bd C 1) (h3 : Bd S' 1) (h4 : Bd C' 1) (c : 0 < C) (c' : 0 < C') (h : S * C' ≤ S' * C) : LE2 S C S' C' :=
  ⟨S, C, S', C', ⟨self_bd _, self_bd _, self_bd _, self_bd _⟩, ⟨h1, h2, h3, h4⟩, c, c', h⟩
theorem LE2.mirror {S C S' C' : Rat} (h : LE2 (-S') C' (-S) C) : LE2 S C S' C' := by
  obtain ⟨s, c, s', c', ⟨a1, a2, a3, a4⟩, ⟨b1, b2, b3, b4⟩, d1, d2, e⟩ := h
  refine ⟨-s', c', -s, c, ⟨?_, a4, ?_, a2⟩, ⟨b3.neg, b4, b1.neg, b2⟩, d2, d1, by grind⟩
  · unfold Bd at *; grind
  · unfold Bd at *; grind
theorem le2_00 {r r' : Rat} (hr : Bd r (4/5)) (hr' : Bd r' (4/5)) (h : r ≤ r') : LE2 (sT r) (cT r) (sT r') (cT r') := by
  have b := fun (x : Rat) (h : Bd x (4/5)) => (sT_in h).mono (e := 1) (by decide +kernel)
  have b2 := fun (x : Rat) (h : Bd x (4/5)) => (show Bd (cT x) 1 from ⟨by have := cT_pos h; grind, cT_le1 h⟩)
  have r1 : Bd r 1 := hr.mono (by decide +kernel)
  have r1' : Bd r' 1 := hr'.mono (by decide +kernel)
  have m := sT_mono r1 r1' h
  have p := cT_pos hr
  have p' := cT_pos hr'
  refine LE2.exact (b _ hr) (b2 _ hr) (b _ hr') (b2 _ hr') p p' ?_
  by_cases h0 : 0 ≤ r
  · exact mul_le2 (sT_nonneg hr h0) m (by grind) (cT_mono h0 r1'.2 h)
  · by_cases h1 : 0 ≤ r'
    · have a := sT_nonneg hr.neg (show 0 ≤ -r by grind)
      rw [sT_neg] at a
      have c := sT_nonneg hr' h1
      have := Rat.mul_nonneg a (show 0 ≤ cT r' by grind)
      have := Rat.mul_nonneg c (show 0 ≤ cT r by grind)
      grind
    · have a := sT_nonneg hr'.neg (show 0 ≤ -r' by grind)
      rw [sT_neg] at a
      have c := cT_mono' (x := r) (y := r') (by grind) r1.1 h
      have := mul_le2 a (show -sT r' ≤ -sT r by grind) (show 0 ≤ cT r by grind) c
      grind
theorem le2_pp {r r' : Rat} (hr : Bd r (4/5)) (hr' : Bd r' (4/5)) (h : r ≤ r') (h0 : 0 < r) : LE2 (-cT r) (sT r) (-cT r') (sT r') := by
  have b := fun (x : Rat) (h : Bd x (4/5)) => (sT_in h).mono (e := 1) (by decide +kernel)
  have b2 := fun (x : Rat) (h : Bd x (4/5)) => (show Bd (cT x) 1 from ⟨by have := cT_pos h; grind, cT_le1 h⟩)
  have r1 : Bd r 1 := hr.mono (by decide +kernel)
  have r1' : Bd r' 1 := hr'.mono (by decide +kernel)
  have p := sT_pos hr h0
  have p' := sT_pos hr' (show 0 < r' by grind)
  refine LE2.exact (b2 _ hr).neg (b _ hr) (b2 _ hr').neg (b _ hr') p p' ?_
  have c := cT_pos hr'
  have := mul_le2 (show 0 ≤ cT r' by grind) (cT_mono (by grind) r1'.2 h) (show 0 ≤ sT r by grind) (sT_mono r1 r1' h)
  grind
theorem num8 : sT (3/5) * (3/4) ≤ cT (4/5) * cT (4/5) := by decide +kernel
theorem c35 : cT (3/5) ≤ 9/10 := by decide +kernel
theorem le2_p0 {r r' : Rat} (hr : Bd r (4/5)) (hr' : Bd r' (4/5)) (h0 : 0 < r) (h : r - qT ≤ r') : LE2 (-cT r) (sT r) (sT r') (cT r') := by
  have b := fun (x : Rat) (h : Bd x (4/5)) => (sT_in h).mono (e := 1) (by decide +kernel)
  have b2 := fun (x : Rat) (h : Bd x (4/5)) => (show Bd (cT x) 1 from ⟨by have := cT_pos h; grind, cT_le1 h⟩)
  have r1 : Bd r 1 := hr.mono (by decide +kernel)
  have r1' : Bd r' 1 := hr'.mono (by decide +kernel)
  have i35 : Bd (3/5 : Rat) 1 := by unfold Bd; constructor <;> decide +kernel
  have p := sT_pos hr h0
  have q := cT_pos hr
  have q' := cT_pos hr'
  have l := cT_low hr
  have l' := cT_low hr'
  have sr := sT_in hr
  have sr' := sT_in hr'.neg
  rw [sT_neg] at sr'
  have cc := mul_le2 (show 0 ≤ cT (4/5) from nmC) l nmC l'
  have num := num8
  by_cases c0 : 0 ≤ r'
  · refine LE2.exact (b2 _ hr).neg (b _ hr) (b _ hr') (b2 _ hr') p q' ?_
    have := Rat.mul_nonneg (sT_nonneg hr' c0) (show 0 ≤ sT r by grind)
    have := Rat.mul_nonneg (show 0 ≤ cT r by grind) (show 0 ≤ cT r' by grind)
    grind
  · have s0 := sT_nonneg hr'.neg (show 0 ≤ -r' by grind)
    rw [sT_neg] at s0
    by_cases c1 : -(3/5) ≤ r'
    · refine LE2.exact (b2 _ hr).neg (b _ hr) (b _ hr') (b2 _ hr') p q' ?_
      have m := sT_mono (x := -(3/5)) i35.neg r1' c1
      rw [sT_neg] at m
      have := mul_le2 s0 (show -sT r' ≤ sT (3/5) by grind) (show 0 ≤ sT r by grind) sr.2
      grind
    · by_cases c2 : r ≤ 3/5
      · refine LE2.exact (b2 _ hr).neg (b _ hr) (b _ hr') (b2 _ hr') p q' ?_
        have m := sT_mono (y := 3/5) r1 i35 c2
        have := mul_le2 s0 sr'.2 (show 0 ≤ sT r by grind) m
        grind
      · have qq := qT_1
        have lo : -1 ≤ r - qT := by grind
        have hb : Bd (r - qT) 1 := by unfold Bd; grind
        have a1 := V_shift' 0 hr
        have a2 := V_shift' 1 hr
        rw [V0 (show (0 : Int) % 4 = 0 by decide), V3 (show ((0 : Int) - 1) % 4 = 3 by decide)] at a1
        rw [V1 (show (1 : Int) % 4 = 1 by decide), V0 (show ((1 : Int) - 1) % 4 = 0 by decide)] at a2
        have m1 := sT_mono hb r1' h
        have m2 := cT_mono' (x := r - qT) (y := r') (by grind) lo h
        have m3 := cT_mono' (x := r') (y := -(3/5)) (by decide +kernel) r1'.1 (by grind)
        rw [cT_neg] at m3
        have m4 := c35
        have e0 : (0 : Rat) ≤ eps := by decide +kernel
        have e1 : 2 * eps ≤ 1/10 := by decide +kernel
        have hs1 : -cT r ≤ sT r' + 2 * eps := by unfold Bd at a1; grind
        have hs2 : sT r ≤ cT r' + 2 * eps := by unfold Bd at a2; grind
        refine ⟨-cT r, sT r, sT r' + 2 * eps, cT r' + 2 * eps, ⟨self_bd _, self_bd _, ?_, ?_⟩, ⟨(b2 _ hr).neg, b _ hr, ?_, ?_⟩, p, by grind, ?_⟩
        · unfold Bd; grind
        · unfold Bd; grind
        · unfold Bd; unfold Bd at sr'; grind
        · unfold Bd; grind
        · by_cases c3 : 0 ≤ sT r' + 2 * eps
          · have := Rat.mul_nonneg c3 (show 0 ≤ sT r by grind)
            have := Rat.mul_nonneg (show 0 ≤ cT r by grind) (show 0 ≤ cT r' + 2 * eps by grind)
            grind
          · have := mul_le2 (show 0 ≤ -(sT r' + 2 * eps) by grind) (show -(sT r' + 2 * eps) ≤ cT r by grind) (show 0 ≤ sT r by grind) hs2
            grind
theorem le2_pm {r r' : Rat} (hr : Bd r (4/5)) (hr' : Bd r' (4/5)) (h0 : 0 < r) (h1 : r' < 0) : LE2 (-cT r) (sT r) (cT r') (-sT r') := by
  have b := fun (x : Rat) (h : Bd x (4/5)) => (sT_in h).mono (e := 1) (by decide +kernel)
  have b2 := fun (x : Rat) (h : Bd x (4/5)) => (show Bd (cT x) 1 from ⟨by have := cT_pos h; grind, cT_le1 h⟩)
  have p := sT_pos hr h0
  have p' := sT_pos hr'.neg (show 0 < -r' by grind)
  rw [sT_neg] at p'
  have q := cT_pos hr
  have q' := cT_pos hr'
  refine LE2.exact (b2 _ hr).neg (b _ hr) (b2 _ hr') (b _ hr').neg p p' ?_
  have := Rat.mul_nonneg (show 0 ≤ cT r by grind) (show 0 ≤ -sT r' by grind)
  have := Rat.mul_nonneg (show 0 ≤ cT r' by grind) (show 0 ≤ sT r by grind)
  grind
/-- In one branch of the tangent. -/
theorem le2_all {d d' : Int} {r r' : Rat} (hr : Bd r (4/5)) (hr' : Bd r' (4/5)) (hd : -1 ≤ d ∧ d ≤ d' ∧ d' ≤ 1) (hx : r ≤ r' + ((d' - d : Int) : Rat) * qT)
    (s1 : d = 1 → r < 0) (s2 : d = -1 → 0 < r) (s3 : d' = 1 → r' < 0) (s4 : d' = -1 → 0 < r') : LE2 (VV d r) (VV (d + 1) r) (VV d' r') (VV (d' + 1) r') := by
  have hd1 : d = -1 ∨ d = 0 ∨ d = 1 := by omega
  have hd2 : d' = -1 ∨ d' = 0 ∨ d' = 1 := by omega
  have vm : ∀ x, VV (-1) x = -cT x := fun x => V3 (by decide) x
  have vm1 : ∀ x, VV (-1 + 1) x = sT x := fun x => V0 (by decide) x
  have v0 : ∀ x, VV 0 x = sT x := fun x => V0 (by decide) x
  have v01 : ∀ x, VV (0 + 1) x = cT x := fun x => V1 (by decide) x
  have v1 : ∀ x, VV 1 x = cT x := fun x => V1 (by decide) x
  have v11 : ∀ x, VV (1 + 1) x = -sT x := fun x => V2 (by decide) x
  rcases hd1 with rfl | rfl | rfl <;> rcases hd2 with rfl | rfl | rfl
  · rw [vm, vm1, vm, vm1]
    rw [show (-1 - -1 : Int) = 0 by decide, castR0] at hx
    exact le2_pp hr hr' (by grind) (s2 rfl)
  · rw [vm, vm1, v0, v01]
    rw [show (0 - -1 : Int) = 1 by decide, castR1] at hx
    exact le2_p0 hr hr' (s2 rfl) (by grind)
  · rw [vm, vm1, v1, v11]
    exact le2_pm hr hr' (s2 rfl) (s3 rfl)
  · omega
  · rw [v0, v01, v0, v01]
    rw [show (0 - 0 : Int) = 0 by decide, castR0] at hx
    exact le2_00 hr hr' (by grind)
  · rw [v0, v01, v1, v11]
    rw [show (1 - 0 : Int) = 1 by decide, castR1] at hx
    refine LE2.mirror ?_
    have := le2_p0 hr'.neg hr.neg (show 0 < -r' by have := s3 rfl; grind) (by grind)
    rw [cT_neg, cT_neg, sT_neg, sT_neg] at this
    exact this
  · omega
  · omega
  · rw [v1, v11, v1, v11]
    rw [show (1 - 1 : Int) = 0 by decide, castR0] at hx
    refine LE2.mirror ?_
    have := le2_pp hr'.neg hr.neg (by grind) (show 0 < -r' by have := s3 rfl; grind)
    rw [cT_neg, cT_neg, sT_neg, sT_neg] at this
    exact this

end Go.Proofs.YtcnapkdccjibpaaGreatDoor.Eng
