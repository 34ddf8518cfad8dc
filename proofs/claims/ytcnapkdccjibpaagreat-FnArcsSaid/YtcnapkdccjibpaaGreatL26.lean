/- What functions of the program compute, and that the program computes it: part 26. -/
import Derived.Test.YtcnapkdccjibpaaGreatTab
import Derived.Test.YtcnapkdccjibpaaGreatEng16
import Derived.Laws.BitsLemmas
import Derived.Laws.Bits64
import Derived.Laws.Bits64b
import Derived.Lib.Mul64
import Derived.Lib.BitFns
import Derived.Laws.Externs
import Derived.Test.YtcnapkdccjibpaaGreatL1
import Derived.Test.YtcnapkdccjibpaaGreatL2
import Derived.Test.YtcnapkdccjibpaaGreatL3
import Derived.Test.YtcnapkdccjibpaaGreatL4
import Derived.Test.YtcnapkdccjibpaaGreatL5
import Derived.Test.YtcnapkdccjibpaaGreatL8
import Derived.Test.YtcnapkdccjibpaaGreatL12
import Derived.Test.YtcnapkdccjibpaaGreatL13
import Derived.Test.YtcnapkdccjibpaaGreatL15
import Derived.Test.YtcnapkdccjibpaaGreatL16
import Derived.Test.YtcnapkdccjibpaaGreatL17
import Derived.Test.YtcnapkdccjibpaaGreatL19
import Derived.Test.YtcnapkdccjibpaaGreatL22
import Derived.Test.YtcnapkdccjibpaaGreatL23
import Derived.Test.YtcnapkdccjibpaaGreatL24
import Derived.Test.YtcnapkdccjibpaaGreatL25
namespace Go.Proofs.YtcnapkdccjibpaaGreat.Eng
open Go Go.RowKit
set_option linter.unusedVariables false
set_option linter.unusedSimpArgs false
set_option maxRecDepth 100000
set_option maxHeartbeats 1000000
-- plain truth21
theorem root_bd64 {m : Int} (h : -4294967296 ≤ m ∧ m ≤ 4294967296) : let w := (4294967296 - m) * (4294967296 + m); 0 ≤ w ∧ w ≤ 18446744073709551616 ∧ (w : Rat) = 18446744073709551616 - (m : Rat) * m := by
  intro w
  have h0 : 0 ≤ w := Int.mul_nonneg (by omega) (by omega)
  have hm : 0 ≤ m * m := by
    rcases Int.le_total 0 m with h | h
    · exact Int.mul_nonneg h h
    · have := Int.mul_nonneg (a := -m) (b := -m) (by omega) (by omega)
      rw [Int.neg_mul_neg] at this; exact this
  have e : w = 18446744073709551616 - m * m := by
    show (4294967296 - m) * (4294967296 + m) = _
    rw [Int.sub_mul, Int.mul_add, Int.mul_add]; omega
  refine ⟨h0, by omega, ?_⟩
  rw [e, Rat.intCast_sub, Rat.intCast_mul]
  rfl
/-- The circle's value. -/
theorem circle_root {m : Int} (h : -4294967296 ≤ m ∧ m ≤ 4294967296) :
    (okI (circleI m) = true ∧ 0 ≤ (circleI m).lo ∧ (circleI m).hi ≤ 4294967297) ∧ ∃ ρ : Rat, 0 ≤ ρ ∧ ρ ≤ 1 ∧ Has (circleI m) ρ ∧ Bd (ρ * ρ - (1 - (m : Rat) / 4294967296 * ((m : Rat) / 4294967296))) tq := by
  obtain ⟨w0, w1, wr⟩ := root_bd64 h
  have sp := rootW_spec w0 (by omega)
  have rn := rootW_nonneg ((4294967296 - m) * (4294967296 + m))
  have hw : within m (-4294967296) 4294967296 = true := by rw [within_iff]; exact h
  obtain ⟨w, ew⟩ : ∃ w, (4294967296 - m) * (4294967296 + m) = w := ⟨_, rfl⟩
  unfold circleI
  rw [if_pos hw]
  simp only [ew] at *
  obtain ⟨k, ek⟩ : ∃ k, rootW w = k := ⟨_, rfl⟩
  rw [ek] at sp rn ⊢
  have kb : k ≤ 4294967296 := by
    apply Int.not_lt.1; intro hlt
    have := Int.mul_le_mul (a := 4294967297) (b := 4294967297) (c := k) (d := k) (by omega) (by omega) (by omega) (by omega)
    omega
  have c1 := Rat.intCast_le_intCast.2 sp.1
  have c2 := Rat.intCast_lt_intCast.2 sp.2
  have c3 := Rat.intCast_le_intCast.2 rn
  have c4 := Rat.intCast_le_intCast.2 kb
  have c0 := Rat.intCast_le_intCast.2 w0
  have cw := Rat.intCast_le_intCast.2 w1
  have c32 : ((4294967296 : Int) : Rat) = 4294967296 := rfl
  have c64 : ((18446744073709551616 : Int) : Rat) = 18446744073709551616 := rfl
  rw [c32] at c4
  rw [c64] at cw
  rw [castR0] at c3 c0
  rw [Rat.intCast_mul] at c1
  rw [Rat.intCast_mul, Rat.intCast_add, castR1] at c2
  have evL : 1 - (m : Rat) / 4294967296 * ((m : Rat) / 4294967296) = (w : Rat) / 18446744073709551616 := by rw [wr]; grind
  rw [evL]
  have v0 : (0 : Rat) ≤ (w : Rat) / 18446744073709551616 := by grind
  have v1 : (w : Rat) / 18446744073709551616 ≤ 1 := by grind
  obtain ⟨s, s0, s1, s2⟩ := ex_root v0 (by grind)
  have tq0 : (0 : Rat) ≤ tq := by decide +kernel
  have sle : s ≤ 1 := sq_le s0 (by decide +kernel) (by grind)
  by_cases hk : k * k = w
  · rw [if_pos hk]
    refine ⟨⟨by rw [okI_mk]; omega, rn, by simp only; omega⟩, (k : Rat) / 4294967296, by grind, by grind, has_at k, ?_⟩
    have : (k : Rat) / 4294967296 * ((k : Rat) / 4294967296) - (w : Rat) / 18446744073709551616 = 0 := by
      rw [← hk, Rat.intCast_mul]; grind
    rw [this]; exact Bd.zero tq0
  · rw [if_neg hk]
    refine ⟨⟨by rw [okI_mk]; omega, rn, by simp only; omega⟩, ?_⟩
    have l2 : (k : Rat) / 4294967296 * ((k : Rat) / 4294967296) ≤ (w : Rat) / 18446744073709551616 := by
      have : (k : Rat) / 4294967296 * ((k : Rat) / 4294967296) = (k : Rat) * k / 18446744073709551616 := by grind
      rw [this]; grind
    by_cases k1 : s < (k : Rat) / 4294967296
    · have := sq_mono s0 (Rat.le_of_lt k1)
      exact ⟨(k : Rat) / 4294967296, by grind, by grind, has_in (by grind) (by rw [Rat.intCast_add, castR1]; grind), by unfold Bd; grind⟩
    · refine ⟨s, s0, sle, has_in (by grind) ?_, by unfold Bd; grind⟩
      rw [Rat.intCast_add, castR1]
      have : s ≤ ((k : Rat) + 1) / 4294967296 := by
        refine sq_le s0 (by grind) ?_
        have : ((k : Rat) + 1) / 4294967296 * (((k : Rat) + 1) / 4294967296) = ((k : Rat) + 1) * (k + 1) / 18446744073709551616 := by grind
        rw [this]; grind
      grind
theorem qhalf : cT (qT / 2) - sT (qT / 2) ≤ 1/1000000000000000 ∧ Bd (qT/2) (4/5) := by
  refine ⟨by decide +kernel, by unfold Bd; constructor <;> decide +kernel⟩
theorem arc_le {r y : Rat} (h : ArcOf r y) (h1 : y ≤ 1) : r ≤ qT / 2 + 4 * eT := by
  obtain ⟨a1, a2, a3, a4⟩ := h
  have q := qhalf
  have e0 : 1/1000000000000 ≤ eT := by decide +kernel
  apply Rat.not_lt.1; intro hlt
  have qp := qT_1
  have m1 := sT_strict (x := qT / 2) (y := r) (q.2.mono (by decide +kernel)) (a1.mono (by decide +kernel)) (by grind)
  have m2 := cT_mono (x := qT / 2) (y := r) (by grind) (by unfold Bd at a1; grind) (by grind)
  have m3 := Rat.mul_le_mul_of_nonneg_right h1 (show 0 ≤ cT r by have := cT_pos a1; grind)
  have := q.1
  unfold Bd at a4
  grind

-- plain truth22
def eS : Rat := 1/10000000000000 * 1000
/-- Doubled: the sine and cosine of twice the arc of m/(1+ρ). -/
theorem dbl_circ {φ t ρ M : Rat} (h : ArcOf φ t) (ht : Bd t 1) (r0 : 0 ≤ ρ) (r1 : ρ ≤ 1) (e : t * (1 + ρ) = M) (hq : Bd (ρ * ρ - (1 - M * M)) tq) :
    Bd (2 * (sT φ * cT φ) - M) eS ∧ Bd (cT φ * cT φ - sT φ * sT φ - ρ) eS := by
  obtain ⟨a1, a2, a3, a4⟩ := h
  have hp := pyth a1
  have hc : Bd (cT φ) 1 := ⟨by have := cT_pos a1; grind, cT_le1 a1⟩
  generalize sT φ = S at *
  generalize cT φ = C at *
  obtain ⟨δ, hδ⟩ : ∃ δ, S - t * C = δ := ⟨_, rfl⟩
  rw [hδ] at a4
  have hS : S = t * C + δ := by grind
  subst hS
  obtain ⟨ε, hε⟩ : ∃ ε, (t * C + δ) * (t * C + δ) + C * C - 1 - (2 * (t * (C * δ)) + δ * δ) = ε := ⟨_, rfl⟩
  have b1 := ht.mul (hc.mul a4)
  have b2 := a4.mul a4
  have e4 : eT * eT ≤ eT := by decide +kernel
  have hεb : Bd ε (4 * eT) := by unfold Bd eps at *; unfold eT at *; grind
  have hC : C * C * (1 + t * t) = 1 + ε := by grind
  obtain ⟨q, hqq⟩ : ∃ q, ρ * ρ - (1 - M * M) = q := ⟨_, rfl⟩
  rw [hqq] at hq
  obtain ⟨E, hE⟩ : ∃ E, 2 * (C * C) - (1 + ρ) = E := ⟨_, rfl⟩
  have key : (1 + ρ) * E = (1 + ρ) * (1 + ρ) * ε - q * (C * C) := by
    have k1 : (1 + ρ) * (1 + ρ) * (C * C * (1 + t * t)) = C * C * (2 * (1 + ρ) + q) := by rw [← hqq, ← e]; grind
    rw [hC] at k1
    rw [← hE]; grind
  have c1 := ((show Bd (1 + ρ) 2 by unfold Bd; grind).mul (show Bd (1 + ρ) 2 by unfold Bd; grind)).mul hεb
  have c2 := hq.mul (hc.mul hc)
  have EB : Bd E (17 * eT) := by
    have e5 : tq ≤ eT := by decide +kernel
    have e0 : (0 : Rat) ≤ eT := by decide +kernel
    constructor
    · apply Rat.not_lt.1; intro hlt
      have := Rat.mul_nonneg r0 (show 0 ≤ -E by grind)
      unfold Bd at *; grind
    · apply Rat.not_lt.1; intro hlt
      have := Rat.mul_nonneg r0 (show 0 ≤ E by grind)
      unfold Bd at *; grind
  have tE := ht.mul EB
  have Cδ := hc.mul a4
  constructor
  · have : 2 * ((t * C + δ) * C) - M = t * E + 2 * (C * δ) := by rw [← hE, ← e]; grind
    rw [this]
    unfold Bd eS eT at *; grind
  · have : C * C - (t * C + δ) * (t * C + δ) - ρ = E - ε - (2 * (t * (C * δ)) + δ * δ) := by rw [← hE, ← hε]; grind
    rw [this]
    unfold Bd eS eT at *; grind
/-- An interval of angles that holds the angle of sine y and cosine x, from -qT to qT. -/
def PosOf (a : Iv) (y x e s : Rat) : Prop := ∃ (d : Int) (r : Rat), (-1 ≤ d ∧ d ≤ 1) ∧ Bd r (4/5) ∧ Bd ((d : Rat) * qT + r) (qT + s) ∧ Bd (VV d r - y) e ∧ Bd (VV (d + 1) r - x) e ∧ Has a ((d : Rat) * qT + r)
theorem asin_pos {m : Int} (h : -4294967296 ≤ m ∧ m ≤ 4294967296) : ∃ ρ : Rat, (0 ≤ ρ ∧ ρ ≤ 1) ∧ Has (circleI m) ρ ∧ GoodA (asinA m) ∧ insideI (asinA m) halfI2 = true ∧ PosOf (asinA m) ((m : Rat) / 4294967296) ρ (2 * eS) (8 * eT) := by
  obtain ⟨⟨c1, c2, c3⟩, ρ, r0, r1, hρ, hq⟩ := circle_root h
  refine ⟨ρ, ⟨r0, r1⟩, hρ, ?_⟩
  have hw : within m (-4294967296) 4294967296 = true := by rw [within_iff]; exact h
  have e1 : intI 1 = ⟨4294967296, 4294967296⟩ := rfl
  have clR := (okI_iff.1 c1).2.1
  have ad := @addI_bd (intI 1) (circleI m) rfl c1 (by rw [e1]; simp only; omega) (by rw [e1]; simp only; omega)
  have om : okI ⟨m, m⟩ = true := by rw [okI_mk]; omega
  have dv := divI_abs (a := ⟨m, m⟩) (b := addI (intI 1) (circleI m)) (A := 4294967296) (B := 4294967296) (M := 4294967296) om ad.2 (by simp only; omega) (by simp only; omega) (by omega) (by rw [ad.1, e1]; simp only; omega) (by omega) (by omega)
  have ht : Has (divI ⟨m, m⟩ (addI (intI 1) (circleI m))) ((m : Rat) / 4294967296 / (1 + ρ)) := has_div (has_at m) (has_add has_one hρ)
  obtain ⟨t, et⟩ : ∃ t, (m : Rat) / 4294967296 / (1 + ρ) = t := ⟨_, rfl⟩
  rw [et] at ht
  have etm : t * (1 + ρ) = (m : Rat) / 4294967296 := by
    have : 1 + ρ ≠ 0 := by grind
    rw [← et]; grind
  obtain ⟨⟨g1, g2, g3⟩, tb, hA⟩ := atanI_arc ht dv.1 dv.2.1 dv.2.2
  obtain ⟨φ, hφ⟩ := ex_arc tb
  have hA0 := hA φ hφ φ (by
    have : φ - φ = 0 := by grind
    rw [this]; exact Bd.zero (by decide +kernel))
  have dc := dbl_circ hφ tb r0 r1 etm hq
  obtain ⟨B, hB⟩ : ∃ B, atanI (divI ⟨m, m⟩ (addI (intI 1) (circleI m))) = B := ⟨_, rfl⟩
  rw [hB] at g1 g2 g3 hA0
  have gl := (okI_iff.1 g1).2.1
  have db := @addI_bd B B g1 g1 (by omega) (by omega)
  have up := arc_le hφ tb.2
  have dn := arc_le hφ.neg (by unfold Bd at tb; grind)
  have H2 : Has (dblI B) (φ + φ) := has_dbl hA0
  have e8 : 8 * eT ≤ 1/30000000000 := by decide +kernel
  have hh : Has halfI2 (φ + φ) := by
    unfold halfI2
    have q1 : (qT + 1/30000000000) * 4294967296 ≤ 6746518853 := by decide +kernel
    refine has_in ?_ ?_
    · have : ((-6746518853 : Int) : Rat) = -6746518853 := rfl
      rw [this]; grind
    · have : ((6746518853 : Int) : Rat) = 6746518853 := rfl
      rw [this]; grind
  have ea : asinA m = (meetI (dblI B) halfI2).1 := by unfold asinA; rw [if_pos hw, hB]
  have Hb : Has (asinA m) (φ + φ) := by rw [ea]; exact has_meet H2 hh
  have ov := over_of H2 hh
  have okh : okI halfI2 = true := rfl
  have okd : okI (dblI B) = true := db.2
  have mv : (meetI (dblI B) halfI2).1 = ⟨max (dblI B).lo halfI2.lo, min (dblI B).hi halfI2.hi⟩ ∧ max (dblI B).lo halfI2.lo ≤ min (dblI B).hi halfI2.hi := by
    unfold meetI at ov ⊢
    rw [if_pos okd, if_pos okh] at ov ⊢
    split at ov
    · cases ov
    · rename_i hlt
      rw [if_neg hlt]
      exact ⟨rfl, by omega⟩
  have hl : halfI2.lo = -6746518853 := rfl
  have hhi : halfI2.hi = 6746518853 := rfl
  rw [hl, hhi] at mv
  have go : okI (asinA m) = true ∧ -6746518853 ≤ (asinA m).lo ∧ (asinA m).hi ≤ 6746518853 := by
    rw [ea, mv.1]
    exact ⟨by rw [okI_mk]; omega, by simp only; omega, by simp only; omega⟩
  refine ⟨⟨go.1, by omega, by omega⟩, inside_of fun _ => ⟨go.1, by rw [hl]; exact go.2.1, by rw [hhi]; exact go.2.2⟩, ?_⟩
  have p1 := hφ.1
  have s1 := V_add 0 0 p1 (p1.mono (e := 8/5) (by decide +kernel))
  have s2 := V_add 0 1 p1 (p1.mono (e := 8/5) (by decide +kernel))
  rw [show (0 : Int) + 0 = 0 by decide, V0 (show (0 : Int) % 4 = 0 by decide), V1 (show ((0 : Int) + 1) % 4 = 1 by decide)] at s1
  rw [show (0 : Int) + 1 = 1 by decide, V0 (show (0 : Int) % 4 = 0 by decide), V1 (show (1 : Int) % 4 = 1 by decide), V2 (show ((1 : Int) + 1) % 4 = 2 by decide)] at s2
  have e0 : 10 * eps ≤ eS := by decide +kernel
  have ep : (0 : Rat) ≤ eps := by decide +kernel
  obtain ⟨M, hM⟩ : ∃ M, (m : Rat) / 4294967296 = M := ⟨_, rfl⟩
  rw [hM] at dc ⊢
  have y1 : Bd (VV 0 (φ + φ) - M) (eS + eps) := by
    have h1 := dc.1.sub s1
    have h2 : 2 * (sT φ * cT φ) - M - (sT φ * cT φ + cT φ * sT φ - VV 0 (φ + φ)) = VV 0 (φ + φ) - M := by grind
    rw [h2] at h1; exact h1
  have x1 : Bd (VV 1 (φ + φ) - ρ) (eS + eps) := by
    have h1 := dc.2.sub s2
    have h2 : cT φ * cT φ - sT φ * sT φ - ρ - (sT φ * -sT φ + cT φ * cT φ - VV 1 (φ + φ)) = VV 1 (φ + φ) - ρ := by grind
    rw [h2] at h1; exact h1
  clear dc hA hφ hq hρ ht etm et s1 s2 hM tb hB ea mv g1 g2 g3 hA0 dv ad
  have q := qT_1
  have q2 : 3/2 ≤ qT := by decide +kernel
  have e9 : (0 : Rat) ≤ eT := by decide +kernel
  have th : Bd (φ + φ) (qT + 8 * eT) := by unfold Bd; grind
  by_cases k1 : 4/5 < φ + φ
  · have rb : Bd (φ + φ - qT) (4/5) := by unfold Bd; grind
    have v1 := V_shift 0 rb
    have v2 := V_shift 1 rb
    have ex : φ + φ - qT + qT = φ + φ := by grind
    rw [ex] at v1 v2
    have et : ((1 : Int) : Rat) * qT + (φ + φ - qT) = φ + φ := by rw [castR1]; grind
    refine ⟨1, φ + φ - qT, ⟨by omega, by omega⟩, rb, by rw [et]; exact th, ?_, ?_, by rw [et]; exact Hb⟩
    · rw [show (0 : Int) + 1 = 1 by decide] at v1; unfold Bd at *; grind
    · unfold Bd at *; grind
  · by_cases k2 : φ + φ < -(4/5)
    · have rb : Bd (φ + φ + qT) (4/5) := by unfold Bd; grind
      have v1 := V_shift' 0 rb
      have v2 := V_shift' 1 rb
      have ex : φ + φ + qT - qT = φ + φ := by grind
      rw [ex] at v1 v2
      have et : ((-1 : Int) : Rat) * qT + (φ + φ + qT) = φ + φ := by rw [castm1]; grind
      refine ⟨-1, φ + φ + qT, ⟨by omega, by omega⟩, rb, by rw [et]; exact th, ?_, ?_, by rw [et]; exact Hb⟩
      · rw [show (0 : Int) - 1 = -1 by decide] at v1; unfold Bd at *; grind
      · rw [show (1 : Int) - 1 = -1 + 1 by decide] at v2; unfold Bd at *; grind
    · have et : ((0 : Int) : Rat) * qT + (φ + φ) = φ + φ := by rw [castR0]; grind
      refine ⟨0, φ + φ, ⟨by omega, by omega⟩, by unfold Bd; grind, by rw [et]; exact th, ?_, ?_, by rw [et]; exact Hb⟩
      · unfold Bd at *; grind
      · rw [show (0 : Int) + 1 = 1 by decide]; unfold Bd at *; grind

-- plain truth23
/-- A placeR between two, in quarters that lie between theirs. -/
theorem rep_norm {lo hi d : Int} {r : Rat} (ha : angleOk lo = true) (hb : angleOk hi = true) (hl : lo ≤ hi) (hr : Bd r (4/5)) (h1 : (lo : Rat) / 4294967296 ≤ (d : Rat) * qT + r) (h2 : (d : Rat) * qT + r ≤ (hi : Rat) / 4294967296) :
    ∃ (k : Int) (ρ : Rat), Bd ρ (4/5) ∧ quarter lo ≤ k ∧ k ≤ quarter hi ∧ (k : Rat) * qT + ρ = (d : Rat) * qT + r ∧ ∀ t : Int, Bd (VV (k + t) ρ - VV (d + t) r) (eps + eps) := by
  have qm := quarter_mono hl ha hb
  have pl := placeR lo
  have ph := placeR hi
  have rl := rr_bd ha
  have rh := rr_bd hb
  have q2 : 3/2 ≤ qT := by decide +kernel
  by_cases c1 : d < quarter lo
  · have : quarter lo = d + 1 := by
      apply Int.le_antisymm _ (by omega)
      apply Int.not_lt.1; intro hlt
      have := le_turn (j := d + 2) (k := quarter lo) (by omega)
      rw [Rat.intCast_add, castR2] at this
      unfold Bd at hr rl; grind
    have e : ((d + 1 : Int) : Rat) * qT = (d : Rat) * qT + qT := by rw [Rat.intCast_add, castR1]; grind
    have hb2 : Bd (r - qT) (4/5) := by
      rw [this] at pl
      rw [e] at pl
      unfold Bd at *; grind
    refine ⟨d + 1, r - qT, hb2, by omega, by omega, by rw [e]; grind, fun t => ?_⟩
    have v := V_shift (d + t) hb2
    have ex : r - qT + qT = r := by grind
    rw [ex, show d + t + 1 = d + 1 + t by omega] at v
    unfold Bd at *; grind
  · by_cases c2 : quarter hi < d
    · have : quarter hi = d - 1 := by
        apply Int.le_antisymm (by omega)
        apply Int.not_lt.1; intro hlt
        have := le_turn (j := quarter hi) (k := d - 2) (by omega)
        rw [Rat.intCast_sub, castR2] at this
        unfold Bd at hr rh; grind
      have e : ((d - 1 : Int) : Rat) * qT = (d : Rat) * qT - qT := by rw [Rat.intCast_sub, castR1]; grind
      have hb2 : Bd (r + qT) (4/5) := by
        rw [this] at ph
        rw [e] at ph
        unfold Bd at *; grind
      refine ⟨d - 1, r + qT, hb2, by omega, by omega, by rw [e]; grind, fun t => ?_⟩
      have v := V_shift' (d + t) hb2
      have ex : r + qT - qT = r := by grind
      rw [ex, show d + t - 1 = d - 1 + t by omega] at v
      unfold Bd at *; grind
    · refine ⟨d, r, hr, by omega, by omega, rfl, fun t => ?_⟩
      have : VV (d + t) r - VV (d + t) r = 0 := by grind
      rw [this]; exact Bd.zero (by decide +kernel)
/-- The sine of an interval, as it is at some placeR of it, from above. -/
theorem sin_above {lo hi d t : Int} {r y : Rat} (hA : anglesOk ⟨lo, hi⟩ = true) (ha : angleOk lo = true) (hb : angleOk hi = true) (hl : lo ≤ hi) (hr : Bd r (4/5))
    (h1 : (lo : Rat) / 4294967296 ≤ (d : Rat) * qT + r) (h2 : (d : Rat) * qT + r ≤ (hi : Rat) / 4294967296) (hy : y ≤ 1) (hV : y ≤ VV (d + t) r + 2 * eS) :
    (∃ u, y ≤ u ∧ Bd u 1 ∧ (Bd (u - TTr lo t) room ∨ Bd (u - TTr hi t) room)) ∨ ∃ k, (k + t) % 4 = 1 ∧ k ∈ turns ⟨lo, hi⟩ := by
  obtain ⟨k, ρ, hρ, k1, k2, ke, kv⟩ := rep_norm ha hb hl hr h1 h2
  have pa := placeR lo
  have pb := placeR hi
  have hv := kv t
  have er : 2 * eS + 4 * eps ≤ room := by decide +kernel
  have e0 : (0 : Rat) ≤ eps := by decide +kernel
  have e1 : (0 : Rat) ≤ eS := by decide +kernel
  have fin : ∀ n, angleOk n = true → VV (k + t) ρ ≤ TTr n t + (eps + eps) → ∃ u, y ≤ u ∧ Bd u 1 ∧ Bd (u - TTr n t) room := by
    intro n hn hle
    have T1 : Bd (TTr n t) 1 := V_1 _ (rr_bd hn)
    by_cases c : 1 < TTr n t + (2 * eS + 4 * eps)
    · exact ⟨1, hy, by unfold Bd; grind, by unfold Bd at *; grind⟩
    · exact ⟨TTr n t + (2 * eS + 4 * eps), by unfold Bd at *; grind, by unfold Bd at *; grind, by unfold Bd; grind⟩
  have x1 : rrA lo ≤ ρ + ((k + t - (quarter lo + t) : Int) : Rat) * qT := by
    rw [show k + t - (quarter lo + t) = k - quarter lo by omega, Rat.intCast_sub]; grind
  have x2 : ρ ≤ rrA hi + ((quarter hi + t - (k + t) : Int) : Rat) * qT := by
    rw [show quarter hi + t - (k + t) = quarter hi - k by omega, Rat.intCast_sub]; grind
  rcases under (rr_bd ha) hρ (rr_bd hb) (show quarter lo + t ≤ k + t by omega) (show k + t ≤ quarter hi + t by omega) x1 x2 with h | h | ⟨j, e, j1, j2, j3, j4⟩
  · obtain ⟨u, u1, u2, u3⟩ := fin hi hb h
    exact .inl ⟨u, u1, u2, .inr u3⟩
  · obtain ⟨u, u1, u2, u3⟩ := fin lo ha h
    exact .inl ⟨u, u1, u2, .inl u3⟩
  · refine .inr ⟨j - t, by rw [show j - t + t = j by omega]; exact e, ?_⟩
    have y1 : (lo : Rat) / 4294967296 ≤ ((j - t : Int) : Rat) * qT := by
      rw [show j - (quarter lo + t) = j - t - quarter lo by omega, Rat.intCast_sub] at j3; grind
    have y2 : ((j - t : Int) : Rat) * qT ≤ (hi : Rat) / 4294967296 := by
      rw [show j - (quarter hi + t) = j - t - quarter hi by omega, Rat.intCast_sub] at j4; grind
    exact turns_mem (by simp only; omega) (by simp only; omega) (over_of (has_turn _) (has_btw y1 y2))
theorem sin_hit {a : Iv} {d t : Int} {r y : Rat} (hok : okI a = true) (hg : angleOk a.lo = true) (hg2 : angleOk a.hi = true) (hr : Bd r (4/5)) (hθ : Has a ((d : Rat) * qT + r)) (hy : Bd y 1) (hV : Bd (VV (d + t) r - y) (2 * eS)) : Has (hullC a t) y := by
  obtain ⟨lo, hi⟩ := a
  simp only at hg hg2
  have hA : anglesOk ⟨lo, hi⟩ = true := by unfold anglesOk; rw [hok, hg, hg2]; rfl
  have hl : lo ≤ hi := (okI_iff.1 hok).2.1
  have h := hθ hok
  simp only at h
  have h1 : (lo : Rat) / 4294967296 ≤ (d : Rat) * qT + r := by grind
  have h2 : (d : Rat) * qT + r ≤ (hi : Rat) / 4294967296 := by grind
  have hu : ∃ u, y ≤ u ∧ Has (hullC ⟨lo, hi⟩ t) u := by
    rcases sin_above (t := t) hA hg hg2 hl hr h1 h2 hy.2 (by unfold Bd at hV; grind) with ⟨u, u1, u2, u3⟩ | ⟨k, e, hk⟩
    · refine ⟨u, u1, ?_⟩
      unfold hullC; rw [if_pos hA]
      rcases u3 with u3 | u3
      · exact has_hullL _ (has_hull1 (has_circ hg u3 u2.1 u2.2))
      · exact has_hullL _ (has_hull2 (has_circ hg2 u3 u2.1 u2.2))
    · refine ⟨1, hy.2, ?_⟩
      unfold hullC; rw [if_pos hA]; exact has_peak _ hk e
  have hw : ∃ u, u ≤ y ∧ Has (hullC ⟨lo, hi⟩ t) u := by
    rcases sin_above (t := t + 2) (y := -y) hA hg hg2 hl hr h1 h2 (by unfold Bd at hy; grind) (by rw [← Int.add_assoc, V_two]; unfold Bd at hV; grind) with ⟨u, u1, u2, u3⟩ | ⟨k, e, hk⟩
    · refine ⟨-u, by grind, ?_⟩
      unfold hullC; rw [if_pos hA]
      rw [TT_two', TT_two'] at u3
      rcases u3 with u3 | u3
      · have e1 : -u - TTr lo t = -(u - -TTr lo t) := by grind
        exact has_hullL _ (has_hull1 (has_circ hg (by rw [e1]; exact u3.neg) u2.neg.1 u2.neg.2))
      · have e1 : -u - TTr hi t = -(u - -TTr hi t) := by grind
        exact has_hullL _ (has_hull2 (has_circ hg2 (by rw [e1]; exact u3.neg) u2.neg.1 u2.neg.2))
    · refine ⟨-1, hy.1, ?_⟩
      unfold hullC; rw [if_pos hA]; exact has_trough _ hk (by omega)
  obtain ⟨u, u1, u2⟩ := hu
  obtain ⟨w, w1, w2⟩ := hw
  intro hk
  have a1 := u2 hk
  have a2 := w2 hk
  grind

-- plain truth24
theorem GoodA.angles {a : Iv} (h : GoodA a) : angleOk a.lo = true ∧ angleOk a.hi = true := by
  obtain ⟨h1, h2, h3⟩ := h
  have k := okI_iff.1 h1
  exact ⟨angle_of (by omega), angle_of (by omega)⟩
theorem AngOf.half {a : Iv} {y x e s : Rat} (h : AngOf a y x e s) (hs : 0 ≤ s) : ∃ w, Has a w ∧ Has halfI2 w := by
  obtain ⟨d, r, ⟨d0, d1⟩, hr, s1, s2, hc, hw⟩ := h
  refine ⟨(d : Rat) * qT + r, hw _ (by
    have : (d : Rat) * qT + r - ((d : Rat) * qT + r) = 0 := by grind
    rw [this]; exact Bd.zero hs), ?_⟩
  have q := qT_1
  have q1 : qT * 4294967296 ≤ 6746518853 := by decide +kernel
  have b : Bd ((d : Rat) * qT + r) qT := by
    obtain rfl | rfl | rfl : d = -1 ∨ d = 0 ∨ d = 1 := by omega
    · have := s2 rfl
      rw [castm1]; unfold Bd at *; constructor <;> grind
    · rw [castR0]; unfold Bd at *; constructor <;> grind
    · have := s1 rfl
      rw [castR1]; unfold Bd at *; constructor <;> grind
  unfold Bd at b
  unfold halfI2
  refine has_in ?_ ?_
  · have : ((-6746518853 : Int) : Rat) = -6746518853 := rfl
    rw [this]; grind
  · have : ((6746518853 : Int) : Rat) = 6746518853 := rfl
    rw [this]; grind
theorem neg_neg_ok {a : Iv} (h : okI a = true) : negI (negI a) = a := by
  have k := okI_iff.1 h
  have e : negI a = ⟨-a.hi, -a.lo⟩ := by unfold negI; rw [if_pos h]
  have h2 : okI ⟨-a.hi, -a.lo⟩ = true := by rw [okI_mk]; omega
  rw [e]
  unfold negI
  rw [if_pos h2]
  simp only [Int.neg_neg]
theorem iv_ext2 {a b : Iv} (h : a.lo = b.lo ∧ a.hi = b.hi) : a = b := by
  cases a; cases b; simp_all
theorem atan_neg {n : Int} (h : openOk n = true) : atanA (-n) = negI (atanA n) := by
  have k := openOk_iff.1 h
  have h' : openOk (-n) = true := openOk_iff.2 (by omega)
  by_cases h0 : n = 0
  · subst h0; exact iv_ext2 (by decide +kernel)
  · by_cases h1 : n < 0
    · have g := (atanP_ang (n := -n) (by omega) (by omega)).1.1
      have e1 : atanA n = negI (atanP (-n)) := by unfold atanA; rw [if_pos h, if_pos h1]
      have e2 : atanA (-n) = atanP (-n) := by unfold atanA; rw [if_pos h', if_neg (by omega)]
      rw [e1, e2, neg_neg_ok g]
    · have e1 : atanA n = atanP n := by unfold atanA; rw [if_pos h, if_neg h1]
      have e2 : atanA (-n) = negI (atanP n) := by unfold atanA; rw [if_pos h', if_pos (by omega), Int.neg_neg]
      rw [e1, e2]
theorem arcs1 {n : Int} (h : openOk n = true) : okI (atanA n) = true ∧ (meetI (atanA n) halfI2).2 = true ∧ (meetI (tanI (atanA n)) ⟨n, n⟩).2 = true ∧ atanA (-n) = negI (atanA n) := by
  have k := openOk_iff.1 h
  obtain ⟨g, y, x, hN, hA⟩ := atan_ang h
  obtain ⟨w, w1, w2⟩ := hA.half (by decide +kernel)
  exact ⟨g.1, over_of w1 w2, tan_hit g.1 g.angles.1 g.angles.2 hA (by decide +kernel) hN (by rw [okI_mk]; omega), atan_neg h⟩
theorem arcs2 {m : Int} (h : -4294967296 ≤ m ∧ m ≤ 4294967296) : okI (asinA m) = true ∧ insideI (asinA m) halfI2 = true ∧ (meetI (hullC (asinA m) 0) ⟨m, m⟩).2 = true ∧ (meetI (hullC (asinA m) 1) (circleI m)).2 = true ∧
    (meetI (addI (asinA m) (acosI ⟨m, m⟩)) (turnI 1)).2 = true ∧ (meetI (hullC (acosI ⟨m, m⟩) 1) ⟨m, m⟩).2 = true := by
  obtain ⟨ρ, ⟨r0, r1⟩, hρ, g, hin, d, r, ⟨d0, d1⟩, hr, hb, hy, hx, hθ⟩ := asin_pos h
  have c1 := Rat.intCast_le_intCast.2 h.1
  have c2 := Rat.intCast_le_intCast.2 h.2
  have e1 : ((-4294967296 : Int) : Rat) = -4294967296 := rfl
  have e2 : ((4294967296 : Int) : Rat) = 4294967296 := rfl
  rw [e1] at c1
  rw [e2] at c2
  have mb : Bd ((m : Rat) / 4294967296) 1 := by unfold Bd; grind
  have h1 := sin_hit (t := 0) g.1 g.angles.1 g.angles.2 hr hθ mb (by rw [Int.add_zero]; exact hy)
  have h2 := sin_hit (t := 1) g.1 g.angles.1 g.angles.2 hr hθ (y := ρ) (by unfold Bd; grind) hx
  have om : okI ⟨m, m⟩ = true := by rw [okI_mk]; omega
  have er : (meetI ⟨m, m⟩ ringI) = (⟨m, m⟩, true) := by
    unfold meetI
    rw [if_pos om, if_pos (show okI ringI = true from rfl)]
    have l : ringI.lo = -4294967296 := rfl
    have u : ringI.hi = 4294967296 := rfl
    rw [l, u]
    simp only
    rw [if_neg (by omega), Int.max_eq_left h.1, Int.min_eq_left h.2]
  obtain ⟨o1, o2, o3⟩ := g
  have ea : asinI ⟨m, m⟩ = asinA m := by
    unfold asinI
    rw [er]
    simp only [if_true]
    unfold hullI
    rw [o1]
    simp only [Bool.and_self, if_true, Int.min_self, Int.max_self]
  have ol := (okI_iff.1 o1).2.1
  have s := @subI_bd (turnI 1) (asinA m) rfl o1 (by rw [turn1]; simp only; omega) (by rw [turn1]; simp only; omega)
  have ec : acosI ⟨m, m⟩ = subI (turnI 1) (asinA m) := by unfold acosI; rw [ea]
  rw [ec]
  have a1 : angleOk (subI (turnI 1) (asinA m)).lo = true := by rw [s.1, turn1]; exact angle_of (by simp only; omega)
  have a2 : angleOk (subI (turnI 1) (asinA m)).hi = true := by rw [s.1, turn1]; exact angle_of (by simp only; omega)
  have hc := has_sub (has_turn 1) hθ
  have e3 : ((1 : Int) : Rat) * qT - ((d : Rat) * qT + r) = ((1 - d : Int) : Rat) * qT + -r := by rw [Rat.intCast_sub]; grind
  have h3 := sin_hit (t := 1) s.2 a1 a2 hr.neg (has_mono hc e3) mb (by
    rw [show 1 - d + 1 = 2 - d by omega, V_mirror]; exact hy)
  refine ⟨o1, hin, over_of h1 (has_at m), over_of h2 hρ, ?_, over_of h3 (has_at m)⟩
  have h4 := has_add hθ hc
  exact over_of (has_mono h4 (y := ((1 : Int) : Rat) * qT) (by grind)) (has_turn 1)

end Go.Proofs.YtcnapkdccjibpaaGreat.Eng
