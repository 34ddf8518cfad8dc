/- What functions of the program compute, and that the program computes it: part 31. -/
import Derived.Test.YtcnapkdccjibpaaGreatTab
import Derived.Test.YtcnapkdccjibpaaGreatEng16
import Derived.Laws.BitsLemmas
import Derived.Laws.Bits64
import Derived.Laws.Bits64b
import Derived.Lib.Mul64
import Derived.Lib.BitFns
import Derived.Laws.Externs
import Derived.Test.YtcnapkdccjibpaaGreatL1
import Derived.Test.YtcnapkdccjibpaaGreatL2
import Derived.Test.YtcnapkdccjibpaaGreatL3
import Derived.Test.YtcnapkdccjibpaaGreatL4
import Derived.Test.YtcnapkdccjibpaaGreatL5
import Derived.Test.YtcnapkdccjibpaaGreatL6
import Derived.Test.YtcnapkdccjibpaaGreatL7
import Derived.Test.YtcnapkdccjibpaaGreatL8
import Derived.Test.YtcnapkdccjibpaaGreatL11
import Derived.Test.YtcnapkdccjibpaaGreatL12
import Derived.Test.YtcnapkdccjibpaaGreatL14
import Derived.Test.YtcnapkdccjibpaaGreatL15
import Derived.Test.YtcnapkdccjibpaaGreatL18
import Derived.Test.YtcnapkdccjibpaaGreatL19
import Derived.Test.YtcnapkdccjibpaaGreatL25
import Derived.Test.YtcnapkdccjibpaaGreatL26
import Derived.Test.YtcnapkdccjibpaaGreatL27
import Derived.Test.YtcnapkdccjibpaaGreatL29
import Derived.Test.YtcnapkdccjibpaaGreatL30
namespace Go.Proofs.YtcnapkdccjibpaaGreat.Eng
open Go Go.RowKit
set_option linter.unusedVariables false
set_option linter.unusedSimpArgs false
set_option maxRecDepth 100000
set_option maxHeartbeats 1000000
-- plain truth12
/-- A polynomial's value. -/
def evL (x : Rat) : List Rat → Rat
  | [] => 0
  | c :: l => c + x * evL x l
def padL : List Rat → List Rat → List Rat
  | [], q => q
  | p, [] => p
  | a :: p, b :: q => (a + b) :: padL p q
def psc (c : Rat) : List Rat → List Rat
  | [] => []
  | a :: p => (c * a) :: psc c p
def pml : List Rat → List Rat → List Rat
  | [], _ => []
  | a :: p, q => padL (psc a q) (0 :: pml p q)
theorem ev_pad (x : Rat) : ∀ (p q : List Rat), evL x (padL p q) = evL x p + evL x q
  | [], q => by rw [padL, evL]; grind
  | a :: p, [] => by rw [padL, evL, evL]; grind; exact List.cons_ne_nil _ _
  | a :: p, b :: q => by rw [padL, evL, evL, evL, ev_pad x p q]; grind
theorem ev_psc (x c : Rat) : ∀ (p : List Rat), evL x (psc c p) = c * evL x p
  | [] => by rw [psc, evL]; grind
  | a :: p => by rw [psc, evL, evL, ev_psc x c p]; grind
theorem ev_pml (x : Rat) : ∀ (p q : List Rat), evL x (pml p q) = evL x p * evL x q
  | [], q => by rw [pml, evL]; grind
  | a :: p, q => by rw [pml, ev_pad, ev_psc, evL, evL, ev_pml x p q]; grind
/-- By Horner: the list's values at a polynomial. -/
def pcm : List Rat → List Rat → List Rat
  | [], _ => []
  | c :: l, p => padL [c] (pml p (pcm l p))
theorem ev_pcm (x : Rat) (p : List Rat) : ∀ (l : List Rat), evL x (pcm l p) = evL (evL x p) l
  | [] => rfl
  | c :: l => by
    have : evL x [c] = c := by rw [evL, evL]; grind
    rw [pcm, ev_pad, ev_pml, ev_pcm x p l, this, evL]
def pab : List Rat → List Rat
  | [] => []
  | a :: p => absR a :: pab p
theorem absR_bd (a : Rat) : Bd a (absR a) := by unfold absR Bd; split <;> grind
theorem ev_bd {x X : Rat} (h : Bd x X) : ∀ (p : List Rat), Bd (evL x p) (evL X (pab p))
  | [] => Bd.zero (by rw [pab, evL]; grind)
  | a :: p => (absR_bd a).add (h.mul (ev_bd h p))
/-- The arc series over x, as a polynomial in the square of x. -/
def aP : List Rat := [1, -1/3, 1/5, -1/7, 1/9, -1/11, 1/13, -1/15, 1/17, -1/19, 1/21]
/-- The square of the arc. -/
def wP : List Rat := 0 :: pml aP aP
def sP : List Rat := [1, -1/6, 1/120, -1/5040, 1/362880, -1/39916800]
def cP : List Rat := [1, -1/2, 1/24, -1/720, 1/40320, -1/3628800, 1/479001600]
def dP : List Rat := padL (pml aP (pcm sP wP)) (psc (-1) (pcm cP wP))
theorem dP_num : evL (1/16) (pab dP) ≤ 1/100000000000000 := by decide +kernel

-- plain truth13
/-- The truth of the arc series. -/
def AT (z : Rat) : Rat := z * evL (z * z) aP
theorem sm_sP (u : Rat) : smR (fsR u) 12 = u * evL (u * u) sP := by
  simp only [smR, fsR, tmR, sgs, sP, evL]
  simp
  grind
theorem sm_cP (u : Rat) : smR (fcR u) 13 = evL (u * u) cP := by
  simp only [smR, fcR, tmR, sgc, cP, evL]
  simp
  grind
theorem ev_wP (y : Rat) : evL y wP = y * (evL y aP * evL y aP) := by
  unfold wP; rw [evL, ev_pml]; grind
theorem sq_16 {z : Rat} (h : Bd z (1/4)) : Bd (z * z) (1/16) := by
  have := h.mul h
  have e : (1/4 : Rat) * (1/4) = 1/16 := by decide +kernel
  rw [e] at this; exact this
theorem aP_num : (1/4 : Rat) * evL (1/16) (pab aP) ≤ 13/50 := by decide +kernel
theorem AT_bd {z : Rat} (h : Bd z (1/4)) : Bd (AT z) (13/50) := (h.mul (ev_bd (sq_16 h) aP)).mono aP_num
theorem tail_numA : smR (tmR (13/50)) 30 - smR (tmR (13/50)) 12 ≤ 1/100000000000000 := by decide +kernel
theorem tail_numB : smR (tmR (13/50)) 30 - smR (tmR (13/50)) 13 ≤ 1/100000000000000 := by decide +kernel
/-- How far off the arc series' sine and cosine may be. -/
def eArc : Rat := 1/10000000000000
theorem AT_tan {z : Rat} (h : Bd z (1/4)) : Bd (sT (AT z) - z * cT (AT z)) eArc := by
  have hu := AT_bd h
  have t1 : Bd (sT (AT z) - smR (fsR (AT z)) 12) (1/100000000000000) := (sm_tail (fs_bd hu) 12 18).mono tail_numA
  have t2 : Bd (cT (AT z) - smR (fcR (AT z)) 13) (1/100000000000000) := (sm_tail (fc_bd hu) 13 17).mono tail_numB
  rw [sm_sP] at t1
  rw [sm_cP] at t2
  have hw : AT z * AT z = evL (z * z) wP := by rw [ev_wP]; unfold AT; grind
  rw [hw, ← ev_pcm] at t1 t2
  have hd := ev_bd (sq_16 h) dP
  have ed : evL (z * z) dP = evL (z * z) aP * evL (z * z) (pcm sP wP) + -1 * evL (z * z) (pcm cP wP) := by
    unfold dP; rw [ev_pad, ev_pml, ev_psc]
  rw [ed] at hd
  have hd2 := h.mul (hd.mono dP_num)
  have t3 := h.mul t2
  have eu : AT z = z * evL (z * z) aP := rfl
  generalize sT (AT z) = S at *
  generalize cT (AT z) = C at *
  generalize evL (z * z) (pcm sP wP) = P at *
  generalize evL (z * z) (pcm cP wP) = Q at *
  generalize evL (z * z) aP = A at *
  rw [eu] at t1
  unfold Bd eArc at *
  clear h hu hd hw ed t2
  grind

-- plain truth14
/-- How far off a square of a root may be. -/
def tq : Rat := 1/100000000000000000
theorem ex_root {v : Rat} (h0 : 0 ≤ v) (h1 : v ≤ 4) : ∃ s : Rat, 0 ≤ s ∧ s * s ≤ v ∧ v - s * s ≤ tq := by
  obtain ⟨w, hw⟩ : ∃ w : Int, (v * 1000000000000000000000000000000000000).floor = w := ⟨_, rfl⟩
  have f1 := Rat.floor_le (v * 1000000000000000000000000000000000000)
  have f2 := Rat.lt_floor_add_one (v * 1000000000000000000000000000000000000)
  have g0 : 0 ≤ w := by rw [← hw, Rat.le_floor_iff]; have : ((0 : Int) : Rat) = 0 := rfl; rw [this]; grind
  have g1 : w < 5000000000000000000000000000000000000 := by
    rw [← hw, Rat.floor_lt_iff]
    have : ((5000000000000000000000000000000000000 : Int) : Rat) = 5000000000000000000000000000000000000 := rfl
    rw [this]; grind
  rw [hw] at f1 f2
  have sp := rootW_spec g0 (by omega)
  have rn := rootW_nonneg w
  generalize rootW w = k at *
  have c1 := Rat.intCast_le_intCast.2 sp.1
  have c2 := Rat.intCast_lt_intCast.2 sp.2
  have c3 := Rat.intCast_le_intCast.2 rn
  rw [Rat.intCast_mul] at c1 c2
  have e1 : ((1 : Int) : Rat) = 1 := rfl
  have e0 : ((0 : Int) : Rat) = 0 := rfl
  rw [Rat.intCast_add, e1] at c2 f2
  rw [e0] at c3
  have c4 : (w : Rat) + 1 ≤ ((k : Rat) + 1) * ((k : Rat) + 1) := by
    have := sp.2
    have h2 : w + 1 ≤ (k + 1) * (k + 1) := by omega
    have := Rat.intCast_le_intCast.2 h2
    rw [Rat.intCast_mul, Rat.intCast_add, Rat.intCast_add, e1] at this
    exact this
  have kb : (k : Rat) ≤ 3000000000000000000 := by
    apply Rat.not_lt.1; intro hlt
    have := Rat.mul_lt_mul_of_pos_left hlt (show (0 : Rat) < 3000000000000000000 by decide +kernel)
    have := Rat.mul_lt_mul_of_pos_right hlt (show (0 : Rat) < k by grind)
    have := Rat.intCast_lt_intCast.2 g1
    have e5 : ((5000000000000000000000000000000000000 : Int) : Rat) = 5000000000000000000000000000000000000 := rfl
    rw [e5] at this
    grind
  refine ⟨(k : Rat) / 1000000000000000000, by grind, ?_, ?_⟩
  · have : (k : Rat) / 1000000000000000000 * ((k : Rat) / 1000000000000000000) = k * k / 1000000000000000000000000000000000000 := by grind
    rw [this]; grind
  · have : (k : Rat) / 1000000000000000000 * ((k : Rat) / 1000000000000000000) = k * k / 1000000000000000000000000000000000000 := by grind
    rw [this]; unfold tq; grind
theorem sq_le {a b : Rat} (h0 : 0 ≤ a) (hb : 0 ≤ b) (h : a * a ≤ b * b) : a ≤ b := by
  apply Rat.not_lt.1; intro hlt
  have h1 := Rat.mul_lt_mul_of_pos_right hlt (show 0 < a by grind)
  have h2 := Rat.mul_le_mul_of_nonneg_left (Rat.le_of_lt hlt) hb
  grind
theorem has_root {a : Iv} {v : Rat} (ha : Has a v) (h0 : 0 ≤ v) (h1 : v ≤ 4) : ∃ s, 0 ≤ s ∧ Has (sqrtI a) s ∧ Bd (s * s - v) tq := by
  obtain ⟨s0, p0, p1, p2⟩ := ex_root h0 h1
  have ht : (0 : Rat) ≤ tq := by decide +kernel
  by_cases hok : okI (sqrtI a) = true
  · obtain ⟨oa, a0, e1, e2⟩ := sqrtI_out hok
    have hv := ha oa
    have ko := okI_iff.1 oa
    have ks := okI_iff.1 hok
    have r1 := (rootW_spec (w := a.lo * 4294967296) (by omega) (by omega)).1
    have r0 := rootW_nonneg (a.lo * 4294967296)
    have u := sqrtUp_val (n := a.hi) (by omega) (by omega)
    rw [← e1] at r1 r0
    rw [← e2] at u
    have c1 := Rat.intCast_le_intCast.2 r1
    have c2 := Rat.intCast_le_intCast.2 u.2.1
    have c0 := Rat.intCast_le_intCast.2 r0
    have c3 := Rat.intCast_le_intCast.2 ks.2.1
    have e4 : ((4294967296 : Int) : Rat) = 4294967296 := rfl
    have e0 : ((0 : Int) : Rat) = 0 := rfl
    rw [Rat.intCast_mul, Rat.intCast_mul, e4] at c1 c2
    rw [e0] at c0
    obtain ⟨L, hL⟩ : ∃ L : Rat, ((sqrtI a).lo : Rat) = L := ⟨_, rfl⟩
    obtain ⟨H, hH⟩ : ∃ H : Rat, ((sqrtI a).hi : Rat) = H := ⟨_, rfl⟩
    rw [hL] at c0 c1 c3
    rw [hH] at c2 c3
    have l2 : L / 4294967296 * (L / 4294967296) ≤ v := by
      have : L / 4294967296 * (L / 4294967296) = L * L / 18446744073709551616 := by grind
      rw [this]; grind
    have h2 : v ≤ H / 4294967296 * (H / 4294967296) := by
      have : H / 4294967296 * (H / 4294967296) = H * H / 18446744073709551616 := by grind
      rw [this]; grind
    have mk : ∀ s : Rat, L ≤ s * 4294967296 → s * 4294967296 ≤ H → Has (sqrtI a) s := fun s q1 q2 _ => by rw [hL, hH]; exact ⟨q1, q2⟩
    by_cases k1 : s0 < L / 4294967296
    · have := sq_mono p0 (Rat.le_of_lt k1)
      exact ⟨L / 4294967296, by grind, mk _ (by grind) (by grind), by unfold Bd; grind⟩
    · by_cases k2 : H / 4294967296 < s0
      · have := sq_mono (show 0 ≤ H / 4294967296 by grind) (Rat.le_of_lt k2)
        exact ⟨H / 4294967296, by grind, mk _ (by grind) (by grind), by unfold Bd; grind⟩
      · exact ⟨s0, p0, mk _ (by grind) (by grind), by unfold Bd; grind⟩
  · exact ⟨s0, p0, has_no (Bool.eq_false_iff.2 hok), by unfold Bd; grind⟩
/-- The tangent of half an arc. -/
theorem has_halved {X : Iv} {x : Rat} (hX : Has X x) (h : Bd x 1) : ∃ t r : Rat, Has (halvedI X) t ∧ 0 ≤ r ∧ t * (1 + r) = x ∧ Bd (r * r - (1 + x * x)) tq := by
  have h2 := h.mul h
  have s := sq_nonneg x
  have hv := has_add has_one (has_sqr hX)
  obtain ⟨r, r0, hr, re⟩ := has_root hv (by grind) (by unfold Bd at h2; grind)
  refine ⟨x / (1 + r), r, has_div hX (has_add has_one hr), r0, ?_, re⟩
  have : 1 + r ≠ 0 := by grind
  grind
/-- Doubled arcs. -/
theorem dbl_tan {u z y r e : Rat} (hu : Bd u (4/5)) (h : Bd (sT u - z * cT u) e) (r0 : 0 ≤ r) (hz : z * (1 + r) = y) (hr : Bd (r * r - (1 + y * y)) tq) (hy : Bd y 1) (hzb : Bd z 1)
    (e0 : 1/10000000000000 ≤ e) (e1 : e ≤ 1/100) : Bd (sT (u + u) - y * cT (u + u)) (5 * e) := by
  have a1 := (add_sin hu hu).mono (show _ ≤ eps by have := eE_num.2; unfold eps; grind)
  have a2 := (add_cos hu hu).mono (show _ ≤ eps by have := eE_num.2; unfold eps; grind)
  have a3 := hy.mul a2
  have hc : Bd (cT u) 1 := ⟨by have := cT_pos hu; grind, cT_le1 hu⟩
  generalize sT (u + u) = S2 at *
  generalize cT (u + u) = C2 at *
  generalize sT u = S at *
  generalize cT u = C at *
  obtain ⟨d, hd⟩ : ∃ d, S - z * C = d := ⟨_, rfl⟩
  rw [hd] at h
  have hS : S = z * C + d := by grind
  subst hS
  obtain ⟨Q, hQ⟩ : ∃ Q, 2 * z - y + y * z * z = Q := ⟨_, rfl⟩
  have hQ1 : (1 + r) * Q = -z * (r * r - (1 + y * y)) := by rw [← hQ, ← hz]; grind
  have q1 := hzb.mul hr
  have hQb : Bd Q tq := by
    constructor
    · apply Rat.not_lt.1; intro hlt
      have := Rat.mul_nonneg r0 (show 0 ≤ -Q by have : (0 : Rat) ≤ tq := by decide +kernel
                                                grind)
      unfold Bd at q1; grind
    · apply Rat.not_lt.1; intro hlt
      have := Rat.mul_nonneg r0 (show 0 ≤ Q by have : (0 : Rat) ≤ tq := by decide +kernel
                                               grind)
      unfold Bd at q1; grind
  have b1 := (hc.mul hc).mul hQb
  have b2 : Bd (2 * C + 2 * y * z * C + y * d) 5 := by
    have k1 := (hy.mul hzb).mul hc
    have k2 := hy.mul h
    unfold Bd at *; grind
  have b3 := h.mul b2
  have key : (z * C + d) * C + C * (z * C + d) - y * (C * C - (z * C + d) * (z * C + d)) = C * C * Q + d * (2 * C + 2 * y * z * C + y * d) := by rw [← hQ]; grind
  have b2' : Bd (2 * C + 2 * y * z * C + y * d) (4 + 1/100) := by
    have k1 := (hy.mul hzb).mul hc
    have k2 := hy.mul h
    unfold Bd at *; grind
  have b4 := h.mul b2'
  generalize C * C * Q = g1 at *
  generalize d * (2 * C + 2 * y * z * C + y * d) = g2 at *
  generalize (z * C + d) * C + C * (z * C + d) = g3 at *
  generalize C * C - (z * C + d) * (z * C + d) = g4 at *
  have a4 : y * (g4 - C2) = y * g4 - y * C2 := by grind
  rw [a4] at a3
  unfold Bd eps tq at *
  clear hQ1 hQ q1 hz b3 b2
  grind

-- plain truth15
def arcR : Nat → Rat → Rat → Rat
  | 0, _, s => s
  | k + 1, y, s => arcR k y (((1 : Int) : Rat) / ((2 * (k : Int) + 1 : Int) : Rat) - y * s)
theorem has_arcL : ∀ (k : Nat) {y s : Iv} {Y S : Rat}, Has y Y → Has s S → Has (arcSL k y s) (arcR k Y S)
  | 0, y, s, Y, S, _, hs => hs
  | k + 1, y, s, Y, S, hy, hs => by
    rw [arcSL, arcR]
    exact has_arcL k hy (has_sub has_quot (has_mul hy hs))
theorem arc_ev (y : Rat) : arcR 10 y (((1 : Int) : Rat) / ((21 : Int) : Rat)) = evL y aP := by
  simp only [arcR, aP, evL]
  simp
  grind
theorem has_arcS {X : Iv} {z w : Rat} (hX : Has X z) (hw : Bd (w - AT z) (1/4294967296)) : Has (arcS X) w := by
  unfold arcS
  split
  · have h1 := has_mul hX (has_arcL 10 (has_sqr hX) (has_quot (n := 1) (d := 21)))
    rw [arc_ev] at h1
    have h2 := has_add h1 (has_tiny hw)
    exact has_mono h2 (by unfold AT; grind)
  · exact has_whole
/-- A number held by the argument of the arc series is small, or the result says nothing. -/
theorem arcS_dom {X : Iv} {z : Rat} (hX : Has X z) (hok : okI (arcS X) = true) : Bd z (1/4) := by
  unfold arcS at hok
  split at hok
  · rename_i h
    unfold insideI at h
    simp only [Bool.or_eq_true, Bool.and_eq_true, decide_eq_true_eq, Bool.not_eq_true'] at h
    have hr : okI ⟨-1073741824, 1073741824⟩ = true := rfl
    rw [hr] at h
    rcases h with h | ⟨h1, h2, h3⟩
    · cases h
    · have hx := hX h1
      have c1 := Rat.intCast_le_intCast.2 h2
      have c2 := Rat.intCast_le_intCast.2 h3
      have e1 : ((-1073741824 : Int) : Rat) = -1073741824 := rfl
      have e2 : ((1073741824 : Int) : Rat) = 1073741824 := rfl
      rw [e1] at c1
      rw [e2] at c2
      unfold Bd; grind
  · rw [okI_whole] at hok; cases hok
def aQ : List Rat := [-1/3, 1/5, -1/7, 1/9, -1/11, 1/13, -1/15, 1/17, -1/19, 1/21]
theorem aQ_num : (1/16 : Rat) * evL (1/16) (pab aQ) ≤ 1/40 := by decide +kernel
theorem aP_near {z : Rat} (h : Bd z (1/4)) : Bd (evL (z * z) aP - 1) (1/40) := by
  have h1 := ((sq_16 h).mul (ev_bd (sq_16 h) aQ)).mono aQ_num
  have e : evL (z * z) aP - 1 = z * z * evL (z * z) aQ := by
    show 1 + z * z * evL (z * z) aQ - 1 = _
    grind
  rw [e]; exact h1
theorem AT_nonneg {z : Rat} (h : Bd z (1/4)) (h0 : 0 ≤ z) : 0 ≤ AT z ∧ AT z ≤ z * (41/40) := by
  have := aP_near h
  unfold Bd at this
  unfold AT
  have a := Rat.mul_nonneg h0 (show 0 ≤ evL (z * z) aP by grind)
  have b := Rat.mul_le_mul_of_nonneg_left (show evL (z * z) aP ≤ 41/40 by grind) h0
  exact ⟨a, b⟩
/-- Half a tangent of at most 1. -/
theorem half_bd {t r x : Rat} (h0 : 0 ≤ x) (h1 : x ≤ 1) (hr : 0 ≤ r) (e : t * (1 + r) = x) (hq : Bd (r * r - (1 + x * x)) tq) : 0 ≤ t ∧ t ≤ 21/50 := by
  have t0 : 0 ≤ t := by
    apply Rat.not_lt.1; intro hlt
    have := Rat.mul_lt_mul_of_pos_right hlt (show 0 < 1 + r by grind)
    grind
  refine ⟨t0, ?_⟩
  apply Rat.not_lt.1; intro hlt
  have a := Rat.mul_lt_mul_of_pos_right hlt (show 0 < 1 + r by grind)
  have b : 21/50 * (1 + r) ≤ x := by grind
  have c : r ≤ x * (50/21) - 1 := by grind
  have d := mul_le2 hr c hr c
  have f := Rat.mul_nonneg h0 (show 0 ≤ 1 - x by grind)
  have g : (x * (50/21) - 1) * (x * (50/21) - 1) = x * x * (2500/441) - x * (100/21) + 1 := by grind
  rw [g] at d
  unfold Bd tq at hq
  grind
theorem half_bd2 {t r x : Rat} (h0 : 0 ≤ x) (h1 : x ≤ 21/50) (hr : 0 ≤ r) (e : t * (1 + r) = x) (hq : Bd (r * r - (1 + x * x)) tq) : 0 ≤ t ∧ t ≤ 22/100 := by
  have t0 : 0 ≤ t := by
    apply Rat.not_lt.1; intro hlt
    have := Rat.mul_lt_mul_of_pos_right hlt (show 0 < 1 + r by grind)
    grind
  refine ⟨t0, ?_⟩
  apply Rat.not_lt.1; intro hlt
  have a := Rat.mul_lt_mul_of_pos_right hlt (show 0 < 1 + r by grind)
  have b : 22/100 * (1 + r) ≤ x := by grind
  have s := sq_nonneg x
  have c : r ≤ 91/100 := by grind
  have d := mul_le2 hr c hr c
  unfold Bd tq at hq
  grind
/-- How far off an arc's sine and cosine may be. -/
def eT : Rat := 3/1000000000000
theorem four_truth {X : Iv} {x : Rat} (hX : Has X x) (h0 : 0 ≤ x) (h1 : x ≤ 1) :
    ∃ r : Rat, 0 ≤ r ∧ r ≤ 4/5 ∧ (x = 0 → r = 0) ∧ Bd (sT r - x * cT r) eT ∧ ∀ w, Bd (w - r) (1/1073741824) → Has (fourI X) w := by
  have hb : Bd x 1 := by unfold Bd; grind
  obtain ⟨t, r1, ht, r10, te, tr⟩ := has_halved hX hb
  have hb1 := half_bd h0 h1 r10 te tr
  obtain ⟨z, r2, hz, r20, ze, zr⟩ := has_halved ht (by unfold Bd; grind)
  have hb2 := half_bd2 hb1.1 hb1.2 r20 ze zr
  have z4 : Bd z (1/4) := by unfold Bd; grind
  have n := AT_nonneg z4 hb2.1
  have u1 : Bd (AT z) (4/5) := by unfold Bd; grind
  have k0 := AT_tan z4
  have k1 := dbl_tan u1 k0 r20 ze zr (by unfold Bd; grind) (by unfold Bd; grind) (by decide +kernel) (by decide +kernel)
  have u2 : Bd (AT z + AT z) (4/5) := by unfold Bd; grind
  have k2 := dbl_tan u2 k1 r10 te tr hb (by unfold Bd; grind) (by decide +kernel) (by decide +kernel)
  have kf := k2.mono (e := eT) (by decide +kernel)
  obtain ⟨r, hr⟩ : ∃ r, AT z + AT z + (AT z + AT z) = r := ⟨_, rfl⟩
  rw [hr] at kf
  have r0 : 0 ≤ r := by grind
  have rb : r ≤ 1 := by grind
  have zero : x = 0 → r = 0 := by
    intro hx
    have t0 : t = 0 := by
      rw [hx] at te
      rcases Rat.mul_eq_zero.1 te with h | h
      · exact h
      · exfalso; grind
    have z0 : z = 0 := by
      rw [t0] at ze
      rcases Rat.mul_eq_zero.1 ze with h | h
      · exact h
      · exfalso; grind
    rw [← hr, z0]; unfold AT; grind
  refine ⟨r, r0, ?_, zero, kf, ?_⟩
  · apply Rat.not_lt.1; intro hlt
    have m1 := sT_mono (x := 4/5) (y := r) (by unfold Bd; constructor <;> decide +kernel) (by unfold Bd; grind) (by grind)
    have m2 := cT_mono (x := 4/5) (y := r) (by decide +kernel) rb (by grind)
    have c0 := cT_mono (x := r) (y := 1) r0 (by grind) rb
    have c1 : 0 ≤ cT 1 := by decide +kernel
    have m3 := Rat.mul_le_mul_of_nonneg_right h1 (show 0 ≤ cT r by grind)
    have num : cT (4/5) + 1/100 ≤ sT (4/5) := by decide +kernel
    unfold Bd eT at kf
    grind
  · intro w hw
    have hs : Has (arcS (halvedI (halvedI X))) (w / 4) := has_arcS hz (by unfold Bd at *; grind)
    have := has_dbl (has_dbl hs)
    exact has_mono this (by grind)

-- plain truth16
theorem divDown_pos {a b : Int} (ha : fixOk a = true) (hb : fixOk b = true) (h : 0 < b) (h1 : -1152921504606846976 < a * 4294967296 / b) (h2 : a * 4294967296 / b < 1152921504606846976) : divDown a b = (a * 4294967296 / b, true) := by
  unfold divDown
  rw [ha, hb]
  simp only [Bool.and_self, if_true]
  rw [if_neg (by omega)]
  unfold mulDiv
  rw [if_pos h]
  generalize a * 4294967296 / b = q at *
  unfold wideInt
  rw [if_pos (by rw [within_iff]; omega)]
  unfold fixed
  rw [if_pos (by rw [fixOk_iff.2 (by omega)]; rfl)]
/-- Quotients of positive intervals. -/
theorem divI_pos {a b : Iv} {M B : Int} (ha : okI a = true) (hb : okI b = true) (a0 : 0 ≤ a.lo) (hB : 0 < B) (b0 : B ≤ b.lo) (hM : a.hi * 4294967296 ≤ M * B) (m1 : M < 1152921504606846976) :
    okI (divI a b) = true ∧ 0 ≤ (divI a b).lo ∧ (divI a b).hi ≤ M := by
  have ka := okI_iff.1 ha
  have kb := okI_iff.1 hb
  have hw : within 0 b.lo b.hi = false := by
    cases hq : within 0 b.lo b.hi with
    | false => rfl
    | true => rw [within_iff] at hq; omega
  unfold divI
  rw [ha, hb, hw]
  simp only [Bool.and_self, Bool.not_false, if_true]
  have M0 : 0 ≤ M := by
    apply Int.not_lt.1; intro hlt
    have := Int.mul_neg_of_neg_of_pos hlt hB
    omega
  refine comb_bd (fun x hx y hy => ?_) (by omega) m1
  have y0 : B ≤ y := by rcases hy with rfl | rfl <;> omega
  have x0 : 0 ≤ x := by rcases hx with rfl | rfl <;> omega
  have x1 : x ≤ a.hi := by rcases hx with rfl | rfl <;> omega
  have fx : fixOk x = true := by rw [fixOk_iff]; rcases hx with rfl | rfl <;> omega
  have fnx : fixOk (-x) = true := by rw [fixOk_iff]; rcases hx with rfl | rfl <;> omega
  have fy : fixOk y = true := by rw [fixOk_iff]; rcases hy with rfl | rfl <;> omega
  have hy0 : 0 < y := by omega
  have p1 : x * 4294967296 ≤ M * y := by
    have := Int.mul_le_mul_of_nonneg_left y0 M0
    omega
  have q0 : 0 ≤ x * 4294967296 / y := Int.ediv_nonneg (by omega) (by omega)
  have q1 : x * 4294967296 / y ≤ M := Int.ediv_le_of_le_mul hy0 p1
  have q2 : -M ≤ -x * 4294967296 / y := (Int.le_ediv_iff_mul_le hy0).2 (by rw [Int.neg_mul, Int.neg_mul]; omega)
  have e3 := Int.ediv_mul_add_emod (x * 4294967296) y
  have e4 := Int.ediv_mul_add_emod (-x * 4294967296) y
  have r3 := Int.emod_nonneg (x * 4294967296) (show y ≠ 0 by omega)
  have r4 := Int.emod_nonneg (-x * 4294967296) (show y ≠ 0 by omega)
  have q3 : -x * 4294967296 / y ≤ -(x * 4294967296 / y) := by
    apply Int.le_of_not_gt
    intro hg
    have := Int.mul_pos (show 0 < x * 4294967296 / y + -x * 4294967296 / y by omega) hy0
    rw [Int.add_mul] at this
    omega
  refine ⟨x * 4294967296 / y, -(-x * 4294967296 / y), divDown_pos fx fy hy0 (by omega) (by omega), ?_, q0, by omega, by omega⟩
  unfold divUp
  rw [fx, fy]
  simp only [Bool.and_self, if_true]
  rw [divDown_pos fnx fy hy0 (by omega) (by omega)]
theorem halved_bd {X : Iv} {M : Int} (ha : okI X = true) (h0 : 0 ≤ X.lo) (h1 : X.hi ≤ 2 * M) (hM : M ≤ 2147483648) : okI (halvedI X) = true ∧ 0 ≤ (halvedI X).lo ∧ (halvedI X).hi ≤ M := by
  have k := okI_iff.1 ha
  have s1 := @sqrI_bd X 4294967296 4294967296 ha (by omega) (by omega) (by omega) (by omega) (by omega)
  have l1 := (okI_iff.1 s1.1).2.1
  have e1 : intI 1 = ⟨4294967296, 4294967296⟩ := rfl
  have a1 := @addI_bd (intI 1) (sqrI X) rfl s1.1 (by rw [e1]; simp only; omega) (by rw [e1]; simp only; omega)
  rw [e1] at a1
  simp only at a1
  have sv := @sqrtI_val (addI (intI 1) (sqrI X)) (by rw [e1]; exact a1.2) (by rw [e1, a1.1]; simp only; omega) (by
    have := (sqrtUp_bd (addI (intI 1) (sqrI X)).hi).2; omega)
  have r1 := rootW_spec (w := (addI (intI 1) (sqrI X)).lo * 4294967296) (by rw [e1, a1.1]; simp only; omega) (by rw [e1, a1.1]; simp only; omega)
  have r0 := rootW_nonneg ((addI (intI 1) (sqrI X)).lo * 4294967296)
  have ub := (sqrtUp_bd (addI (intI 1) (sqrI X)).hi).2
  obtain ⟨R, hR⟩ : ∃ R, rootW ((addI (intI 1) (sqrI X)).lo * 4294967296) = R := ⟨_, rfl⟩
  rw [hR] at sv r1 r0
  have lo : 4294967296 ≤ (addI (intI 1) (sqrI X)).lo := by rw [e1, a1.1]; simp only; omega
  have R0 : 4294967296 ≤ R := by
    apply Int.not_lt.1; intro hlt
    have := (@mul_pos2 (R + 1) (R + 1) 4294967296 4294967296 (by omega) (by omega) (by omega) (by omega)).2
    omega
  have so : okI (sqrtI (addI (intI 1) (sqrI X))) = true := by rw [sv.1]; exact sv.2
  have sl : (sqrtI (addI (intI 1) (sqrI X))).lo = R := by rw [sv.1]
  have sh : (sqrtI (addI (intI 1) (sqrI X))).hi ≤ 70368744177665 := by rw [sv.1]; exact ub
  have sk := (okI_iff.1 so).2.1
  have a2 := @addI_bd (intI 1) (sqrtI (addI (intI 1) (sqrI X))) rfl so (by rw [e1]; rw [e1] at sl sk; simp only; omega) (by rw [e1]; rw [e1] at sh; simp only; omega)
  have lo2 : 8589934592 ≤ (addI (intI 1) (sqrtI (addI (intI 1) (sqrI X)))).lo := by
    rw [a2.1]; simp only; rw [sl]; rw [e1]; simp only; omega
  exact divI_pos (B := 8589934592) ha a2.2 h0 (by omega) lo2 (by omega) (by omega)
theorem quot_ok : ∀ k : Nat, k < 11 → okI (quotI 1 (2 * (k : Int) + 1)) = true ∧ 195225000 ≤ (quotI 1 (2 * (k : Int) + 1)).lo ∧ (quotI 1 (2 * (k : Int) + 1)).hi ≤ 4294967296 := by decide +kernel
theorem arcL_bd : ∀ (k : Nat) (y s : Iv), k ≤ 10 → okI y = true → 0 ≤ y.lo → y.hi ≤ 268435456 → okI s = true → -4294967296 ≤ s.lo → s.hi ≤ 4294967296 + 268435456 →
    okI (arcSL k y s) = true ∧ -4294967296 ≤ (arcSL k y s).lo ∧ (arcSL k y s).hi ≤ 4294967296 + 268435456
  | 0, y, s, _, _, _, _, h1, h2, h3 => ⟨h1, h2, h3⟩
  | k + 1, y, s, hk, hy, y1, y2, h1, h2, h3 => by
    have q := quot_ok k (by omega)
    have hyl := (okI_iff.1 hy).2.1
    have hsl := (okI_iff.1 h1).2.1
    have ql := (okI_iff.1 q.1).2.1
    have hm := @mulI_bd y s (-268435456) 290000000 hy h1 (fun x hx z hz => by
      have a1 := @mul_abs x z 268435456 4563402752 (by rcases hx with rfl | rfl <;> omega) (by rcases hx with rfl | rfl <;> omega) (by rcases hz with rfl | rfl <;> omega) (by rcases hz with rfl | rfl <;> omega)
      have a2 : -(268435456 * 4294967296) ≤ x * z := by
        have x0 : 0 ≤ x := by rcases hx with rfl | rfl <;> omega
        have x1 : x ≤ 268435456 := by rcases hx with rfl | rfl <;> omega
        have z0 : -4294967296 ≤ z := by rcases hz with rfl | rfl <;> omega
        have b1 := Int.mul_le_mul_of_nonneg_left z0 x0
        omega
      omega) (by omega) (by omega)
    have hml := (okI_iff.1 hm.1).2.1
    have hs := @subI_bd (quotI 1 (2 * (k : Int) + 1)) (mulI y s) q.1 hm.1 (by omega) (by omega)
    rw [arcSL]
    refine arcL_bd k y _ (by omega) hy y1 y2 hs.2 ?_ ?_
    · rw [hs.1]; simp only; omega
    · rw [hs.1]; simp only; omega
theorem arcS_bd {X : Iv} (ha : okI X = true) (h0 : 0 ≤ X.lo) (h1 : X.hi ≤ 1073741824) : okI (arcS X) = true ∧ -2147483648 ≤ (arcS X).lo ∧ (arcS X).hi ≤ 2147483648 := by
  have k := okI_iff.1 ha
  have s1 := @sqrI_bd X 1073741824 268435456 ha (by omega) (by omega) (by omega) (by omega) (by omega)
  have q := quot_ok 10 (by omega)
  have hs := arcL_bd 10 (sqrI X) (quotI 1 21) (by omega) s1.1 s1.2.1 s1.2.2 q.1 (by have := q.2.1; simp at this; omega) (by have := q.2.2; simp at this; omega)
  have hsl := (okI_iff.1 hs.1).2.1
  have hm := @mulI_bd X (arcSL 10 (sqrI X) (quotI 1 21)) (-1200000000) 1200000000 ha hs.1 (fun x hx z hz => by
    have := @mul_abs x z 1073741824 4563402752 (by rcases hx with rfl | rfl <;> omega) (by rcases hx with rfl | rfl <;> omega) (by rcases hz with rfl | rfl <;> omega) (by rcases hz with rfl | rfl <;> omega)
    omega) (by omega) (by omega)
  have hml := (okI_iff.1 hm.1).2.1
  have a := @addI_bd (mulI X (arcSL 10 (sqrI X) (quotI 1 21))) ⟨-1, 1⟩ hm.1 rfl (by simp only; omega) (by simp only; omega)
  unfold arcS
  have hin : insideI X ⟨-1073741824, 1073741824⟩ = true := by
    unfold insideI
    rw [ha]
    simp only [Bool.true_and, Bool.or_eq_true, Bool.and_eq_true, decide_eq_true_eq]
    right; omega
  rw [if_pos hin, a.1]
  refine ⟨by rw [← a.1]; exact a.2, ?_, ?_⟩ <;> simp only <;> omega
theorem four_bd {X : Iv} (ha : okI X = true) (h0 : 0 ≤ X.lo) (h1 : X.hi ≤ 4294967296) : okI (fourI X) = true ∧ -8589934592 ≤ (fourI X).lo ∧ (fourI X).hi ≤ 8589934592 := by
  have b1 := halved_bd (M := 2147483648) ha h0 (by omega) (by omega)
  have b2 := halved_bd (M := 1073741824) b1.1 b1.2.1 (by omega) (by omega)
  have s := arcS_bd b2.1 b2.2.1 b2.2.2
  have sl := (okI_iff.1 s.1).2.1
  have d1 := @addI_bd (arcS (halvedI (halvedI X))) (arcS (halvedI (halvedI X))) s.1 s.1 (by omega) (by omega)
  have d2 := @addI_bd (dblI (arcS (halvedI (halvedI X)))) (dblI (arcS (halvedI (halvedI X)))) d1.2 d1.2 (by unfold dblI; rw [d1.1]; simp only; omega) (by unfold dblI; rw [d1.1]; simp only; omega)
  unfold fourI
  refine ⟨d2.2, ?_, ?_⟩
  · show _ ≤ (addI _ _).lo
    rw [d2.1]; unfold dblI; rw [d1.1]; simp only; omega
  · show (addI _ _).hi ≤ _
    rw [d2.1]; unfold dblI; rw [d1.1]; simp only; omega

-- plain truth17
/-- An interval of angles that holds, with room, the direction of (x, y), where x is not negative. -/
def AngOf (a : Iv) (y x e s : Rat) : Prop := ∃ (d : Int) (r : Rat), (-1 ≤ d ∧ d ≤ 1) ∧ Bd r (4/5) ∧ (d = 1 → r < 0) ∧ (d = -1 → 0 < r) ∧ Bd (VV d r * x - VV (d + 1) r * y) e ∧ ∀ w, Bd (w - ((d : Rat) * qT + r)) s → Has a w
/-- A direction whose tangent is a fix. -/
def NormOf (y x : Rat) (n : Int) : Prop := 1/1000000000 ≤ x ∧ x ≤ 1 ∧ Bd y 1 ∧ (x = 1 ∨ y = 1 ∨ y = -1) ∧ y * 4294967296 = n * x
theorem AngOf.neg {a : Iv} {y x e s : Rat} (h : AngOf a y x e s) : AngOf (negI a) (-y) x e s := by
  obtain ⟨d, r, ⟨d0, d1⟩, hr, s1, s2, hc, hw⟩ := h
  refine ⟨-d, -r, ⟨by omega, by omega⟩, hr.neg, fun h => by have := s2 (by omega); grind, fun h => by have := s1 (by omega); grind, ?_, fun w h => ?_⟩
  · rw [V_neg, V_neg1]
    have := hc.neg
    have e1 : -(VV d r * x - VV (d + 1) r * y) = -VV d r * x - VV (d + 1) r * -y := by grind
    rw [← e1]; exact this
  · have h2 := hw (-w) (by
      rw [Rat.intCast_neg] at h
      unfold Bd at *; grind)
    exact has_mono (has_neg h2) (by grind)
theorem NormOf.neg {y x : Rat} {n : Int} (h : NormOf y x n) : NormOf (-y) x (-n) := by
  obtain ⟨h1, h2, h3, h4, h5⟩ := h
  refine ⟨h1, h2, h3.neg, by grind, ?_⟩
  rw [Rat.intCast_neg]; grind
def GoodA (a : Iv) : Prop := okI a = true ∧ -17179869184 ≤ a.lo ∧ a.hi ≤ 17179869184
theorem GoodA.neg {a : Iv} (h : GoodA a) : GoodA (negI a) := by
  obtain ⟨h1, h2, h3⟩ := h
  have k := okI_iff.1 h1
  unfold negI
  rw [if_pos h1]
  exact ⟨by rw [okI_mk]; omega, by simp only; omega, by simp only; omega⟩
theorem atanP_ang {n : Int} (h0 : 0 ≤ n) (h1 : n < 1152921504606846976) : GoodA (atanP n) ∧ ∃ y x, NormOf y x n ∧ AngOf (atanP n) y x eT (1/1073741824) := by
  have e1 : intI 1 = ⟨4294967296, 4294967296⟩ := rfl
  have n0 := Rat.intCast_le_intCast.2 h0
  rw [castR0] at n0
  have c32 : ((4294967296 : Int) : Rat) = 4294967296 := rfl
  by_cases h : 4294967296 < n
  · have hc := Rat.intCast_lt_intCast.2 h
    have hc1 := Rat.intCast_lt_intCast.2 h1
    rw [c32] at hc
    have c60 : ((1152921504606846976 : Int) : Rat) = 1152921504606846976 := rfl
    rw [c60] at hc1
    have hn0 : (n : Rat) ≠ 0 := by grind
    have on : okI ⟨n, n⟩ = true := by rw [okI_mk]; omega
    have dv := divI_pos (a := intI 1) (b := ⟨n, n⟩) (M := 4294967296) (B := n) rfl on (by decide) (by omega) (by simp only; omega) (by rw [e1]; simp only; omega) (by omega)
    have f := four_bd dv.1 dv.2.1 dv.2.2
    have fl := (okI_iff.1 f.1).2.1
    have s := @subI_bd (turnI 1) (fourI (divI (intI 1) ⟨n, n⟩)) rfl f.1 (by rw [turn1]; simp only; omega) (by rw [turn1]; simp only; omega)
    have ea : atanP n = subI (turnI 1) (fourI (divI (intI 1) ⟨n, n⟩)) := by unfold atanP; rw [if_pos h]
    obtain ⟨x, hx⟩ : ∃ x : Rat, 4294967296 / (n : Rat) = x := ⟨_, rfl⟩
    have x0 : 0 < x := by
      rw [← hx]
      apply (Rat.lt_div_iff (show (0 : Rat) < n by grind)).2; grind
    have x1 : x ≤ 1 := by rw [← hx, div_le_iff (show (0 : Rat) < n by grind)]; grind
    have xn : x * n = 4294967296 := by rw [← hx]; grind
    have xm : 1/1000000000 ≤ x := by
      rw [← hx, le_div_iff (show (0 : Rat) < n by grind)]; grind
    have hX : Has (divI (intI 1) ⟨n, n⟩) x := has_mono (has_div has_one (has_at n)) (by grind)
    obtain ⟨r, r0, r1, _, hr, hw⟩ := four_truth hX (by grind) x1
    have rpos : 0 < r := by
      apply Rat.not_le.1; intro hle
      have : r = 0 := by grind
      subst this
      rw [sT_0, cT_0] at hr
      unfold Bd eT at hr
      grind
    refine ⟨?_, 1, x, ⟨xm, x1, by unfold Bd; grind, by grind, by grind⟩, 1, -r, ⟨by omega, by omega⟩, by unfold Bd; grind, fun _ => by grind, by omega, ?_, fun w hww => ?_⟩
    · rw [ea]
      refine ⟨s.2, ?_, ?_⟩ <;> rw [s.1, turn1] <;> simp only <;> omega
    · rw [V1 (show (1 : Int) % 4 = 1 by decide), V2 (show ((1 : Int) + 1) % 4 = 2 by decide), cT_neg, sT_neg]
      unfold Bd at *; grind
    · rw [ea]
      rw [castR1] at hww
      have h2 := has_sub (has_turn 1) (hw (qT - w) (by unfold Bd at *; grind))
      rw [castR1] at h2
      exact has_mono h2 (by grind)
  · have on : okI ⟨n, n⟩ = true := by rw [okI_mk]; omega
    have hc := Rat.intCast_le_intCast.2 (show n ≤ 4294967296 by omega)
    rw [c32] at hc
    have f := four_bd (X := ⟨n, n⟩) on h0 (by simp only; omega)
    have ea : atanP n = fourI ⟨n, n⟩ := by unfold atanP; rw [if_neg h]
    obtain ⟨r, r0, r1, _, hr, hw⟩ := four_truth (has_at n) (by grind) (by grind)
    refine ⟨?_, (n : Rat) / 4294967296, 1, ⟨by decide +kernel, by grind, by unfold Bd; grind, .inl rfl, by grind⟩, 0, r, ⟨by omega, by omega⟩, by unfold Bd; grind, by omega, by omega, ?_, fun w hww => ?_⟩
    · rw [ea]; exact ⟨f.1, by omega, by omega⟩
    · rw [V0 (show (0 : Int) % 4 = 0 by decide), V1 (show ((0 : Int) + 1) % 4 = 1 by decide)]
      unfold Bd at *; grind
    · rw [ea]
      rw [castR0] at hww
      exact hw w (by unfold Bd at *; grind)
theorem atan_ang {n : Int} (h : openOk n = true) : GoodA (atanA n) ∧ ∃ y x, NormOf y x n ∧ AngOf (atanA n) y x eT (1/1073741824) := by
  have k := openOk_iff.1 h
  unfold atanA
  rw [if_pos h]
  by_cases h0 : n < 0
  · rw [if_pos h0]
    obtain ⟨g, y, x, hn, ha⟩ := atanP_ang (n := -n) (by omega) (by omega)
    refine ⟨g.neg, -y, x, ?_, ha.neg⟩
    have := hn.neg
    rw [Int.neg_neg] at this
    exact this
  · rw [if_neg h0]
    exact atanP_ang (by omega) (by omega)

-- plain truth20
/-- Quotients by positive intervals. -/
theorem divI_abs {a b : Iv} {A M B : Int} (ha : okI a = true) (hb : okI b = true) (a0 : -A ≤ a.lo) (a1 : a.hi ≤ A) (hB : 0 < B) (b0 : B ≤ b.lo) (hM : A * 4294967296 ≤ M * B) (m1 : M < 1152921504606846976) :
    okI (divI a b) = true ∧ -M ≤ (divI a b).lo ∧ (divI a b).hi ≤ M := by
  have ka := okI_iff.1 ha
  have kb := okI_iff.1 hb
  have hw : within 0 b.lo b.hi = false := by
    cases hq : within 0 b.lo b.hi with
    | false => rfl
    | true => rw [within_iff] at hq; omega
  unfold divI
  rw [ha, hb, hw]
  simp only [Bool.and_self, Bool.not_false, if_true]
  have M0 : 0 ≤ M := by
    apply Int.not_lt.1; intro hlt
    have := Int.mul_neg_of_neg_of_pos hlt hB
    omega
  refine comb_bd (fun x hx y hy => ?_) (by omega) m1
  have y0 : B ≤ y := by rcases hy with rfl | rfl <;> omega
  have x0 : -A ≤ x := by rcases hx with rfl | rfl <;> omega
  have x1 : x ≤ A := by rcases hx with rfl | rfl <;> omega
  have fx : fixOk x = true := by rw [fixOk_iff]; rcases hx with rfl | rfl <;> omega
  have fnx : fixOk (-x) = true := by rw [fixOk_iff]; rcases hx with rfl | rfl <;> omega
  have fy : fixOk y = true := by rw [fixOk_iff]; rcases hy with rfl | rfl <;> omega
  have hy0 : 0 < y := by omega
  have p0 := Int.mul_le_mul_of_nonneg_left y0 M0
  have q1 : x * 4294967296 / y ≤ M := Int.ediv_le_of_le_mul hy0 (by omega)
  have q0 : -M ≤ x * 4294967296 / y := (Int.le_ediv_iff_mul_le hy0).2 (by rw [Int.neg_mul]; omega)
  have q2 : -M ≤ -x * 4294967296 / y := (Int.le_ediv_iff_mul_le hy0).2 (by rw [Int.neg_mul, Int.neg_mul]; omega)
  have q4 : -x * 4294967296 / y ≤ M := Int.ediv_le_of_le_mul hy0 (by rw [Int.neg_mul]; omega)
  have e3 := Int.ediv_mul_add_emod (x * 4294967296) y
  have e4 := Int.ediv_mul_add_emod (-x * 4294967296) y
  have r3 := Int.emod_nonneg (x * 4294967296) (show y ≠ 0 by omega)
  have r4 := Int.emod_nonneg (-x * 4294967296) (show y ≠ 0 by omega)
  have q3 : -x * 4294967296 / y ≤ -(x * 4294967296 / y) := by
    apply Int.le_of_not_gt
    intro hg
    have := Int.mul_pos (show 0 < x * 4294967296 / y + -x * 4294967296 / y by omega) hy0
    rw [Int.add_mul] at this
    omega
  refine ⟨x * 4294967296 / y, -(-x * 4294967296 / y), divDown_pos fx fy hy0 (by omega) (by omega), ?_, q0, by omega, by omega⟩
  unfold divUp
  rw [fx, fy]
  simp only [Bool.and_self, if_true]
  rw [divDown_pos fnx fy hy0 (by omega) (by omega)]
/-- The angle whose tangent is near y. -/
def ArcOf (r y : Rat) : Prop := Bd r (4/5) ∧ (0 ≤ y → 0 ≤ r) ∧ (y ≤ 0 → r ≤ 0) ∧ Bd (sT r - y * cT r) eT
theorem ArcOf.neg {r y : Rat} (h : ArcOf r y) : ArcOf (-r) (-y) := by
  obtain ⟨h1, h2, h3, h4⟩ := h
  refine ⟨h1.neg, fun h => by have := h3 (by grind); grind, fun h => by have := h2 (by grind); grind, ?_⟩
  rw [sT_neg, cT_neg]
  have e : -sT r - -y * cT r = -(sT r - y * cT r) := by grind
  rw [e]; exact h4.neg
theorem ex_arc {y : Rat} (h : Bd y 1) : ∃ r, ArcOf r y := by
  have key : ∀ y : Rat, 0 ≤ y → y ≤ 1 → ∃ r, ArcOf r y := by
    intro y h0 h1
    obtain ⟨r, r0, r1, z, hr, _⟩ := four_truth (X := whole) (x := y) has_whole h0 h1
    exact ⟨r, by unfold Bd; grind, fun _ => r0, fun h => by have := z (by grind); grind, hr⟩
  by_cases h0 : 0 ≤ y
  · exact key y h0 h.2
  · obtain ⟨r, hr⟩ := key (-y) (by grind) (by unfold Bd at h; grind)
    have := hr.neg
    rw [show - -y = y by grind] at this
    exact ⟨-r, this⟩
theorem arc_mono0 {r r' y y' : Rat} (h : ArcOf r y) (h' : ArcOf r' y') (h0 : 0 ≤ y) (hy : y ≤ y') (h1 : y' ≤ 1) : r ≤ r' + 5 * eT := by
  obtain ⟨a1, a2, a3, a4⟩ := h
  obtain ⟨b1, b2, b3, b4⟩ := h'
  have r0 := a2 h0
  have r0' := b2 (by grind)
  have e0 : (0 : Rat) ≤ eT := by decide +kernel
  apply Rat.not_lt.1; intro hlt
  have m1 := sT_strict (x := r') (y := r) (b1.mono (by decide +kernel)) (a1.mono (by decide +kernel)) (by grind)
  have m2 := cT_mono (x := r') (y := r) r0' (by unfold Bd at a1; grind) (by grind)
  have c := cT_pos a1
  have m3 := mul_le2 h0 hy (show 0 ≤ cT r by grind) m2
  unfold Bd at a4 b4
  grind
theorem arc_mono {r r' y y' : Rat} (h : ArcOf r y) (h' : ArcOf r' y') (hy : y ≤ y') (hb : Bd y 1) (hb' : Bd y' 1) : r ≤ r' + 5 * eT := by
  have e0 : (0 : Rat) ≤ eT := by decide +kernel
  by_cases h0 : 0 ≤ y
  · exact arc_mono0 h h' h0 hy hb'.2
  · by_cases h1 : 0 ≤ y'
    · have := h.2.2.1 (by grind)
      have := h'.2.1 h1
      grind
    · have := arc_mono0 h'.neg h.neg (by grind) (by grind) (by unfold Bd at hb; grind)
      grind
/-- The arcs of tangents of at most 1. -/
theorem atan_arc {n : Int} (h : -4294967296 ≤ n ∧ n ≤ 4294967296) : GoodA (atanA n) ∧ ∃ r, ArcOf r ((n : Rat) / 4294967296) ∧ ∀ w, Bd (w - r) (1/1073741824) → Has (atanA n) w := by
  have key : ∀ n : Int, 0 ≤ n → n ≤ 4294967296 → GoodA (atanP n) ∧ ∃ r, ArcOf r ((n : Rat) / 4294967296) ∧ ∀ w, Bd (w - r) (1/1073741824) → Has (atanP n) w := by
    intro n h0 h1
    have on : okI ⟨n, n⟩ = true := by rw [okI_mk]; omega
    have n0 := Rat.intCast_le_intCast.2 h0
    rw [castR0] at n0
    have c32 : ((4294967296 : Int) : Rat) = 4294967296 := rfl
    have nmA := Rat.intCast_le_intCast.2 h1
    rw [c32] at nmA
    have f := four_bd (X := ⟨n, n⟩) on h0 (by simp only; omega)
    have ea : atanP n = fourI ⟨n, n⟩ := by unfold atanP; rw [if_neg (by omega)]
    obtain ⟨r, r0, r1, z, hr, hw⟩ := four_truth (has_at n) (by grind) (by grind)
    exact ⟨by rw [ea]; exact ⟨f.1, by omega, by omega⟩, r, ⟨by unfold Bd; grind, fun _ => r0, fun h => by have := z (by grind); grind, hr⟩, by rw [ea]; exact hw⟩
  have ho : openOk n = true := openOk_iff.2 (by omega)
  unfold atanA
  rw [if_pos ho]
  by_cases h0 : n < 0
  · rw [if_pos h0]
    obtain ⟨g, r, hr, hw⟩ := key (-n) (by omega) (by omega)
    refine ⟨g.neg, -r, ?_, fun w hww => ?_⟩
    · have := hr.neg
      rw [Rat.intCast_neg] at this
      have e : -(-(n : Rat) / 4294967296) = (n : Rat) / 4294967296 := by grind
      rw [e] at this
      exact this
    · exact has_mono (has_neg (hw (-w) (by unfold Bd at *; grind))) (by grind)
  · rw [if_neg h0]
    exact key n (by omega) (by omega)
/-- The arcs of an interval of tangents. -/
theorem atanI_arc {X : Iv} {t : Rat} (hX : Has X t) (hok : okI X = true) (h0 : -4294967296 ≤ X.lo) (h1 : X.hi ≤ 4294967296) :
    GoodA (atanI X) ∧ Bd t 1 ∧ ∀ r, ArcOf r t → ∀ w, Bd (w - r) (1/2147483648) → Has (atanI X) w := by
  have k := okI_iff.1 hok
  obtain ⟨g1, r1, a1, w1⟩ := atan_arc (n := X.lo) (by omega)
  obtain ⟨g2, r2, a2, w2⟩ := atan_arc (n := X.hi) (by omega)
  have ht := hX hok
  have c32 : ((4294967296 : Int) : Rat) = 4294967296 := rfl
  have cm32 : ((-4294967296 : Int) : Rat) = -4294967296 := rfl
  have b1 := Rat.intCast_le_intCast.2 h0
  have b2 := Rat.intCast_le_intCast.2 h1
  have b3 := Rat.intCast_le_intCast.2 k.2.1
  rw [cm32] at b1
  rw [c32] at b2
  have tb : Bd t 1 := by unfold Bd; grind
  have lb : Bd ((X.lo : Rat) / 4294967296) 1 := by unfold Bd; grind
  have hb : Bd ((X.hi : Rat) / 4294967296) 1 := by unfold Bd; grind
  have e : atanI X = hullI (atanA X.lo) (atanA X.hi) := by unfold atanI; rw [if_pos hok]
  rw [e]
  obtain ⟨o1, o2, o3⟩ := g1
  obtain ⟨p1, p2, p3⟩ := g2
  have k1 := okI_iff.1 o1
  have k2 := okI_iff.1 p1
  refine ⟨?_, tb, fun r hr w hw => ?_⟩
  · unfold hullI
    rw [o1, p1]
    simp only [Bool.and_self, if_true]
    exact ⟨by rw [okI_mk]; omega, by simp only; omega, by simp only; omega⟩
  · have m1 := arc_mono a1 hr (by grind) lb tb
    have m2 := arc_mono hr a2 (by grind) tb hb
    have H1 : Has (hullI (atanA X.lo) (atanA X.hi)) (r1 - 1/1073741824) := has_hull1 (w1 _ (by unfold Bd; grind))
    have H2 : Has (hullI (atanA X.lo) (atanA X.hi)) (r2 + 1/1073741824) := has_hull2 (w2 _ (by unfold Bd; grind))
    intro hok2
    have x1 := (H1 hok2).1
    have x2 := (H2 hok2).2
    unfold Bd eT at *
    constructor <;> grind

-- plain truth21
theorem root_bd64 {m : Int} (h : -4294967296 ≤ m ∧ m ≤ 4294967296) : let w := (4294967296 - m) * (4294967296 + m); 0 ≤ w ∧ w ≤ 18446744073709551616 ∧ (w : Rat) = 18446744073709551616 - (m : Rat) * m := by
  intro w
  have h0 : 0 ≤ w := Int.mul_nonneg (by omega) (by omega)
  have hm : 0 ≤ m * m := by
    rcases Int.le_total 0 m with h | h
    · exact Int.mul_nonneg h h
    · have := Int.mul_nonneg (a := -m) (b := -m) (by omega) (by omega)
      rw [Int.neg_mul_neg] at this; exact this
  have e : w = 18446744073709551616 - m * m := by
    show (4294967296 - m) * (4294967296 + m) = _
    rw [Int.sub_mul, Int.mul_add, Int.mul_add]; omega
  refine ⟨h0, by omega, ?_⟩
  rw [e, Rat.intCast_sub, Rat.intCast_mul]
  rfl
/-- The circle's value. -/
theorem circle_root {m : Int} (h : -4294967296 ≤ m ∧ m ≤ 4294967296) :
    (okI (circleI m) = true ∧ 0 ≤ (circleI m).lo ∧ (circleI m).hi ≤ 4294967297) ∧ ∃ ρ : Rat, 0 ≤ ρ ∧ ρ ≤ 1 ∧ Has (circleI m) ρ ∧ Bd (ρ * ρ - (1 - (m : Rat) / 4294967296 * ((m : Rat) / 4294967296))) tq := by
  obtain ⟨w0, w1, wr⟩ := root_bd64 h
  have sp := rootW_spec w0 (by omega)
  have rn := rootW_nonneg ((4294967296 - m) * (4294967296 + m))
  have hw : within m (-4294967296) 4294967296 = true := by rw [within_iff]; exact h
  obtain ⟨w, ew⟩ : ∃ w, (4294967296 - m) * (4294967296 + m) = w := ⟨_, rfl⟩
  unfold circleI
  rw [if_pos hw]
  simp only [ew] at *
  obtain ⟨k, ek⟩ : ∃ k, rootW w = k := ⟨_, rfl⟩
  rw [ek] at sp rn ⊢
  have kb : k ≤ 4294967296 := by
    apply Int.not_lt.1; intro hlt
    have := Int.mul_le_mul (a := 4294967297) (b := 4294967297) (c := k) (d := k) (by omega) (by omega) (by omega) (by omega)
    omega
  have c1 := Rat.intCast_le_intCast.2 sp.1
  have c2 := Rat.intCast_lt_intCast.2 sp.2
  have c3 := Rat.intCast_le_intCast.2 rn
  have c4 := Rat.intCast_le_intCast.2 kb
  have c0 := Rat.intCast_le_intCast.2 w0
  have cw := Rat.intCast_le_intCast.2 w1
  have c32 : ((4294967296 : Int) : Rat) = 4294967296 := rfl
  have c64 : ((18446744073709551616 : Int) : Rat) = 18446744073709551616 := rfl
  rw [c32] at c4
  rw [c64] at cw
  rw [castR0] at c3 c0
  rw [Rat.intCast_mul] at c1
  rw [Rat.intCast_mul, Rat.intCast_add, castR1] at c2
  have evL : 1 - (m : Rat) / 4294967296 * ((m : Rat) / 4294967296) = (w : Rat) / 18446744073709551616 := by rw [wr]; grind
  rw [evL]
  have v0 : (0 : Rat) ≤ (w : Rat) / 18446744073709551616 := by grind
  have v1 : (w : Rat) / 18446744073709551616 ≤ 1 := by grind
  obtain ⟨s, s0, s1, s2⟩ := ex_root v0 (by grind)
  have tq0 : (0 : Rat) ≤ tq := by decide +kernel
  have sle : s ≤ 1 := sq_le s0 (by decide +kernel) (by grind)
  by_cases hk : k * k = w
  · rw [if_pos hk]
    refine ⟨⟨by rw [okI_mk]; omega, rn, by simp only; omega⟩, (k : Rat) / 4294967296, by grind, by grind, has_at k, ?_⟩
    have : (k : Rat) / 4294967296 * ((k : Rat) / 4294967296) - (w : Rat) / 18446744073709551616 = 0 := by
      rw [← hk, Rat.intCast_mul]; grind
    rw [this]; exact Bd.zero tq0
  · rw [if_neg hk]
    refine ⟨⟨by rw [okI_mk]; omega, rn, by simp only; omega⟩, ?_⟩
    have l2 : (k : Rat) / 4294967296 * ((k : Rat) / 4294967296) ≤ (w : Rat) / 18446744073709551616 := by
      have : (k : Rat) / 4294967296 * ((k : Rat) / 4294967296) = (k : Rat) * k / 18446744073709551616 := by grind
      rw [this]; grind
    by_cases k1 : s < (k : Rat) / 4294967296
    · have := sq_mono s0 (Rat.le_of_lt k1)
      exact ⟨(k : Rat) / 4294967296, by grind, by grind, has_in (by grind) (by rw [Rat.intCast_add, castR1]; grind), by unfold Bd; grind⟩
    · refine ⟨s, s0, sle, has_in (by grind) ?_, by unfold Bd; grind⟩
      rw [Rat.intCast_add, castR1]
      have : s ≤ ((k : Rat) + 1) / 4294967296 := by
        refine sq_le s0 (by grind) ?_
        have : ((k : Rat) + 1) / 4294967296 * (((k : Rat) + 1) / 4294967296) = ((k : Rat) + 1) * (k + 1) / 18446744073709551616 := by grind
        rw [this]; grind
      grind
theorem qhalf : cT (qT / 2) - sT (qT / 2) ≤ 1/1000000000000000 ∧ Bd (qT/2) (4/5) := by
  refine ⟨by decide +kernel, by unfold Bd; constructor <;> decide +kernel⟩
theorem arc_le {r y : Rat} (h : ArcOf r y) (h1 : y ≤ 1) : r ≤ qT / 2 + 4 * eT := by
  obtain ⟨a1, a2, a3, a4⟩ := h
  have q := qhalf
  have e0 : 1/1000000000000 ≤ eT := by decide +kernel
  apply Rat.not_lt.1; intro hlt
  have qp := qT_1
  have m1 := sT_strict (x := qT / 2) (y := r) (q.2.mono (by decide +kernel)) (a1.mono (by decide +kernel)) (by grind)
  have m2 := cT_mono (x := qT / 2) (y := r) (by grind) (by unfold Bd at a1; grind) (by grind)
  have m3 := Rat.mul_le_mul_of_nonneg_right h1 (show 0 ≤ cT r by have := cT_pos a1; grind)
  have := q.1
  unfold Bd at a4
  grind

end Go.Proofs.YtcnapkdccjibpaaGreat.Eng
