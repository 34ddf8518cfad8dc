/- What functions of the program compute, and that the program computes it: part 34. -/
import Derived.Test.YtcnapkdccjibpaaGreatTab
import Derived.Test.YtcnapkdccjibpaaGreatEng16
import Derived.Laws.BitsLemmas
import Derived.Laws.Bits64
import Derived.Laws.Bits64b
import Derived.Lib.Mul64
import Derived.Lib.BitFns
import Derived.Laws.Externs
import Derived.Test.YtcnapkdccjibpaaGreatL1
import Derived.Test.YtcnapkdccjibpaaGreatL2
import Derived.Test.YtcnapkdccjibpaaGreatL3
import Derived.Test.YtcnapkdccjibpaaGreatL6
import Derived.Test.YtcnapkdccjibpaaGreatL7
import Derived.Test.YtcnapkdccjibpaaGreatL8
import Derived.Test.YtcnapkdccjibpaaGreatL12
import Derived.Test.YtcnapkdccjibpaaGreatL14
import Derived.Test.YtcnapkdccjibpaaGreatL15
import Derived.Test.YtcnapkdccjibpaaGreatL16
import Derived.Test.YtcnapkdccjibpaaGreatL20
import Derived.Test.YtcnapkdccjibpaaGreatL21
import Derived.Test.YtcnapkdccjibpaaGreatL25
import Derived.Test.YtcnapkdccjibpaaGreatL27
import Derived.Test.YtcnapkdccjibpaaGreatL29
import Derived.Test.YtcnapkdccjibpaaGreatL30
import Derived.Test.YtcnapkdccjibpaaGreatL33
namespace Go.Proofs.YtcnapkdccjibpaaGreat.Eng
open Go Go.RowKit
set_option linter.unusedVariables false
set_option linter.unusedSimpArgs false
set_option maxRecDepth 100000
set_option maxHeartbeats 1000000
-- plain exp8
theorem ch_sq {x : Rat} (h : Bd x 24) : Bd (chX x * chX x - (shX x * shX x + 1)) e0 := by
  have := e_neg h
  unfold chX shX
  have e : (eX x + eX (-x)) / 2 * ((eX x + eX (-x)) / 2) - ((eX x - eX (-x)) / 2 * ((eX x - eX (-x)) / 2) + 1) = eX x * eX (-x) - 1 := by grind
  rw [e]; exact this
theorem sh_odd (x : Rat) : shX (-x) = -shX x := by unfold shX; rw [show - -x = x by grind]; grind
theorem e_split (x : Rat) : eX x = shX x + chX x := by unfold shX chX; grind
theorem ch_1 {x : Rat} (h : Bd x 24) : 99/100 ≤ chX x := by
  have p := ch_pos h
  have q := ch_sq h
  have s := sq_nonneg (shX x)
  have z : e0 ≤ 1/1000 := by decide +kernel
  apply Rat.not_lt.1; intro hlt
  have := mul_le2 (Rat.le_of_lt p) (Rat.le_of_lt hlt) (Rat.le_of_lt p) (Rat.le_of_lt hlt)
  unfold Bd at q; grind
/-- The argument of the logarithm in the inverse hyperbolic sine. -/
def asJ (n : Int) : Iv := addI ⟨n, n⟩ (sqrtI (addI (sqrI ⟨n, n⟩) (intI 1)))
theorem addI_out {a b : Iv} (h : okI (addI a b) = true) : okI a = true ∧ okI b = true ∧ (addI a b).lo = a.lo + b.lo ∧ (addI a b).hi = a.hi + b.hi := by
  unfold addI at *
  split at h
  · rename_i k
    rw [if_pos k]
    rw [Bool.and_eq_true] at k
    unfold mkI at *
    split at h
    · rename_i k2; rw [if_pos k2]; exact ⟨k.1, k.2, rfl, rfl⟩
    · rw [okI_whole] at h; cases h
  · rw [okI_whole] at h; cases h
theorem asJ_sq {n : Int} (hok : okI (asJ n) = true) :
    ∃ L H : Rat, ((asJ n).lo : Rat) / 4294967296 = fx n + L ∧ ((asJ n).hi : Rat) / 4294967296 = fx n + H ∧ 0 ≤ L ∧ 0 ≤ H ∧ L * L ≤ fx n * fx n + 1 ∧ fx n * fx n + 1 ≤ H * H := by
  obtain ⟨o1, o2, l1, h1⟩ := addI_out hok
  obtain ⟨s1, s2, s3, s4⟩ := sqrtI_out o2
  have hA := has_add (has_sqr (has_at n)) has_one s1
  have ks := okI_iff.1 s1
  have r := rootW_spec' (w := (addI (sqrI ⟨n, n⟩) (intI 1)).lo * 4294967296) (by omega) (by omega)
  have u := sqrtUp_val (n := (addI (sqrI ⟨n, n⟩) (intI 1)).hi) (by omega) (by omega)
  rw [← s3] at r
  rw [← s4] at u
  have e1 : (asJ n).lo = n + (sqrtI (addI (sqrI ⟨n, n⟩) (intI 1))).lo := l1
  have e2 : (asJ n).hi = n + (sqrtI (addI (sqrI ⟨n, n⟩) (intI 1))).hi := h1
  rw [e1, e2]
  generalize (sqrtI (addI (sqrI ⟨n, n⟩) (intI 1))).lo = L at *
  generalize (sqrtI (addI (sqrI ⟨n, n⟩) (intI 1))).hi = H at *
  generalize (addI (sqrI ⟨n, n⟩) (intI 1)).lo = A at *
  generalize (addI (sqrI ⟨n, n⟩) (intI 1)).hi = B at *
  have c1 := Rat.intCast_le_intCast.2 r.1
  have c2 := Rat.intCast_le_intCast.2 r.2.2
  have c3 := Rat.intCast_le_intCast.2 u.1
  have c4 := Rat.intCast_le_intCast.2 u.2.1
  have z : ((0 : Int) : Rat) = 0 := rfl
  have e32 : ((4294967296 : Int) : Rat) = 4294967296 := rfl
  rw [z] at c2 c3
  rw [Rat.intCast_mul, Rat.intCast_mul, e32] at c1 c4
  rw [Rat.intCast_add, Rat.intCast_add]
  refine ⟨(L : Rat) / 4294967296, (H : Rat) / 4294967296, by unfold fx; grind, by unfold fx; grind, by grind, by grind, ?_, ?_⟩
  · have : (L : Rat) / 4294967296 * ((L : Rat) / 4294967296) = (L : Rat) * L / 18446744073709551616 := by grind
    rw [this]; unfold fx; grind
  · have : (H : Rat) / 4294967296 * ((H : Rat) / 4294967296) = (H : Rat) * H / 18446744073709551616 := by grind
    rw [this]; unfold fx; grind
theorem asinhP_lo {n : Int} {x : Rat} (hx : Bd x (701/100)) (h0 : 0 ≤ n) (hn : n < 1152921504606846976) (hle : fx n ≤ shX x) (hok : okI (asinhP n) = true) : ((asinhP n).lo : Rat) ≤ x * 4294967296 := by
  have n24 : (701/100 : Rat) ≤ 24 := by decide +kernel
  have b := hx.mono n24
  have up := e_up8 hx
  have pn := e_pos b.neg
  have c1 := ch_1 b
  have cs := ch_sq b
  have es := e_split x
  have v0 : 0 ≤ fx n := by
    have := Rat.intCast_le_intCast.2 h0
    have z : ((0 : Int) : Rat) = 0 := rfl
    rw [z] at this
    unfold fx; grind
  have sm : shX x ≤ 600 := by unfold shX; grind
  have small : n ≤ 35184372088832 := by
    apply Int.not_lt.1; intro hlt
    have := Rat.intCast_lt_intCast.2 hlt
    have e : ((35184372088832 : Int) : Rat) = 35184372088832 := rfl
    rw [e] at this
    unfold fx at hle; grind
  unfold asinhP at hok ⊢
  rw [if_pos small] at hok ⊢
  obtain ⟨kD, k1, _, ke⟩ := mono_out hok
  rw [ke]
  simp only
  obtain ⟨L, H, eL, eH, L0, H0, L2, H2⟩ := asJ_sq kD
  have kk := okI_iff.1 kD
  refine log_lo b (by omega) ?_ k1
  change ((asJ n).lo : Rat) / 4294967296 ≤ _
  rw [eL]
  have z := e0_0
  have q := mul_le2 v0 hle v0 hle
  have lc : L ≤ chX x + e0 := by
    apply Rat.not_lt.1; intro hlt
    have := mul_le2 (show 0 ≤ chX x + e0 by grind) (Rat.le_of_lt hlt) (show 0 ≤ chX x + e0 by grind) (Rat.le_of_lt hlt)
    have := Rat.mul_le_mul_of_nonneg_right c1 (show 0 ≤ e0 by grind)
    have := sq_nonneg e0
    unfold Bd at cs; grind
  have := e_low8 hx
  grind
theorem asinhP_hi {n : Int} {x : Rat} (hx : Bd x (701/100)) (h0 : 0 ≤ n) (hn : n < 1152921504606846976) (hle : shX x ≤ fx n) (hok : okI (asinhP n) = true) : x * 4294967296 ≤ ((asinhP n).hi : Rat) := by
  have n24 : (701/100 : Rat) ≤ 24 := by decide +kernel
  have b := hx.mono n24
  have up := e_up8 hx
  have c1 := ch_1 b
  have cs := ch_sq b
  have es := e_split x
  have z := e0_0
  have v0 : 0 ≤ fx n := by
    have := Rat.intCast_le_intCast.2 h0
    have z : ((0 : Int) : Rat) = 0 := rfl
    rw [z] at this
    unfold fx; grind
  unfold asinhP at hok ⊢
  by_cases small : n ≤ 35184372088832
  · rw [if_pos small] at hok ⊢
    obtain ⟨kD, _, k1, ke⟩ := mono_out hok
    rw [ke]
    simp only
    obtain ⟨L, H, eL, eH, L0, H0, L2, H2⟩ := asJ_sq kD
    have kk := okI_iff.1 kD
    refine log_hi b (by omega) ?_ k1
    change _ ≤ ((asJ n).hi : Rat) / 4294967296 * _
    rw [eH]
    have H1 : 1 ≤ H := by
      apply Rat.not_lt.1; intro hlt
      have := mul_le2 H0 (Rat.le_of_lt hlt) H0 (show H ≤ 1 by grind)
      have := sq_nonneg (fx n)
      have := Rat.mul_lt_mul_of_pos_left hlt (show 0 < H by
        apply Rat.not_le.1; intro hle2
        have : H = 0 := by grind
        subst this; grind)
      grind
    have hE : eX x ≤ fx n + H + e0 := by
      by_cases s : 0 ≤ shX x
      · have q := mul_le2 s hle s hle
        have : chX x ≤ H + e0 := by
          apply Rat.not_lt.1; intro hlt
          have := mul_le2 (show 0 ≤ H + e0 by grind) (Rat.le_of_lt hlt) (show 0 ≤ H + e0 by grind) (Rat.le_of_lt hlt)
          have := Rat.mul_le_mul_of_nonneg_right H1 (show 0 ≤ e0 by grind)
          have := sq_nonneg e0
          unfold Bd at cs; grind
        grind
      · have p := e_pos b
        have en := e_neg b
        have lt : eX x ≤ eX (-x) := by unfold shX at s; grind
        have : eX x ≤ 1 + e0 := by
          apply Rat.not_lt.1; intro hlt
          have := mul_le2 (show 0 ≤ 1 + e0 by grind) (Rat.le_of_lt hlt) (show 0 ≤ 1 + e0 by grind) (show 1 + e0 ≤ eX (-x) by grind)
          have := sq_nonneg e0
          unfold Bd at en; grind
        grind
    grind
  · rw [if_neg small] at hok ⊢
    obtain ⟨o1, o2, l1, h1⟩ := addI_out hok
    obtain ⟨o3, o4, l2, h2⟩ := addI_out o1
    rw [h1, h2]
    have big := Rat.intCast_lt_intCast.2 (show 35184372088832 < n by omega)
    have e : ((35184372088832 : Int) : Rat) = 35184372088832 := rfl
    rw [e] at big
    have a := log_hi b hn (by grind) o4
    have ln1 : (lnI 1).hi = 2977044472 := by decide
    have e16 : ((16 : Int) : Rat) = 16 := rfl
    have el : ((2977044472 : Int) : Rat) = 2977044472 := rfl
    rw [Rat.intCast_add, Rat.intCast_add, ln1, el]
    simp only
    rw [e16]
    grind
theorem asinh_undo {J : Iv} {x : Rat} (hx : Bd x (701/100)) (hJ : Has J (shX x)) : Has (asinhIF J) x := by
  unfold asinhIF
  cases hk : okI J with
  | false => unfold monoI; rw [hk]; exact has_whole
  | true =>
    have h := hJ hk
    have k := okI_iff.1 hk
    have l1 : fx J.lo ≤ shX x := by unfold fx; grind
    have l2 : shX x ≤ fx J.hi := by unfold fx; grind
    have o := sh_odd x
    refine mono_has (odd_lo (fun h0 k => asinhP_lo hx h0 (by omega) l1 k) (fun h0 k => asinhP_hi hx.neg (by omega) (by omega) ?_ k)) (odd_hi (fun h0 k => asinhP_hi hx h0 (by omega) l2 k) (fun h0 k => asinhP_lo hx.neg (by omega) (by omega) ?_ k))
    · rw [fx_neg, o]; grind
    · rw [fx_neg, o]; grind

-- plain exp9
theorem expL_wid : ∀ (i : Nat) (r p : Iv), i ≤ 9 → okI r = true → -1488700000 ≤ r.lo → r.hi ≤ 1488700000 → r.hi - r.lo ≤ 1 → okI p = true → 1 ≤ p.lo → p.hi ≤ 8589934592 → p.hi - p.lo ≤ 30 →
    (expL i r p).hi - (expL i r p).lo ≤ 30
  | 0, r, p, _, _, _, _, _, _, _, _, h => h
  | i + 1, r, p, hi, hr, r1, r2, rw', h1, h2, h3, h4 => by
    have hle := (okI_iff.1 h1).2.1
    have hrl := (okI_iff.1 hr).2.1
    have hm := @mulI_bd r p (-2977400000) 2977400000 hr h1 (fun x hx y hy => by
      have := @mul_abs x y 1488700000 8589934592 (by rcases hx with rfl | rfl <;> omega) (by rcases hx with rfl | rfl <;> omega) (by rcases hy with rfl | rfl <;> omega) (by rcases hy with rfl | rfl <;> omega)
      omega) (by omega) (by omega)
    have mw := (@mul_wid r p 1488700000 8589934592 1 30 27 hr h1 (by omega) (by omega) (by omega) (by omega) (by omega) (by omega) (by omega) (by omega) (by omega)).2
    have hd := @divI_bd (mulI r p) ((i + 1 : Nat) : Int) (-2977400000) 2977400000 hm.1 (by omega) (by omega) (by omega) (by omega) (by omega)
    rw [expL]
    generalize mulI r p = m at *
    have km := okI_iff.1 hm.1
    obtain ⟨k, hk⟩ : ∃ k : Int, ((i + 1 : Nat) : Int) = k := ⟨_, rfl⟩
    have k1 : 1 ≤ k ∧ k ≤ 9 := by omega
    have e1 : intI 1 = ⟨4294967296, 4294967296⟩ := rfl
    have dw : (divI m (intI k)).hi - (divI m (intI k)).lo ≤ 30 := by
      have q1 := Int.ediv_mul_add_emod m.lo k
      have q2 := Int.emod_nonneg m.lo (show k ≠ 0 by omega)
      have q3 := Int.emod_lt_of_pos m.lo (show 0 < k by omega)
      have q4 := Int.ediv_mul_add_emod (-m.hi) k
      have q5 := Int.emod_nonneg (-m.hi) (show k ≠ 0 by omega)
      have q6 := Int.emod_lt_of_pos (-m.hi) (show 0 < k by omega)
      obtain ⟨u, hu⟩ : ∃ u, m.lo / k = u := ⟨_, rfl⟩
      obtain ⟨v, hv⟩ : ∃ v, -m.hi / k = v := ⟨_, rfl⟩
      rw [hu] at q1
      rw [hv] at q4
      have nv : -v * k = -(v * k) := Int.neg_mul _ _
      have ub : -2977400000 ≤ u ∧ -v ≤ 2977400000 := by
        rw [← hu, ← hv]
        refine ⟨(Int.le_ediv_iff_mul_le (by omega)).2 ?_, ?_⟩
        · have := Int.mul_le_mul_of_nonneg_left k1.1 (show (0 : Int) ≤ 2977400000 by omega)
          omega
        · have : -2977400000 ≤ -m.hi / k := (Int.le_ediv_iff_mul_le (by omega)).2 (by
            have := Int.mul_le_mul_of_nonneg_left k1.1 (show (0 : Int) ≤ 2977400000 by omega)
            omega)
          omega
      have hd2 := @divI_bd m k u (-v) hm.1 (by omega) (by omega) (by omega) (by omega) (by omega)
      have : (-v - u) * k ≤ 29 * k := by rw [Int.sub_mul]; omega
      have := Int.le_of_mul_le_mul_right this (by omega)
      omega
    rw [hk] at hd
    have hdl := (okI_iff.1 hd.1).2.1
    have ha := @addI_bd (intI 1) (divI m (intI k)) (by rw [e1]; rfl) hd.1 (by rw [e1]; simp only; omega) (by rw [e1]; simp only; omega)
    rw [hk]
    have w1 : (addI (intI 1) (divI m (intI k))).hi - (addI (intI 1) (divI m (intI k))).lo ≤ 30 := by rw [ha.1, e1]; simp only; omega
    refine expL_wid i r _ (by omega) hr r1 r2 rw' ha.2 ?_ ?_ w1
    · rw [ha.1, e1]; simp only; omega
    · rw [ha.1, e1]; simp only; omega
theorem exp_wid {n : Int} (h1 : -4294967296 < n) (h2 : n < 4294967296) : okI (expA n) = true ∧ (expA n).hi - (expA n).lo ≤ 100 := by
  have hr := @expR_bd n (by omega) (by omega)
  have hp := @expP_bd n (by omega) (by omega)
  have hk : expK n = -1 ∨ expK n = 0 ∨ expK n = 1 := by unfold expK; omega
  have rw' : (expR n).hi - (expR n).lo ≤ 1 := by
    have lw : okI (lnI (expK n)) = true ∧ (lnI (expK n)).hi - (lnI (expK n)).lo ≤ 1 ∧ -3000000000 ≤ (lnI (expK n)).lo ∧ (lnI (expK n)).hi ≤ 3000000000 := by
      rcases hk with h | h | h <;> rw [h] <;> decide
    have kl := okI_iff.1 lw.1
    have hs := @subI_bd ⟨n, n⟩ (lnI (expK n)) (by rw [okI_mk]; omega) lw.1 (by simp only; omega) (by simp only; omega)
    unfold expR
    rw [hs.1]; simp only; omega
  have w := expL_wid 9 (expR n) (intI 1) (by omega) hr.1 hr.2.1 hr.2.2 rw' rfl (by decide) (by decide) (by decide)
  change (expP n).hi - (expP n).lo ≤ 30 at w
  have kp := okI_iff.1 hp.1
  have e : expA n = scaleI (widI (expP n)) (expK n) := by
    unfold expA
    rw [if_pos (by rw [fixOk_iff.2 (by omega)]; simp; omega), if_neg (by omega)]
  have ew : widI (expP n) = ⟨(expP n).lo - 1, (expP n).hi + 1⟩ := by
    unfold widI
    rw [if_pos hp.1, mkI_ok (by rw [okI_mk]; omega)]
  rw [e, ew]
  generalize (expP n).lo = a at *
  generalize (expP n).hi = b at *
  rcases hk with h | h | h <;> rw [h] <;> unfold scaleI
  · rw [if_neg (by decide)]
    simp only [show (-(-1 : Int)).toNat = 1 by decide, Int.pow_one]
    refine ⟨by rw [okI_mk]; omega, by (try simp only); omega⟩
  · rw [if_pos (by decide)]
    simp only [show (0 : Int).toNat = 0 by decide, Int.pow_zero, Int.mul_one]
    rw [mkI_ok (by rw [okI_mk]; omega)]
    refine ⟨by rw [okI_mk]; omega, by (try simp only); omega⟩
  · rw [if_pos (by decide)]
    simp only [show (1 : Int).toNat = 1 by decide, Int.pow_one]
    rw [mkI_ok (by rw [okI_mk]; omega)]
    refine ⟨by rw [okI_mk]; omega, by (try simp only); omega⟩
theorem exp_num : within 4294967296 (expA 0).lo (expA 0).hi = true ∧ within 0 (logA 4294967296).lo (logA 4294967296).hi = true := by decide +kernel

-- plain exp10
/-- All that the law says of the functions. -/
theorem exp_law {p q p' q' : Int} (hp : Sm p) (hq : Sm q) (h : p ≤ q) (hp' : Sm p') (hq' : Sm q') (h' : p' ≤ q') :
    (meetI (logIF (expIF ⟨p, q⟩)) ⟨p, q⟩).2 = true ∧
    (meetI (expIF (addI ⟨p, q⟩ ⟨p', q'⟩)) (mulI (expIF ⟨p, q⟩) (expIF ⟨p', q'⟩))).2 = true ∧
    (meetI (subI (sqrI (coshIF ⟨p, q⟩)) (sqrI (sinhIF ⟨p, q⟩))) (intI 1)).2 = true ∧
    (meetI (tanhIF ⟨p, q⟩) (divI (sinhIF ⟨p, q⟩) (coshIF ⟨p, q⟩))).2 = true ∧
    (meetI (asinhIF (sinhIF ⟨p, q⟩)) ⟨p, q⟩).2 = true ∧
    (meetI (atanhIF (tanhIF ⟨p, q⟩)) ⟨p, q⟩).2 = true ∧
    (meetI (powI ⟨p, q⟩ 3) (mulI (mulI ⟨p, q⟩ ⟨p, q⟩) ⟨p, q⟩)).2 = true ∧
    (meetI (powI (expIF ⟨p, q⟩) 2) (expIF (dblI ⟨p, q⟩))).2 = true := by
  have n24 : (701/100 : Rat) ≤ 24 := by decide +kernel
  have b := hp.b8
  have b' := hp'.b8
  have Ha : Has ⟨p, q⟩ (fx p) := by
    have := Rat.intCast_le_intCast.2 h
    refine has_in ?_ ?_ <;> unfold fx <;> grind
  have okA : okI ⟨p, q⟩ = true := by
    rw [okI_mk]; have := hp.1; have := hq.2; omega
  have okB : okI ⟨p', q'⟩ = true := by
    rw [okI_mk]; have := hp'.1; have := hq'.2; omega
  have E1 := exp_in (p := p) (q := q) (by have := hp.1; omega) h (by have := hq.2; omega)
  have E2 := exp_in (p := p') (q := q') (by have := hp'.1; omega) h' (by have := hq'.2; omega)
  have S := sinh_in hp hq h
  have C := cosh_in hp hq h
  have T := tanh_in hp hq h
  have near : ∀ (x y : Rat), Bd x (701/100) → Bd y (701/100) → Bd (eX x * eX y - eX (x + y)) (eX (x + y) * (1/10000000000)) := by
    intro x y hx hy
    have a := e_add (hx.mono n24) (hy.mono (show (701/100 : Rat) ≤ 48 by decide +kernel))
    have l := e_low (x := x + y) (by unfold Bd at *; constructor <;> grind)
    have z := e0_0.2
    refine a.mono ?_
    grind
  have add_eq : ∀ {u v u' v' : Int}, Sm u → Sm v → u ≤ v → Sm u' → Sm v' → u' ≤ v' → addI ⟨u, v⟩ ⟨u', v'⟩ = ⟨u + u', v + v'⟩ := by
    intro u v u' v' h1 h2 h3 h4 h5 h6
    have o1 : okI ⟨u, v⟩ = true := by rw [okI_mk]; have := h1.1; have := h2.2; omega
    have o2 : okI ⟨u', v'⟩ = true := by rw [okI_mk]; have := h4.1; have := h5.2; omega
    exact (addI_bd o1 o2 (by simp only; have := h1.1; have := h4.1; omega) (by simp only; have := h2.2; have := h5.2; omega)).1
  have fx_add : ∀ u v : Int, fx (u + v) = fx u + fx v := by intro u v; unfold fx; rw [Rat.intCast_add]; grind
  refine ⟨over_of (log_undo (b.mono n24) E1) Ha, ?_, ?_, ?_, over_of (asinh_undo b S) Ha, over_of (atanh_undo b T) Ha, ?_, ?_⟩
  · rw [add_eq hp hq h hp' hq' h']
    refine over_of (x := eX (fx p) * eX (fx p')) (has_expI ?_ ?_ ?_ ?_) (has_mul E1 E2)
    · have := hp.1; have := hp'.1; omega
    · omega
    · have := hq.2; have := hq'.2; omega
    · rw [fx_add]; exact near _ _ b b'
  · have hs := has_sub (has_sqr C) (has_sqr S)
    have cs := ch_sq (b.mono n24)
    have z : e0 ≤ 1/1000000000000 := by decide +kernel
    have z1 : ((4294967296 : Int) : Rat) = 4294967296 := rfl
    have hh := has_snap (Z := 4294967296) hs (by rw [z1]; unfold Bd at cs; grind) (by rw [z1]; unfold Bd at cs; grind)
    refine over_of hh (has_mono has_one (by rw [z1]; decide +kernel))
  · exact over_of T (has_div S C)
  · have e : powI ⟨p, q⟩ 3 = mulI (mulI ⟨p, q⟩ ⟨p, q⟩) ⟨p, q⟩ := by
      unfold powI
      rw [okA]
      rfl
    rw [e]; exact over_self _
  · have d : dblI ⟨p, q⟩ = ⟨p + p, q + q⟩ := add_eq hp hq h hp hq h
    rw [d]
    refine over_of (x := eX (fx p) * eX (fx p)) ?_ (has_expI ?_ ?_ ?_ ?_)
    · unfold powI
      split
      · rw [if_neg (by decide), if_pos (by decide)]
        have := has_mul (has_abs E1) (has_abs E1)
        rw [absR_sq] at this
        exact this
      · exact has_whole
    · have := hp.1; omega
    · omega
    · have := hq.2; omega
    · rw [fx_add]; exact near _ _ b b

end Go.Proofs.YtcnapkdccjibpaaGreat.Eng
