/- What functions of the program compute, and that the program computes it: part 28. -/
import Derived.Test.YtcnapkdccjibpaaGreatDoorTab
import Derived.Test.YtcnapkdccjibpaaGreatDoorEng16
import Derived.Laws.BitsLemmas
import Derived.Laws.Bits64
import Derived.Laws.Bits64b
import Derived.Lib.Mul64
import Derived.Lib.BitFns
import Derived.Laws.Externs
import Derived.Test.YtcnapkdccjibpaaGreatDoorL1
import Derived.Test.YtcnapkdccjibpaaGreatDoorL2
import Derived.Test.YtcnapkdccjibpaaGreatDoorL5
import Derived.Test.YtcnapkdccjibpaaGreatDoorL7
import Derived.Test.YtcnapkdccjibpaaGreatDoorL15
import Derived.Test.YtcnapkdccjibpaaGreatDoorL20
import Derived.Test.YtcnapkdccjibpaaGreatDoorL23
import Derived.Test.YtcnapkdccjibpaaGreatDoorL25
import Derived.Test.YtcnapkdccjibpaaGreatDoorL26
import Derived.Test.YtcnapkdccjibpaaGreatDoorL27
namespace Go.Proofs.YtcnapkdccjibpaaGreatDoor.Eng
open Go Go.RowKit
set_option linter.unusedVariables false
set_option linter.unusedSimpArgs false
set_option maxRecDepth 100000
set_option maxHeartbeats 1000000
-- plain exp1
/-- The exponential, for the truth. -/
def eX (x : Rat) : Rat := smR (tmR x) 300
def hE : Nat → Nat → Rat → Rat
  | 0, _, _ => 0
  | n + 1, k, x => 1 + x / ((k + 1 : Nat) : Rat) * hE n (k + 1) x
theorem hE_sum (x : Rat) : ∀ (n k : Nat), smR (fun i => tmR x (k + i)) n = tmR x k * hE n k x
  | 0, k => by simp only [smR, hE]; grind
  | n + 1, k => by
    rw [sm_shift, hE]
    have e : smR (fun i => tmR x (k + (i + 1))) n = smR (fun i => tmR x (k + 1 + i)) n := sm_congr _ fun i _ => by rw [show k + (i + 1) = k + 1 + i by omega]
    rw [e, hE_sum x n (k + 1), Nat.add_zero, tmR]
    have := cast_ne k
    grind
theorem hE_eq (x : Rat) (n : Nat) : smR (tmR x) n = hE n 0 x := by
  have h := hE_sum x n 0
  have e : smR (fun i => tmR x (0 + i)) n = smR (tmR x) n := sm_congr _ fun i _ => by rw [Nat.zero_add]
  have z : tmR x 0 = 1 := rfl
  rw [e, z] at h
  grind
/-- How far off sums of exponents may be. -/
def eZ : Rat := 1/100000000000000000000000000000000000000000000000000
theorem e_num : hE 300 0 24 * hE 300 0 48 - hE 300 0 72 ≤ eZ := by decide +kernel
theorem e24 : hE 300 0 24 ≤ 27000000000 := by decide +kernel
theorem e_add {x y : Rat} (hx : Bd x 24) (hy : Bd y 48) : Bd (eX x * eX y - eX (x + y)) eZ := by
  have h := prod_err (tm_bd hx) (tm_bd hy) 300
  have e1 : smR (cvR (tmR x) (tmR y)) 300 = eX (x + y) := sm_congr _ fun i _ => tm_binom x y i
  have e2 : smR (cvR (tmR 24) (tmR 48)) 300 = smR (tmR (24 + 48)) 300 := sm_congr _ fun i _ => tm_binom 24 48 i
  rw [e1, e2, hE_eq 24, hE_eq 48, hE_eq (24 + 48)] at h
  have e3 : (24 : Rat) + 48 = 72 := by decide +kernel
  rw [e3] at h
  exact h.mono e_num
theorem tm_nonneg {x : Rat} (h : 0 ≤ x) : ∀ (n : Nat), 0 ≤ tmR x n
  | 0 => by unfold tmR; decide
  | n + 1 => by
    have hp : (0 : Rat) < ((n + 1 : Nat) : Rat) := Rat.natCast_pos.2 (Nat.succ_pos n)
    have hi : (0 : Rat) ≤ ((n + 1 : Nat) : Rat)⁻¹ := Rat.le_of_lt (Rat.inv_pos.2 hp)
    rw [tmR, Rat.div_def]
    exact Rat.mul_nonneg (Rat.mul_nonneg (tm_nonneg h n) h) hi
theorem sm_ge {x : Rat} (h : 0 ≤ x) : ∀ (n : Nat), 1 + x ≤ smR (tmR x) (n + 2)
  | 0 => by
    have e1 : tmR x 0 = 1 := rfl
    have e2 : tmR x 1 = x := by rw [tmR, e1]; simp; grind
    simp only [smR, e1, e2]; grind
  | n + 1 => by
    have := sm_ge h n
    rw [smR]
    have := tm_nonneg h (n + 2)
    grind
theorem e_ge {x : Rat} (h : 0 ≤ x) : 1 + x ≤ eX x := sm_ge h 298
theorem e_up {x : Rat} (h : Bd x 24) : eX x ≤ 27000000000 := by
  have := (sm_bd 300 fun i _ => tm_bd h i).2
  rw [hE_eq 24] at this
  have := e24
  unfold eX; grind
theorem e_0 : eX 0 = 1 := by unfold eX; rw [hE_eq]; decide +kernel
theorem e_neg {x : Rat} (h : Bd x 24) : Bd (eX x * eX (-x) - 1) eZ := by
  have := e_add h (h.neg.mono (show (24 : Rat) ≤ 48 by decide +kernel))
  have e : x + -x = 0 := by grind
  rw [e, e_0] at this; exact this
theorem e_low {x : Rat} (h : Bd x 24) : 1/30000000000 ≤ eX x := by
  have e0s : eZ ≤ 1/100 := by decide +kernel
  by_cases h0 : 0 ≤ x
  · have := e_ge h0; grind
  · have a := e_ge (x := -x) (by grind)
    have b := e_neg h
    have c := e_up h.neg
    apply Rat.not_lt.1; intro hlt
    have m : eX x * eX (-x) ≤ 1/30000000000 * eX (-x) := Rat.mul_le_mul_of_nonneg_right (Rat.le_of_lt hlt) (by grind)
    unfold Bd at b
    grind
/-- Farther on, the exponential is greater. -/
theorem e_grow {x y : Rat} (hx : Bd x 24) (hy : Bd y 24) (h : x ≤ y) : eX x * (1 + (y - x)) ≤ eX y + eZ := by
  have a := e_add hx (y := y - x) (by unfold Bd at *; grind)
  have e : x + (y - x) = y := by grind
  rw [e] at a
  have b := e_ge (x := y - x) (by grind)
  have l := e_low hx
  have c := Rat.mul_le_mul_of_nonneg_left b (show 0 ≤ eX x by grind)
  unfold Bd at a
  grind
theorem eZ_0 : 0 < eZ ∧ eZ ≤ 1/10000000000000000000000000000000000000000 := by constructor <;> decide +kernel
/-- At fixes, it is greater or equal. -/
theorem e_fix {a b : Int} (ha : Bd ((a : Rat) / 4294967296) 24) (hb : Bd ((b : Rat) / 4294967296) 24) (h : a ≤ b) : eX ((a : Rat) / 4294967296) ≤ eX ((b : Rat) / 4294967296) := by
  by_cases e : a = b
  · rw [e]; exact Rat.le_refl
  · have h1 := Rat.intCast_le_intCast.2 (show a + 1 ≤ b by omega)
    rw [Rat.intCast_add] at h1
    have c1 : ((1 : Int) : Rat) = 1 := rfl
    rw [c1] at h1
    have g := e_grow ha hb (by grind)
    have l := e_low ha
    have z := eZ_0
    have m := mul_le2 (show (0 : Rat) ≤ 1/30000000000 by decide +kernel) l (show (0 : Rat) ≤ 1/4294967296 by decide +kernel) (show (1 : Rat)/4294967296 ≤ (b : Rat) / 4294967296 - (a : Rat) / 4294967296 by grind)
    generalize (b : Rat) / 4294967296 - (a : Rat) / 4294967296 = d at *
    generalize eX ((a : Rat) / 4294967296) = A at *
    generalize eX ((b : Rat) / 4294967296) = B at *
    have : (1/30000000000 : Rat) * (1/4294967296) = 1/128849018880000000000 := by decide +kernel
    rw [this] at m
    grind
/-- What is not much greater lies not much farther. -/
theorem e_le {x y t : Rat} (hx : Bd x 24) (hy : Bd y 24) (t0 : 1/1000000000000000 ≤ t) (h : eX y ≤ eX x * (1 + t)) : y ≤ x + 2 * t := by
  apply Rat.not_lt.1; intro hlt
  have g := e_grow hx hy (by grind)
  have l := e_low hx
  have z := eZ_0
  have m := Rat.mul_lt_mul_of_pos_left (show 2 * t < y - x by grind) (show 0 < eX x by grind)
  have m2 := mul_le2 (show (0 : Rat) ≤ 1/30000000000 by decide +kernel) l (show (0 : Rat) ≤ 1/1000000000000000 by decide +kernel) t0
  have : (1/30000000000 : Rat) * (1/1000000000000000) = 1/30000000000000000000000000 := by decide +kernel
  rw [this] at m2
  generalize eX x = A at *
  generalize eX y = B at *
  generalize y - x = d at *
  grind
theorem e_pos {x : Rat} (h : Bd x 24) : 0 < eX x := by have := e_low h; grind

-- plain exp2
/-- The logarithm of 2. -/
def l2 : Rat := 1598288580650331957 / 2305843009213693952
theorem twos_up : ∀ k : Nat, k < 34 → -(2 ^ k / 1000000000000000) ≤ hE 300 0 ((k : Rat) * l2) - 2 ^ k ∧ hE 300 0 ((k : Rat) * l2) - 2 ^ k ≤ 2 ^ k / 1000000000000000 := by decide +kernel
theorem twos_dn : ∀ k : Nat, k < 34 → -(1 / 1000000000000000) ≤ hE 300 0 (-((k : Rat) * l2)) * 2 ^ k - 1 ∧ hE 300 0 (-((k : Rat) * l2)) * 2 ^ k - 1 ≤ 1 / 1000000000000000 := by decide +kernel
/-- 2 to a power. -/
def p2 (k : Int) : Rat := if 0 ≤ k then 2 ^ k.toNat else 1 / 2 ^ (-k).toNat
theorem pw_pos (n : Nat) : (0 : Rat) < 2 ^ n := Rat.pow_pos (by decide +kernel)
theorem p2_pos (k : Int) : 0 < p2 k := by
  unfold p2
  split
  · exact pw_pos _
  · exact (Rat.lt_div_iff (pw_pos _)).2 (by grind)
theorem scale_bd {K d c : Rat} (hK : 0 < K) (h : Bd (K * d) (K * c)) : Bd d c := by
  constructor
  · apply Rat.not_lt.1; intro hlt
    have := Rat.mul_lt_mul_of_pos_left hlt hK
    unfold Bd at h; grind
  · apply Rat.not_lt.1; intro hlt
    have := Rat.mul_lt_mul_of_pos_left hlt hK
    unfold Bd at h; grind
theorem two_near {k : Int} (h1 : -33 ≤ k) (h2 : k ≤ 33) : Bd (eX ((k : Rat) * l2) - p2 k) (p2 k * (1/1000000000000000)) := by
  unfold eX
  rw [hE_eq]
  unfold p2
  by_cases h0 : 0 ≤ k
  · rw [if_pos h0]
    obtain ⟨n, rfl⟩ : ∃ n : Nat, k = n := ⟨k.toNat, by omega⟩
    have := twos_up n (by omega)
    rw [Int.toNat_natCast, Rat.intCast_natCast]
    unfold Bd; grind
  · rw [if_neg h0]
    obtain ⟨n, rfl⟩ : ∃ n : Nat, k = -(n : Int) := ⟨(-k).toNat, by omega⟩
    have := twos_dn n (by omega)
    rw [Int.neg_neg, Int.toNat_natCast, Rat.intCast_neg, Rat.intCast_natCast]
    have e : -(n : Rat) * l2 = -((n : Rat) * l2) := by grind
    rw [e]
    have p := pw_pos n
    refine scale_bd p ?_
    generalize hE 300 0 (-((n : Rat) * l2)) = H at *
    generalize (2 : Rat) ^ n = P at *
    have e1 : P * (H - 1 / P) = H * P - 1 := by grind
    have e2 : P * (1 / P * (1 / 1000000000000000)) = 1 / 1000000000000000 := by grind
    rw [e1, e2]
    exact this
theorem has_lnP {k : Int} (h : 0 ≤ k) : Has (lnP k) ((k : Rat) * l2) := by
  unfold lnP
  have c0 := Rat.intCast_le_intCast.2 h
  have z : ((0 : Int) : Rat) = 0 := rfl
  rw [z] at c0
  refine has_in ?_ ?_
  · have := @floor_le (k * 1598288580650331957) 536870912 (by decide)
    rw [Rat.intCast_mul] at this
    have e1 : ((1598288580650331957 : Int) : Rat) = 1598288580650331957 := rfl
    have e2 : ((536870912 : Int) : Rat) = 536870912 := rfl
    rw [e1, e2] at this
    unfold l2; grind
  · have := @floor_le (-k * 1598288580650331958) 536870912 (by decide)
    rw [Rat.intCast_mul, Rat.intCast_neg] at this
    have e1 : ((1598288580650331958 : Int) : Rat) = 1598288580650331958 := rfl
    have e2 : ((536870912 : Int) : Rat) = 536870912 := rfl
    rw [e1, e2] at this
    rw [Rat.intCast_neg]
    unfold l2; grind
theorem has_ln (k : Int) : Has (lnI k) ((k : Rat) * l2) := by
  unfold lnI
  split
  · split
    · rename_i h
      have := has_lnP (k := -k) (by omega)
      intro hk
      have hk2 : okI (lnP (-k)) = true := by rw [okI_mk] at hk; rw [okI_iff]; omega
      have := this hk2
      simp only
      rw [Rat.intCast_neg, Rat.intCast_neg]
      rw [Rat.intCast_neg] at this
      constructor <;> grind
    · exact has_lnP (by omega)
  · exact has_whole
def exR : Nat → Rat → Rat → Rat
  | 0, _, p => p
  | i + 1, r, p => exR i r (1 + r * p / (((i + 1 : Nat) : Int) : Rat))
theorem has_expL : ∀ (i : Nat) {r p : Iv} {R P : Rat}, Has r R → Has p P → Has (expL i r p) (exR i R P)
  | 0, r, p, R, P, _, hp => hp
  | i + 1, r, p, R, P, hr, hp => by
    rw [expL, exR]
    exact has_expL i hr (has_add has_one (has_div (has_mul hr hp) (has_int _)))
theorem exR_h (r : Rat) : ∀ (i n : Nat), exR i r (hE n i r) = hE (n + i) 0 r
  | 0, n => rfl
  | i + 1, n => by
    rw [exR]
    have e : 1 + r * hE n (i + 1) r / (((i + 1 : Nat) : Int) : Rat) = hE (n + 1) i r := by
      rw [hE, Rat.intCast_natCast]; grind
    rw [e, exR_h r i (n + 1), show n + 1 + i = n + (i + 1) by omega]
theorem exR_9 (r : Rat) : exR 9 r 1 = hE 10 0 r := by
  have := exR_h r 9 1
  have e : hE 1 9 r = 1 := by simp only [hE]; grind
  rw [e] at this
  exact this
theorem has_wid {X : Iv} {u p : Rat} (h : Has X p) (hu : Bd (u - p) (1/4294967296)) : Has (widI X) u := by
  unfold widI
  split
  · rename_i hk
    have := h hk
    have c1 : ((1 : Int) : Rat) = 1 := rfl
    unfold Bd at hu
    refine has_mk ?_ ?_
    · rw [Rat.intCast_sub, c1]; grind
    · rw [Rat.intCast_add, c1]; grind
  · exact has_whole
theorem cast_pow (n : Nat) : ((2 ^ n : Int) : Rat) = 2 ^ n := by
  induction n with
  | zero => rfl
  | succ n ih => rw [Int.pow_succ, Rat.intCast_mul, ih, Rat.pow_succ]; rfl
theorem has_scale {X : Iv} {u : Rat} {k : Int} (h : Has X u) (hX : okI X = true) : Has (scaleI X k) (p2 k * u) := by
  have hh := h hX
  unfold scaleI p2
  split
  · rename_i h0
    have p := pw_pos k.toNat
    refine has_mk ?_ ?_
    · rw [Rat.intCast_mul, cast_pow]
      have := Rat.mul_le_mul_of_nonneg_right hh.1 (Rat.le_of_lt p); grind
    · rw [Rat.intCast_mul, cast_pow]
      have := Rat.mul_le_mul_of_nonneg_right hh.2 (Rat.le_of_lt p); grind
  · rename_i h0
    have p := pw_pos (-k).toNat
    have pi : (0 : Int) < 2 ^ (-k).toNat := Int.pow_pos (by omega)
    have f1 := @floor_le X.lo (2 ^ (-k).toNat) pi
    have f2 := @floor_le (-X.hi) (2 ^ (-k).toNat) pi
    rw [cast_pow] at f1 f2
    rw [Rat.intCast_neg] at f2
    generalize (2 : Rat) ^ (-k).toNat = P at *
    have e : 1 / P * u * 4294967296 = u * 4294967296 / P := by grind
    refine has_in ?_ ?_
    · rw [e, le_div_iff p]; grind
    · rw [e, div_le_iff p, Rat.intCast_neg]; grind
theorem tail_e : hE 300 0 (7/20) - hE 10 0 (7/20) ≤ 1/100000000000 := by decide +kernel
theorem up_e : hE 300 0 (7/20) ≤ 142/100 := by decide +kernel
theorem e_tail {r : Rat} (h : Bd r (7/20)) : Bd (eX r - hE 10 0 r) (1/100000000000) := by
  have := sm_tail (tm_bd h) 10 290
  rw [hE_eq (7/20), hE_eq (7/20), hE_eq r 10] at this
  exact this.mono tail_e
theorem l2_bd : 2977044471/4294967296 ≤ l2 ∧ l2 ≤ 2977044472/4294967296 := by constructor <;> decide +kernel
theorem k_l2 {k : Int} (h1 : -33 ≤ k) (h2 : k ≤ 33) : Bd ((k : Rat) * l2) 24 := by
  have c1 := Rat.intCast_le_intCast.2 h1
  have c2 := Rat.intCast_le_intCast.2 h2
  have e1 : ((-33 : Int) : Rat) = -33 := rfl
  have e2 : ((33 : Int) : Rat) = 33 := rfl
  rw [e1] at c1
  rw [e2] at c2
  exact ((show Bd (k : Rat) 33 by unfold Bd; grind).mul (show Bd l2 (7/10) by have := l2_bd; unfold Bd; grind)).mono (by decide +kernel)
theorem exp_r {n : Int} (h1 : -98784247808 ≤ n) (h2 : n ≤ 85899345920) : Bd ((n : Rat) / 4294967296 - (expK n : Rat) * l2) (7/20) := by
  obtain ⟨k1, k2, k3, k4⟩ := expK_bd h1 h2
  generalize expK n = k at *
  obtain ⟨d, hd⟩ : ∃ d : Int, n - k * 2977044472 = d := ⟨_, rfl⟩
  have d1 : -1488522236 ≤ d ∧ d ≤ 1488522236 := by omega
  have hn : n = k * 2977044472 + d := by omega
  have c1 := Rat.intCast_le_intCast.2 d1.1
  have c2 := Rat.intCast_le_intCast.2 d1.2
  have c3 := Rat.intCast_le_intCast.2 k1
  have c4 := Rat.intCast_le_intCast.2 k2
  have e1 : ((-1488522236 : Int) : Rat) = -1488522236 := rfl
  have e2 : ((1488522236 : Int) : Rat) = 1488522236 := rfl
  have e3 : ((-33 : Int) : Rat) = -33 := rfl
  have e4 : ((29 : Int) : Rat) = 29 := rfl
  have e5 : ((2977044472 : Int) : Rat) = 2977044472 := rfl
  rw [e1] at c1
  rw [e2] at c2
  rw [e3] at c3
  rw [e4] at c4
  have l := l2_bd
  have m := (show Bd (k : Rat) 33 by unfold Bd; grind).mul (show Bd (2977044472/4294967296 - l2) (1/4294967296) by unfold Bd; grind)
  rw [hn, Rat.intCast_add, Rat.intCast_mul, e5]
  unfold Bd at *
  constructor <;> grind
theorem p2_low {k : Int} (h : -33 ≤ k) : 1/10000000000 ≤ p2 k := by
  unfold p2
  split
  · have : (1 : Rat) ≤ 2 ^ k.toNat := by
      generalize k.toNat = n
      induction n with
      | zero => decide +kernel
      | succ n ih => rw [Rat.pow_succ]; grind
    grind
  · obtain ⟨n, hn⟩ : ∃ n, (-k).toNat = n := ⟨_, rfl⟩
    rw [hn]
    have hn2 : n ≤ 33 := by omega
    have : ∀ n : Nat, n < 34 → (1 : Rat)/10000000000 ≤ 1 / 2 ^ n := by decide +kernel
    exact this n (by omega)
/-- The exponential's interval holds what is near the truth. -/
theorem has_exp {n : Int} (h1 : -98784247808 ≤ n) (h2 : n ≤ 85899345920) {w : Rat} (hw : Bd (w - eX ((n : Rat) / 4294967296)) (eX ((n : Rat) / 4294967296) * (1/10000000000))) : Has (expA n) w := by
  have hr := exp_r h1 h2
  obtain ⟨k1, k2, _, _⟩ := expK_bd h1 h2
  have hP := expP_bd h1 h2
  have e : expA n = scaleI (widI (expP n)) (expK n) := by
    unfold expA
    rw [if_pos (by rw [fixOk_iff.2 (by omega)]; simp; omega), if_neg (by omega)]
  have okW : okI (widI (expP n)) = true := by
    have kP := okI_iff.1 hP.1
    unfold widI
    rw [if_pos hP.1, mkI_ok (by rw [okI_mk]; omega)]
    rw [okI_mk]; omega
  rw [e]
  obtain ⟨K, hK⟩ : ∃ K, p2 (expK n) = K := ⟨_, rfl⟩
  have K0 := p2_pos (expK n)
  have KL := p2_low (k := expK n) k1
  have nr := two_near (k := expK n) k1 (by omega)
  have kl := k_l2 (k := expK n) k1 (by omega)
  obtain ⟨r, hre⟩ : ∃ r, (n : Rat) / 4294967296 - (expK n : Rat) * l2 = r := ⟨_, rfl⟩
  rw [hre] at hr
  have hx : (n : Rat) / 4294967296 = (expK n : Rat) * l2 + r := by grind
  have ea := e_add kl (hr.mono (show (7/20 : Rat) ≤ 48 by decide +kernel))
  rw [← hx] at ea
  have et := e_tail hr
  have eu : eX r ≤ 142/100 := by
    have := (sm_bd 300 fun i _ => tm_bd hr i).2
    rw [hE_eq (7/20)] at this
    have := up_e
    unfold eX; grind
  have ep := e_pos (hr.mono (show (7/20 : Rat) ≤ 24 by decide +kernel))
  have HR : Has (expR n) r := by
    have := has_sub (has_at n) (has_ln (expK n))
    rw [hre] at this; exact this
  have HP : Has (expP n) (hE 10 0 r) := by
    have := has_expL 9 HR has_one
    rw [exR_9] at this; exact this
  rw [hK] at K0 KL nr
  have key : Has (scaleI (widI (expP n)) (expK n)) (K * (w / K)) := by
    rw [← hK]
    refine has_scale (has_wid HP ?_) okW
    rw [hK]
    generalize eX ((expK n : Rat) * l2) = A at *
    generalize eX ((n : Rat) / 4294967296) = X at *
    generalize eX r = B at *
    generalize hE 10 0 r = P at *
    have z := eZ_0
    have m := nr.mul (show Bd B (142/100) by unfold Bd; grind)
    have Kc : (1/10000000000000000000000000000000000000000 : Rat) ≤ K * (1/1000000000000000000) := by grind
    have s1 : Bd (X - K * B) (K * (1/100000000000000)) := by unfold Bd at *; constructor <;> grind
    have mB := Rat.mul_le_mul_of_nonneg_left eu (Rat.le_of_lt K0)
    have s2 : Bd (w - K * B) (K * (15/100000000000)) := by unfold Bd at *; constructor <;> grind
    have s3 : Bd (w / K - B) (15/100000000000) := by
      refine scale_bd K0 ?_
      have : K * (w / K - B) = w - K * B := by grind
      rw [this]; exact s2
    unfold Bd at *; constructor <;> grind
  exact has_mono key (by grind)

-- plain exp3
/-- The arc of the hyperbolic tangent, over its argument, as a polynomial in the argument's square; its square; sinh (over u) and cosh in the square of u. -/
def tP : List Rat := [1, 1/3, 1/5, 1/7, 1/9, 1/11, 1/13, 1/15, 1/17]
def vP : List Rat := 0 :: pml tP tP
def shP : List Rat := [1, 1/6, 1/120, 1/5040, 1/362880]
def chP : List Rat := [1, 1/2, 1/24, 1/720, 1/40320, 1/3628800]
def hP : List Rat := padL (pml tP (pcm shP vP)) (psc (-1) (pcm chP vP))
theorem hP_num : evL (1/25) (pab hP) ≤ 1/10000000000000 := by decide +kernel
theorem tP_num : (1/5 : Rat) * evL (1/25) (pab tP) ≤ 203/1000 := by decide +kernel
theorem ev_vP (y : Rat) : evL y vP = y * (evL y tP * evL y tP) := by
  unfold vP; rw [evL, ev_pml]; grind
/-- Half the logarithm of (1 + z)/(1 - z). -/
def UL (z : Rat) : Rat := z * evL (z * z) tP
theorem sq_25 {z : Rat} (h : Bd z (1/5)) : Bd (z * z) (1/25) := by
  have := h.mul h
  have e : (1/5 : Rat) * (1/5) = 1/25 := by decide +kernel
  rw [e] at this; exact this
theorem UL_bd {z : Rat} (h : Bd z (1/5)) : Bd (UL z) (203/1000) := (h.mul (ev_bd (sq_25 h) tP)).mono tP_num
theorem sm_p (u : Rat) : hE 11 0 u = evL (u * u) chP + u * evL (u * u) shP := by
  simp only [hE, chP, shP, evL]
  simp
  grind
theorem sm_n (u : Rat) : hE 11 0 (-u) = evL (u * u) chP - u * evL (u * u) shP := by
  rw [sm_p, show -u * -u = u * u by grind]; grind
theorem tail_u : hE 300 0 (203/1000) - hE 11 0 (203/1000) ≤ 1/100000000000000 := by decide +kernel
theorem up_u : hE 300 0 (203/1000) ≤ 123/100 := by decide +kernel
theorem e_tail_u {u : Rat} (h : Bd u (203/1000)) : Bd (eX u - hE 11 0 u) (1/100000000000000) ∧ Bd (eX u) (123/100) := by
  have h1 := sm_tail (tm_bd h) 11 289
  have h2 := sm_bd 300 fun i _ => tm_bd h i
  rw [hE_eq (203/1000), hE_eq (203/1000), hE_eq u 11] at h1
  rw [hE_eq (203/1000)] at h2
  exact ⟨h1.mono tail_u, h2.mono up_u⟩
/-- Twice this number is the logarithm of (1 + z)/(1 - z). -/
theorem UL_exp {z : Rat} (h : Bd z (1/5)) : Bd (eX (UL z + UL z) * (1 - z) - (1 + z)) (1/1000000000000) := by
  have hu := UL_bd h
  have t1 := e_tail_u hu
  have t2 := e_tail_u hu.neg
  have hd := h.mul ((ev_bd (sq_25 h) hP).mono hP_num)
  have ed : evL (z * z) hP = evL (z * z) tP * evL (z * z) (pcm shP vP) + -1 * evL (z * z) (pcm chP vP) := by
    unfold hP; rw [ev_pad, ev_pml, ev_psc]
  have hw : UL z * UL z = evL (z * z) vP := by rw [ev_vP]; unfold UL; grind
  rw [sm_p, hw, ← ev_pcm, ← ev_pcm] at t1
  rw [sm_n, hw, ← ev_pcm, ← ev_pcm] at t2
  rw [ed] at hd
  have ea := e_add (hu.mono (show (203/1000 : Rat) ≤ 24 by decide +kernel)) (hu.mono (show (203/1000 : Rat) ≤ 48 by decide +kernel))
  have en := e_neg (hu.mono (show (203/1000 : Rat) ≤ 24 by decide +kernel))
  have z0 := eZ_0
  have eu : UL z = z * evL (z * z) tP := rfl
  generalize UL z = U at *
  obtain ⟨t1, b1⟩ := t1
  obtain ⟨t2, b2⟩ := t2
  generalize eX (U + U) = E2 at *
  generalize eX U = A at *
  generalize eX (-U) = B at *
  generalize evL (z * z) (pcm shP vP) = P at *
  generalize evL (z * z) (pcm chP vP) = Q at *
  generalize evL (z * z) tP = T at *
  obtain ⟨S, hS⟩ : ∃ S, U * P = S := ⟨_, rfl⟩
  rw [hS] at t1 t2
  have hd2 : Bd (S - z * Q) (1/10000000000000) := by
    have e : z * (T * P + -1 * Q) = S - z * Q := by rw [← hS, eu]; grind
    rw [e] at hd
    exact hd.mono (by decide +kernel)
  -- A (1 - z) and B (1 + z) are near to one another
  have m1 := t1.mul (show Bd (1 - z) (6/5) by unfold Bd at *; constructor <;> grind)
  have m2 := t2.mul (show Bd (1 + z) (6/5) by unfold Bd at *; constructor <;> grind)
  have k : Bd (A * (1 - z) - B * (1 + z)) (3/10000000000000) := by
    have e : A * (1 - z) - B * (1 + z) = (A - (Q + S)) * (1 - z) - (B - (Q - S)) * (1 + z) + 2 * (S - z * Q) := by grind
    rw [e]
    unfold Bd at *; constructor <;> grind
  have k1 := b1.mul k
  have m3 := ea.mul (show Bd (1 - z) (6/5) by unfold Bd at *; constructor <;> grind)
  have m4 := en.mul (show Bd (1 + z) (6/5) by unfold Bd at *; constructor <;> grind)
  have e : E2 * (1 - z) - (1 + z) = A * (A * (1 - z) - B * (1 + z)) + (A * B - 1) * (1 + z) - (A * A - E2) * (1 - z) := by grind
  rw [e]
  unfold Bd at *; constructor <;> grind

end Go.Proofs.YtcnapkdccjibpaaGreatDoor.Eng
