/- What functions of the program compute, and that the program computes it: part 33. -/
import Derived.Test.YtcnapkdccjibpaaGreatTab
import Derived.Test.YtcnapkdccjibpaaGreatEng16
import Derived.Laws.BitsLemmas
import Derived.Laws.Bits64
import Derived.Laws.Bits64b
import Derived.Lib.Mul64
import Derived.Lib.BitFns
import Derived.Laws.Externs
import Derived.Test.YtcnapkdccjibpaaGreatL1
import Derived.Test.YtcnapkdccjibpaaGreatL2
import Derived.Test.YtcnapkdccjibpaaGreatL3
import Derived.Test.YtcnapkdccjibpaaGreatL6
import Derived.Test.YtcnapkdccjibpaaGreatL8
import Derived.Test.YtcnapkdccjibpaaGreatL12
import Derived.Test.YtcnapkdccjibpaaGreatL16
import Derived.Test.YtcnapkdccjibpaaGreatL20
import Derived.Test.YtcnapkdccjibpaaGreatL21
import Derived.Test.YtcnapkdccjibpaaGreatL25
import Derived.Test.YtcnapkdccjibpaaGreatL26
import Derived.Test.YtcnapkdccjibpaaGreatL27
import Derived.Test.YtcnapkdccjibpaaGreatL29
import Derived.Test.YtcnapkdccjibpaaGreatL30
import Derived.Test.YtcnapkdccjibpaaGreatL31
import Derived.Test.YtcnapkdccjibpaaGreatL32
namespace Go.Proofs.YtcnapkdccjibpaaGreat.Eng
open Go Go.RowKit
set_option linter.unusedVariables false
set_option linter.unusedSimpArgs false
set_option maxRecDepth 100000
set_option maxHeartbeats 1000000
-- plain exp1
/-- The exponential, for the truth. -/
def eX (x : Rat) : Rat := smR (tmR x) 300
def hE : Nat → Nat → Rat → Rat
  | 0, _, _ => 0
  | n + 1, k, x => 1 + x / ((k + 1 : Nat) : Rat) * hE n (k + 1) x
theorem hE_sum (x : Rat) : ∀ (n k : Nat), smR (fun i => tmR x (k + i)) n = tmR x k * hE n k x
  | 0, k => by simp only [smR, hE]; grind
  | n + 1, k => by
    rw [sm_shift, hE]
    have e : smR (fun i => tmR x (k + (i + 1))) n = smR (fun i => tmR x (k + 1 + i)) n := sm_congr _ fun i _ => by rw [show k + (i + 1) = k + 1 + i by omega]
    rw [e, hE_sum x n (k + 1), Nat.add_zero, tmR]
    have := cast_ne k
    grind
theorem hE_eq (x : Rat) (n : Nat) : smR (tmR x) n = hE n 0 x := by
  have h := hE_sum x n 0
  have e : smR (fun i => tmR x (0 + i)) n = smR (tmR x) n := sm_congr _ fun i _ => by rw [Nat.zero_add]
  have z : tmR x 0 = 1 := rfl
  rw [e, z] at h
  grind
/-- How far off sums of exponents may be. -/
def e0 : Rat := 1/100000000000000000000000000000000000000000000000000
theorem e_num : hE 300 0 24 * hE 300 0 48 - hE 300 0 72 ≤ e0 := by decide +kernel
theorem e24 : hE 300 0 24 ≤ 27000000000 := by decide +kernel
theorem e_add {x y : Rat} (hx : Bd x 24) (hy : Bd y 48) : Bd (eX x * eX y - eX (x + y)) e0 := by
  have h := prod_err (tm_bd hx) (tm_bd hy) 300
  have e1 : smR (cvR (tmR x) (tmR y)) 300 = eX (x + y) := sm_congr _ fun i _ => tm_binom x y i
  have e2 : smR (cvR (tmR 24) (tmR 48)) 300 = smR (tmR (24 + 48)) 300 := sm_congr _ fun i _ => tm_binom 24 48 i
  rw [e1, e2, hE_eq 24, hE_eq 48, hE_eq (24 + 48)] at h
  have e3 : (24 : Rat) + 48 = 72 := by decide +kernel
  rw [e3] at h
  exact h.mono e_num
theorem tm_nonneg {x : Rat} (h : 0 ≤ x) : ∀ (n : Nat), 0 ≤ tmR x n
  | 0 => by unfold tmR; decide
  | n + 1 => by
    have hp : (0 : Rat) < ((n + 1 : Nat) : Rat) := Rat.natCast_pos.2 (Nat.succ_pos n)
    have hi : (0 : Rat) ≤ ((n + 1 : Nat) : Rat)⁻¹ := Rat.le_of_lt (Rat.inv_pos.2 hp)
    rw [tmR, Rat.div_def]
    exact Rat.mul_nonneg (Rat.mul_nonneg (tm_nonneg h n) h) hi
theorem sm_ge {x : Rat} (h : 0 ≤ x) : ∀ (n : Nat), 1 + x ≤ smR (tmR x) (n + 2)
  | 0 => by
    have e1 : tmR x 0 = 1 := rfl
    have e2 : tmR x 1 = x := by rw [tmR, e1]; simp; grind
    simp only [smR, e1, e2]; grind
  | n + 1 => by
    have := sm_ge h n
    rw [smR]
    have := tm_nonneg h (n + 2)
    grind
theorem e_ge {x : Rat} (h : 0 ≤ x) : 1 + x ≤ eX x := sm_ge h 298
theorem e_up {x : Rat} (h : Bd x 24) : eX x ≤ 27000000000 := by
  have := (sm_bd 300 fun i _ => tm_bd h i).2
  rw [hE_eq 24] at this
  have := e24
  unfold eX; grind
theorem e_0 : eX 0 = 1 := by unfold eX; rw [hE_eq]; decide +kernel
theorem e_neg {x : Rat} (h : Bd x 24) : Bd (eX x * eX (-x) - 1) e0 := by
  have := e_add h (h.neg.mono (show (24 : Rat) ≤ 48 by decide +kernel))
  have e : x + -x = 0 := by grind
  rw [e, e_0] at this; exact this
theorem e_low {x : Rat} (h : Bd x 24) : 1/30000000000 ≤ eX x := by
  have e0s : e0 ≤ 1/100 := by decide +kernel
  by_cases h0 : 0 ≤ x
  · have := e_ge h0; grind
  · have a := e_ge (x := -x) (by grind)
    have b := e_neg h
    have c := e_up h.neg
    apply Rat.not_lt.1; intro hlt
    have m : eX x * eX (-x) ≤ 1/30000000000 * eX (-x) := Rat.mul_le_mul_of_nonneg_right (Rat.le_of_lt hlt) (by grind)
    unfold Bd at b
    grind
/-- Farther on, the exponential is greater. -/
theorem e_grow {x y : Rat} (hx : Bd x 24) (hy : Bd y 24) (h : x ≤ y) : eX x * (1 + (y - x)) ≤ eX y + e0 := by
  have a := e_add hx (y := y - x) (by unfold Bd at *; grind)
  have e : x + (y - x) = y := by grind
  rw [e] at a
  have b := e_ge (x := y - x) (by grind)
  have l := e_low hx
  have c := Rat.mul_le_mul_of_nonneg_left b (show 0 ≤ eX x by grind)
  unfold Bd at a
  grind
theorem e0_0 : 0 < e0 ∧ e0 ≤ 1/10000000000000000000000000000000000000000 := by constructor <;> decide +kernel
/-- At fixes, it is greater or equal. -/
theorem e_fix {a b : Int} (ha : Bd ((a : Rat) / 4294967296) 24) (hb : Bd ((b : Rat) / 4294967296) 24) (h : a ≤ b) : eX ((a : Rat) / 4294967296) ≤ eX ((b : Rat) / 4294967296) := by
  by_cases e : a = b
  · rw [e]; exact Rat.le_refl
  · have h1 := Rat.intCast_le_intCast.2 (show a + 1 ≤ b by omega)
    rw [Rat.intCast_add] at h1
    have c1 : ((1 : Int) : Rat) = 1 := rfl
    rw [c1] at h1
    have g := e_grow ha hb (by grind)
    have l := e_low ha
    have z := e0_0
    have m := mul_le2 (show (0 : Rat) ≤ 1/30000000000 by decide +kernel) l (show (0 : Rat) ≤ 1/4294967296 by decide +kernel) (show (1 : Rat)/4294967296 ≤ (b : Rat) / 4294967296 - (a : Rat) / 4294967296 by grind)
    generalize (b : Rat) / 4294967296 - (a : Rat) / 4294967296 = d at *
    generalize eX ((a : Rat) / 4294967296) = A at *
    generalize eX ((b : Rat) / 4294967296) = B at *
    have : (1/30000000000 : Rat) * (1/4294967296) = 1/128849018880000000000 := by decide +kernel
    rw [this] at m
    grind
/-- What is not much greater lies not much farther. -/
theorem e_le {x y t : Rat} (hx : Bd x 24) (hy : Bd y 24) (t0 : 1/1000000000000000 ≤ t) (h : eX y ≤ eX x * (1 + t)) : y ≤ x + 2 * t := by
  apply Rat.not_lt.1; intro hlt
  have g := e_grow hx hy (by grind)
  have l := e_low hx
  have z := e0_0
  have m := Rat.mul_lt_mul_of_pos_left (show 2 * t < y - x by grind) (show 0 < eX x by grind)
  have m2 := mul_le2 (show (0 : Rat) ≤ 1/30000000000 by decide +kernel) l (show (0 : Rat) ≤ 1/1000000000000000 by decide +kernel) t0
  have : (1/30000000000 : Rat) * (1/1000000000000000) = 1/30000000000000000000000000 := by decide +kernel
  rw [this] at m2
  generalize eX x = A at *
  generalize eX y = B at *
  generalize y - x = d at *
  grind
theorem e_pos {x : Rat} (h : Bd x 24) : 0 < eX x := by have := e_low h; grind

-- plain exp2
/-- The logarithm of 2. -/
def l2 : Rat := 1598288580650331957 / 2305843009213693952
theorem twos_up : ∀ k : Nat, k < 34 → -(2 ^ k / 1000000000000000) ≤ hE 300 0 ((k : Rat) * l2) - 2 ^ k ∧ hE 300 0 ((k : Rat) * l2) - 2 ^ k ≤ 2 ^ k / 1000000000000000 := by decide +kernel
theorem twos_dn : ∀ k : Nat, k < 34 → -(1 / 1000000000000000) ≤ hE 300 0 (-((k : Rat) * l2)) * 2 ^ k - 1 ∧ hE 300 0 (-((k : Rat) * l2)) * 2 ^ k - 1 ≤ 1 / 1000000000000000 := by decide +kernel
/-- 2 to a power. -/
def p2 (k : Int) : Rat := if 0 ≤ k then 2 ^ k.toNat else 1 / 2 ^ (-k).toNat
theorem pw_pos (n : Nat) : (0 : Rat) < 2 ^ n := Rat.pow_pos (by decide +kernel)
theorem p2_pos (k : Int) : 0 < p2 k := by
  unfold p2
  split
  · exact pw_pos _
  · exact (Rat.lt_div_iff (pw_pos _)).2 (by grind)
theorem scale_bd {K d c : Rat} (hK : 0 < K) (h : Bd (K * d) (K * c)) : Bd d c := by
  constructor
  · apply Rat.not_lt.1; intro hlt
    have := Rat.mul_lt_mul_of_pos_left hlt hK
    unfold Bd at h; grind
  · apply Rat.not_lt.1; intro hlt
    have := Rat.mul_lt_mul_of_pos_left hlt hK
    unfold Bd at h; grind
theorem two_near {k : Int} (h1 : -33 ≤ k) (h2 : k ≤ 33) : Bd (eX ((k : Rat) * l2) - p2 k) (p2 k * (1/1000000000000000)) := by
  unfold eX
  rw [hE_eq]
  unfold p2
  by_cases h0 : 0 ≤ k
  · rw [if_pos h0]
    obtain ⟨n, rfl⟩ : ∃ n : Nat, k = n := ⟨k.toNat, by omega⟩
    have := twos_up n (by omega)
    rw [Int.toNat_natCast, Rat.intCast_natCast]
    unfold Bd; grind
  · rw [if_neg h0]
    obtain ⟨n, rfl⟩ : ∃ n : Nat, k = -(n : Int) := ⟨(-k).toNat, by omega⟩
    have := twos_dn n (by omega)
    rw [Int.neg_neg, Int.toNat_natCast, Rat.intCast_neg, Rat.intCast_natCast]
    have e : -(n : Rat) * l2 = -((n : Rat) * l2) := by grind
    rw [e]
    have p := pw_pos n
    refine scale_bd p ?_
    generalize hE 300 0 (-((n : Rat) * l2)) = H at *
    generalize (2 : Rat) ^ n = P at *
    have e1 : P * (H - 1 / P) = H * P - 1 := by grind
    have e2 : P * (1 / P * (1 / 1000000000000000)) = 1 / 1000000000000000 := by grind
    rw [e1, e2]
    exact this
theorem has_lnP {k : Int} (h : 0 ≤ k) : Has (lnP k) ((k : Rat) * l2) := by
  unfold lnP
  have c0 := Rat.intCast_le_intCast.2 h
  have z : ((0 : Int) : Rat) = 0 := rfl
  rw [z] at c0
  refine has_in ?_ ?_
  · have := @floor_le (k * 1598288580650331957) 536870912 (by decide)
    rw [Rat.intCast_mul] at this
    have e1 : ((1598288580650331957 : Int) : Rat) = 1598288580650331957 := rfl
    have e2 : ((536870912 : Int) : Rat) = 536870912 := rfl
    rw [e1, e2] at this
    unfold l2; grind
  · have := @floor_le (-k * 1598288580650331958) 536870912 (by decide)
    rw [Rat.intCast_mul, Rat.intCast_neg] at this
    have e1 : ((1598288580650331958 : Int) : Rat) = 1598288580650331958 := rfl
    have e2 : ((536870912 : Int) : Rat) = 536870912 := rfl
    rw [e1, e2] at this
    rw [Rat.intCast_neg]
    unfold l2; grind
theorem has_ln (k : Int) : Has (lnI k) ((k : Rat) * l2) := by
  unfold lnI
  split
  · split
    · rename_i h
      have := has_lnP (k := -k) (by omega)
      intro hk
      have hk2 : okI (lnP (-k)) = true := by rw [okI_mk] at hk; rw [okI_iff]; omega
      have := this hk2
      simp only
      rw [Rat.intCast_neg, Rat.intCast_neg]
      rw [Rat.intCast_neg] at this
      constructor <;> grind
    · exact has_lnP (by omega)
  · exact has_whole
def exR : Nat → Rat → Rat → Rat
  | 0, _, p => p
  | i + 1, r, p => exR i r (1 + r * p / (((i + 1 : Nat) : Int) : Rat))
theorem has_expL : ∀ (i : Nat) {r p : Iv} {R P : Rat}, Has r R → Has p P → Has (expL i r p) (exR i R P)
  | 0, r, p, R, P, _, hp => hp
  | i + 1, r, p, R, P, hr, hp => by
    rw [expL, exR]
    exact has_expL i hr (has_add has_one (has_div (has_mul hr hp) (has_int _)))
theorem exR_h (r : Rat) : ∀ (i n : Nat), exR i r (hE n i r) = hE (n + i) 0 r
  | 0, n => rfl
  | i + 1, n => by
    rw [exR]
    have e : 1 + r * hE n (i + 1) r / (((i + 1 : Nat) : Int) : Rat) = hE (n + 1) i r := by
      rw [hE, Rat.intCast_natCast]; grind
    rw [e, exR_h r i (n + 1), show n + 1 + i = n + (i + 1) by omega]
theorem exR_9 (r : Rat) : exR 9 r 1 = hE 10 0 r := by
  have := exR_h r 9 1
  have e : hE 1 9 r = 1 := by simp only [hE]; grind
  rw [e] at this
  exact this
theorem has_wid {X : Iv} {u p : Rat} (h : Has X p) (hu : Bd (u - p) (1/4294967296)) : Has (widI X) u := by
  unfold widI
  split
  · rename_i hk
    have := h hk
    have c1 : ((1 : Int) : Rat) = 1 := rfl
    unfold Bd at hu
    refine has_mk ?_ ?_
    · rw [Rat.intCast_sub, c1]; grind
    · rw [Rat.intCast_add, c1]; grind
  · exact has_whole
theorem cast_pow (n : Nat) : ((2 ^ n : Int) : Rat) = 2 ^ n := by
  induction n with
  | zero => rfl
  | succ n ih => rw [Int.pow_succ, Rat.intCast_mul, ih, Rat.pow_succ]; rfl
theorem has_scale {X : Iv} {u : Rat} {k : Int} (h : Has X u) (hX : okI X = true) : Has (scaleI X k) (p2 k * u) := by
  have hh := h hX
  unfold scaleI p2
  split
  · rename_i h0
    have p := pw_pos k.toNat
    refine has_mk ?_ ?_
    · rw [Rat.intCast_mul, cast_pow]
      have := Rat.mul_le_mul_of_nonneg_right hh.1 (Rat.le_of_lt p); grind
    · rw [Rat.intCast_mul, cast_pow]
      have := Rat.mul_le_mul_of_nonneg_right hh.2 (Rat.le_of_lt p); grind
  · rename_i h0
    have p := pw_pos (-k).toNat
    have pi : (0 : Int) < 2 ^ (-k).toNat := Int.pow_pos (by omega)
    have f1 := @floor_le X.lo (2 ^ (-k).toNat) pi
    have f2 := @floor_le (-X.hi) (2 ^ (-k).toNat) pi
    rw [cast_pow] at f1 f2
    rw [Rat.intCast_neg] at f2
    generalize (2 : Rat) ^ (-k).toNat = P at *
    have e : 1 / P * u * 4294967296 = u * 4294967296 / P := by grind
    refine has_in ?_ ?_
    · rw [e, le_div_iff p]; grind
    · rw [e, div_le_iff p, Rat.intCast_neg]; grind
theorem tail_e : hE 300 0 (7/20) - hE 10 0 (7/20) ≤ 1/100000000000 := by decide +kernel
theorem up_e : hE 300 0 (7/20) ≤ 142/100 := by decide +kernel
theorem e_tail {r : Rat} (h : Bd r (7/20)) : Bd (eX r - hE 10 0 r) (1/100000000000) := by
  have := sm_tail (tm_bd h) 10 290
  rw [hE_eq (7/20), hE_eq (7/20), hE_eq r 10] at this
  exact this.mono tail_e
theorem l2_bd : 2977044471/4294967296 ≤ l2 ∧ l2 ≤ 2977044472/4294967296 := by constructor <;> decide +kernel
theorem k_l2 {k : Int} (h1 : -33 ≤ k) (h2 : k ≤ 33) : Bd ((k : Rat) * l2) 24 := by
  have c1 := Rat.intCast_le_intCast.2 h1
  have c2 := Rat.intCast_le_intCast.2 h2
  have e1 : ((-33 : Int) : Rat) = -33 := rfl
  have e2 : ((33 : Int) : Rat) = 33 := rfl
  rw [e1] at c1
  rw [e2] at c2
  exact ((show Bd (k : Rat) 33 by unfold Bd; grind).mul (show Bd l2 (7/10) by have := l2_bd; unfold Bd; grind)).mono (by decide +kernel)
theorem exp_r {n : Int} (h1 : -98784247808 ≤ n) (h2 : n ≤ 85899345920) : Bd ((n : Rat) / 4294967296 - (expK n : Rat) * l2) (7/20) := by
  obtain ⟨k1, k2, k3, k4⟩ := expK_bd h1 h2
  generalize expK n = k at *
  obtain ⟨d, hd⟩ : ∃ d : Int, n - k * 2977044472 = d := ⟨_, rfl⟩
  have d1 : -1488522236 ≤ d ∧ d ≤ 1488522236 := by omega
  have hn : n = k * 2977044472 + d := by omega
  have c1 := Rat.intCast_le_intCast.2 d1.1
  have c2 := Rat.intCast_le_intCast.2 d1.2
  have c3 := Rat.intCast_le_intCast.2 k1
  have c4 := Rat.intCast_le_intCast.2 k2
  have e1 : ((-1488522236 : Int) : Rat) = -1488522236 := rfl
  have e2 : ((1488522236 : Int) : Rat) = 1488522236 := rfl
  have e3 : ((-33 : Int) : Rat) = -33 := rfl
  have e4 : ((29 : Int) : Rat) = 29 := rfl
  have e5 : ((2977044472 : Int) : Rat) = 2977044472 := rfl
  rw [e1] at c1
  rw [e2] at c2
  rw [e3] at c3
  rw [e4] at c4
  have l := l2_bd
  have m := (show Bd (k : Rat) 33 by unfold Bd; grind).mul (show Bd (2977044472/4294967296 - l2) (1/4294967296) by unfold Bd; grind)
  rw [hn, Rat.intCast_add, Rat.intCast_mul, e5]
  unfold Bd at *
  constructor <;> grind
theorem p2_low {k : Int} (h : -33 ≤ k) : 1/10000000000 ≤ p2 k := by
  unfold p2
  split
  · have : (1 : Rat) ≤ 2 ^ k.toNat := by
      generalize k.toNat = n
      induction n with
      | zero => decide +kernel
      | succ n ih => rw [Rat.pow_succ]; grind
    grind
  · obtain ⟨n, hn⟩ : ∃ n, (-k).toNat = n := ⟨_, rfl⟩
    rw [hn]
    have hn2 : n ≤ 33 := by omega
    have : ∀ n : Nat, n < 34 → (1 : Rat)/10000000000 ≤ 1 / 2 ^ n := by decide +kernel
    exact this n (by omega)
/-- The exponential's interval holds what is near the truth. -/
theorem has_exp {n : Int} (h1 : -98784247808 ≤ n) (h2 : n ≤ 85899345920) {w : Rat} (hw : Bd (w - eX ((n : Rat) / 4294967296)) (eX ((n : Rat) / 4294967296) * (1/10000000000))) : Has (expA n) w := by
  have hr := exp_r h1 h2
  obtain ⟨k1, k2, _, _⟩ := expK_bd h1 h2
  have hP := expP_bd h1 h2
  have e : expA n = scaleI (widI (expP n)) (expK n) := by
    unfold expA
    rw [if_pos (by rw [fixOk_iff.2 (by omega)]; simp; omega), if_neg (by omega)]
  have okW : okI (widI (expP n)) = true := by
    have kP := okI_iff.1 hP.1
    unfold widI
    rw [if_pos hP.1, mkI_ok (by rw [okI_mk]; omega)]
    rw [okI_mk]; omega
  rw [e]
  obtain ⟨K, hK⟩ : ∃ K, p2 (expK n) = K := ⟨_, rfl⟩
  have K0 := p2_pos (expK n)
  have KL := p2_low (k := expK n) k1
  have nr := two_near (k := expK n) k1 (by omega)
  have kl := k_l2 (k := expK n) k1 (by omega)
  obtain ⟨r, hre⟩ : ∃ r, (n : Rat) / 4294967296 - (expK n : Rat) * l2 = r := ⟨_, rfl⟩
  rw [hre] at hr
  have hx : (n : Rat) / 4294967296 = (expK n : Rat) * l2 + r := by grind
  have ea := e_add kl (hr.mono (show (7/20 : Rat) ≤ 48 by decide +kernel))
  rw [← hx] at ea
  have et := e_tail hr
  have eu : eX r ≤ 142/100 := by
    have := (sm_bd 300 fun i _ => tm_bd hr i).2
    rw [hE_eq (7/20)] at this
    have := up_e
    unfold eX; grind
  have ep := e_pos (hr.mono (show (7/20 : Rat) ≤ 24 by decide +kernel))
  have HR : Has (expR n) r := by
    have := has_sub (has_at n) (has_ln (expK n))
    rw [hre] at this; exact this
  have HP : Has (expP n) (hE 10 0 r) := by
    have := has_expL 9 HR has_one
    rw [exR_9] at this; exact this
  rw [hK] at K0 KL nr
  have key : Has (scaleI (widI (expP n)) (expK n)) (K * (w / K)) := by
    rw [← hK]
    refine has_scale (has_wid HP ?_) okW
    rw [hK]
    generalize eX ((expK n : Rat) * l2) = A at *
    generalize eX ((n : Rat) / 4294967296) = X at *
    generalize eX r = B at *
    generalize hE 10 0 r = P at *
    have z := e0_0
    have m := nr.mul (show Bd B (142/100) by unfold Bd; grind)
    have Kc : (1/10000000000000000000000000000000000000000 : Rat) ≤ K * (1/1000000000000000000) := by grind
    have s1 : Bd (X - K * B) (K * (1/100000000000000)) := by unfold Bd at *; constructor <;> grind
    have mB := Rat.mul_le_mul_of_nonneg_left eu (Rat.le_of_lt K0)
    have s2 : Bd (w - K * B) (K * (15/100000000000)) := by unfold Bd at *; constructor <;> grind
    have s3 : Bd (w / K - B) (15/100000000000) := by
      refine scale_bd K0 ?_
      have : K * (w / K - B) = w - K * B := by grind
      rw [this]; exact s2
    unfold Bd at *; constructor <;> grind
  exact has_mono key (by grind)

-- plain exp3
/-- The arc of the hyperbolic tangent, over its argument, as a polynomial in the argument's square; its square; sinh (over u) and cosh in the square of u. -/
def tP : List Rat := [1, 1/3, 1/5, 1/7, 1/9, 1/11, 1/13, 1/15, 1/17]
def vP : List Rat := 0 :: pml tP tP
def shP : List Rat := [1, 1/6, 1/120, 1/5040, 1/362880]
def chP : List Rat := [1, 1/2, 1/24, 1/720, 1/40320, 1/3628800]
def hP : List Rat := padL (pml tP (pcm shP vP)) (psc (-1) (pcm chP vP))
theorem hP_num : evL (1/25) (pab hP) ≤ 1/10000000000000 := by decide +kernel
theorem tP_num : (1/5 : Rat) * evL (1/25) (pab tP) ≤ 203/1000 := by decide +kernel
theorem ev_vP (y : Rat) : evL y vP = y * (evL y tP * evL y tP) := by
  unfold vP; rw [evL, ev_pml]; grind
/-- Half the logarithm of (1 + z)/(1 - z). -/
def UL (z : Rat) : Rat := z * evL (z * z) tP
theorem sq_25 {z : Rat} (h : Bd z (1/5)) : Bd (z * z) (1/25) := by
  have := h.mul h
  have e : (1/5 : Rat) * (1/5) = 1/25 := by decide +kernel
  rw [e] at this; exact this
theorem UL_bd {z : Rat} (h : Bd z (1/5)) : Bd (UL z) (203/1000) := (h.mul (ev_bd (sq_25 h) tP)).mono tP_num
theorem sm_p (u : Rat) : hE 11 0 u = evL (u * u) chP + u * evL (u * u) shP := by
  simp only [hE, chP, shP, evL]
  simp
  grind
theorem sm_n (u : Rat) : hE 11 0 (-u) = evL (u * u) chP - u * evL (u * u) shP := by
  rw [sm_p, show -u * -u = u * u by grind]; grind
theorem tail_u : hE 300 0 (203/1000) - hE 11 0 (203/1000) ≤ 1/100000000000000 := by decide +kernel
theorem up_u : hE 300 0 (203/1000) ≤ 123/100 := by decide +kernel
theorem e_tail_u {u : Rat} (h : Bd u (203/1000)) : Bd (eX u - hE 11 0 u) (1/100000000000000) ∧ Bd (eX u) (123/100) := by
  have h1 := sm_tail (tm_bd h) 11 289
  have h2 := sm_bd 300 fun i _ => tm_bd h i
  rw [hE_eq (203/1000), hE_eq (203/1000), hE_eq u 11] at h1
  rw [hE_eq (203/1000)] at h2
  exact ⟨h1.mono tail_u, h2.mono up_u⟩
/-- Twice this number is the logarithm of (1 + z)/(1 - z). -/
theorem UL_exp {z : Rat} (h : Bd z (1/5)) : Bd (eX (UL z + UL z) * (1 - z) - (1 + z)) (1/1000000000000) := by
  have hu := UL_bd h
  have t1 := e_tail_u hu
  have t2 := e_tail_u hu.neg
  have hd := h.mul ((ev_bd (sq_25 h) hP).mono hP_num)
  have ed : evL (z * z) hP = evL (z * z) tP * evL (z * z) (pcm shP vP) + -1 * evL (z * z) (pcm chP vP) := by
    unfold hP; rw [ev_pad, ev_pml, ev_psc]
  have hw : UL z * UL z = evL (z * z) vP := by rw [ev_vP]; unfold UL; grind
  rw [sm_p, hw, ← ev_pcm, ← ev_pcm] at t1
  rw [sm_n, hw, ← ev_pcm, ← ev_pcm] at t2
  rw [ed] at hd
  have ea := e_add (hu.mono (show (203/1000 : Rat) ≤ 24 by decide +kernel)) (hu.mono (show (203/1000 : Rat) ≤ 48 by decide +kernel))
  have en := e_neg (hu.mono (show (203/1000 : Rat) ≤ 24 by decide +kernel))
  have z0 := e0_0
  have eu : UL z = z * evL (z * z) tP := rfl
  generalize UL z = U at *
  obtain ⟨t1, b1⟩ := t1
  obtain ⟨t2, b2⟩ := t2
  generalize eX (U + U) = E2 at *
  generalize eX U = A at *
  generalize eX (-U) = B at *
  generalize evL (z * z) (pcm shP vP) = P at *
  generalize evL (z * z) (pcm chP vP) = Q at *
  generalize evL (z * z) tP = T at *
  obtain ⟨S, hS⟩ : ∃ S, U * P = S := ⟨_, rfl⟩
  rw [hS] at t1 t2
  have hd2 : Bd (S - z * Q) (1/10000000000000) := by
    have e : z * (T * P + -1 * Q) = S - z * Q := by rw [← hS, eu]; grind
    rw [e] at hd
    exact hd.mono (by decide +kernel)
  -- A (1 - z) and B (1 + z) are near to one another
  have m1 := t1.mul (show Bd (1 - z) (6/5) by unfold Bd at *; constructor <;> grind)
  have m2 := t2.mul (show Bd (1 + z) (6/5) by unfold Bd at *; constructor <;> grind)
  have k : Bd (A * (1 - z) - B * (1 + z)) (3/10000000000000) := by
    have e : A * (1 - z) - B * (1 + z) = (A - (Q + S)) * (1 - z) - (B - (Q - S)) * (1 + z) + 2 * (S - z * Q) := by grind
    rw [e]
    unfold Bd at *; constructor <;> grind
  have k1 := b1.mul k
  have m3 := ea.mul (show Bd (1 - z) (6/5) by unfold Bd at *; constructor <;> grind)
  have m4 := en.mul (show Bd (1 + z) (6/5) by unfold Bd at *; constructor <;> grind)
  have e : E2 * (1 - z) - (1 + z) = A * (A * (1 - z) - B * (1 + z)) + (A * B - 1) * (1 + z) - (A * A - E2) * (1 - z) := by grind
  rw [e]
  unfold Bd at *; constructor <;> grind

-- plain exp4
def lR : Nat → Rat → Rat → Rat
  | 0, _, p => p
  | j + 1, q, p => lR j q (((1 : Int) : Rat) / ((2 * (j : Int) + 1 : Int) : Rat) + q * p)
theorem has_logL : ∀ (j : Nat) {q p : Iv} {Q P : Rat}, Has q Q → Has p P → Has (logL j q p) (lR j Q P)
  | 0, q, p, Q, P, _, hp => hp
  | j + 1, q, p, Q, P, hq, hp => by
    rw [logL, lR]
    exact has_logL j hq (has_add has_quot (has_mul hq hp))
theorem lR_5 (y : Rat) : lR 5 y (((1 : Int) : Rat) / ((11 : Int) : Rat)) = evL y [1, 1/3, 1/5, 1/7, 1/9, 1/11] := by
  simp only [lR, evL]
  simp
  grind
def rP : List Rat := [1/13, 1/15, 1/17]
theorem tP_split (y : Rat) : evL y tP = evL y [1, 1/3, 1/5, 1/7, 1/9, 1/11] + y * y * y * y * y * y * evL y rP := by
  simp only [tP, rP, evL]
  grind
theorem r_num : 2 * (1/5) * ((1/25) * (1/25) * (1/25) * (1/25) * (1/25) * (1/25) * evL (1/25) (pab rP)) ≤ (1325 : Rat)/10000000000000 := by decide +kernel
/-- What the logarithm's interval holds, from its mantissa. -/
theorem has_logW {Z : Iv} {z w : Rat} (hZ : Has Z z) (hz : Bd z (1/5)) (hw : Bd (w - (UL z + UL z)) (1/10000000000)) :
    Has (widI (mulI (mulI (intI 2) Z) (logL 5 (sqrI Z) (quotI 1 11)))) w := by
  have h1 := has_mul (has_mul (has_int 2) hZ) (has_logL 5 (has_sqr hZ) (has_quot (n := 1) (d := 11)))
  rw [lR_5] at h1
  refine has_wid h1 ?_
  have y := sq_25 hz
  have m := hz.mul (((((((y.mul y).mul y).mul y).mul y).mul y)).mul (ev_bd y rP))
  have e : UL z + UL z = 2 * z * evL (z * z) [1, 1/3, 1/5, 1/7, 1/9, 1/11] + 2 * (z * (z * z * (z * z) * (z * z) * (z * z) * (z * z) * (z * z) * evL (z * z) rP)) := by
    unfold UL; rw [tP_split]; grind
  have c2 : ((2 : Int) : Rat) = 2 := rfl
  rw [c2]
  have n := r_num
  rw [e] at hw
  generalize evL (z * z) [1, 1/3, 1/5, 1/7, 1/9, 1/11] = A at *
  generalize z * (z * z * (z * z) * (z * z) * (z * z) * (z * z) * (z * z) * evL (z * z) rP) = B at *
  generalize (1/25 : Rat) * (1/25) * (1/25) * (1/25) * (1/25) * (1/25) * evL (1/25) (pab rP) = N at *
  unfold Bd at *
  constructor <;> grind
theorem tw_bd {n : Int} (hn : 1 ≤ n ∧ n ≤ 1152921504606846976) : -32 ≤ tw n ∧ tw n ≤ 28 ∧
    ((0 < tw n ∧ 6442450944 ≤ n / 2 ^ ((tw n).toNat - 1) ∧ n / 2 ^ (tw n).toNat < 6442450944) ∨ (tw n ≤ 0 ∧ 3221225472 ≤ n * 2 ^ (-tw n).toNat ∧ n * 2 ^ (-tw n).toNat < 6442450944)) := by
  have a1 := @twU_stop n hn 64 0 (by omega)
  have a2 := twU_ge 64 n 0
  have a3 := twU_lo 64 n 0
  have b1 := @twD_stop n hn.1 64 0 (by omega)
  unfold tw
  by_cases h : 0 < twU 64 n 0
  · rw [if_pos h]
    have lo := a3 h
    refine ⟨by omega, ?_, .inl ⟨by omega, ?_, ?_⟩⟩
    · apply Int.not_lt.1; intro hlt
      have h28 : 28 ≤ twU 64 n 0 - 1 := by omega
      have hp : (2 : Int) ^ 28 ≤ 2 ^ (twU 64 n 0 - 1) := by
        have : 2 ^ 28 ≤ 2 ^ (twU 64 n 0 - 1) := Nat.pow_le_pow_right (by omega) h28
        have : ((2 ^ 28 : Nat) : Int) ≤ ((2 ^ (twU 64 n 0 - 1) : Nat) : Int) := by omega
        simpa using this
      have hP : (0 : Int) < 2 ^ (twU 64 n 0 - 1) := Int.pow_pos (by omega)
      have := (Int.le_ediv_iff_mul_le hP).1 lo
      have := Int.mul_le_mul_of_nonneg_left hp (show (0 : Int) ≤ 6442450944 by omega)
      omega
    · simpa using lo
    · simpa using a1
  · rw [if_neg h]
    have u0 : twU 64 n 0 = 0 := by omega
    rw [u0] at a1
    simp only [Int.pow_zero, Int.ediv_one] at a1
    have dl : ∀ (f d : Nat), n * 2 ^ d < 6442450944 → n * 2 ^ (twD f n d) < 6442450944 := by
      intro f
      induction f with
      | zero => intro d hd; unfold twD; exact hd
      | succ f ih =>
        intro d hd
        unfold twD
        split
        · rename_i hc
          refine ih (d + 1) ?_
          rw [Int.pow_succ, ← Int.mul_assoc]; omega
        · exact hd
    have d2 := dl 64 0 (by simpa using a1)
    have dg : twD 64 n 0 ≤ 32 := by
      apply Nat.not_lt.1; intro hlt
      have hp : (2 : Int) ^ 33 ≤ 2 ^ (twD 64 n 0) := by
        have : 2 ^ 33 ≤ 2 ^ (twD 64 n 0) := Nat.pow_le_pow_right (by omega) (by omega)
        have : ((2 ^ 33 : Nat) : Int) ≤ ((2 ^ (twD 64 n 0) : Nat) : Int) := by omega
        simpa using this
      have := Int.mul_le_mul hn.1 hp (by omega) (by omega)
      omega
    refine ⟨by omega, by omega, .inr ⟨by omega, ?_, ?_⟩⟩
    · simpa using b1
    · simpa using d2
theorem p2_1 (k : Int) : p2 (k) * p2 (-k) = 1 := by
  unfold p2
  by_cases h : 0 ≤ k
  · rw [if_pos h]
    by_cases h2 : 0 ≤ -k
    · have : k = 0 := by omega
      subst this; decide +kernel
    · rw [if_neg h2, Int.neg_neg]
      have := pw_pos k.toNat
      grind
  · rw [if_neg h, if_pos (show 0 ≤ -k by omega)]
    have := pw_pos (-k).toNat
    grind
/-- The logarithm of a fix: a number that its interval holds with room. -/
theorem has_log {n : Int} (h1 : 1 ≤ n) (h2 : n < 1152921504606846976) :
    ∃ y, Bd y 24 ∧ Bd (eX y - (n : Rat) / 4294967296) ((n : Rat) / 4294967296 * (1/100000000000)) ∧ ∀ w, Bd (w - y) (1/10000000000) → Has (logA n) w := by
  obtain ⟨t1, t2, tc⟩ := tw_bd (n := n) (by omega)
  have e : logA n = addI (lnI (tw n)) (widI (mulI (mulI (intI 2) (logZ n)) (logL 5 (sqrI (logZ n)) (quotI 1 11)))) := by
    unfold logA; rw [if_pos (by rw [within_iff]; omega)]
  have K0 := p2_pos (tw n)
  have nr := two_near (k := tw n) (by omega) (by omega)
  have kl := k_l2 (k := tw n) (by omega) (by omega)
  have pp := p2_1 (tw n)
  have n1 := Rat.intCast_le_intCast.2 h1
  have c1 : ((1 : Int) : Rat) = 1 := rfl
  rw [c1] at n1
  -- the mantissa
  have hm : ∃ m : Rat, m * p2 (tw n) = (n : Rat) / 4294967296 ∧ Has (logM n) m ∧ 2/3 ≤ m ∧ m ≤ 3/2 := by
    refine ⟨(n : Rat) / 4294967296 * p2 (-tw n), ?_, ?_, ?_⟩
    · rw [Rat.mul_assoc, Rat.mul_comm (p2 (-tw n)), pp]; grind
    · unfold logM p2
      rcases tc with ⟨p, _, _⟩ | ⟨p, _, _⟩
      · rw [if_pos p, if_neg (show ¬ 0 ≤ -tw n by omega), Int.neg_neg]
        have pq := pw_pos (tw n).toNat
        have pi : (0 : Int) < 2 ^ (tw n).toNat := Int.pow_pos (by omega)
        have f1 := @floor_le n (2 ^ (tw n).toNat) pi
        have f2 := @floor_le (-n) (2 ^ (tw n).toNat) pi
        rw [cast_pow] at f1 f2
        rw [Rat.intCast_neg] at f2
        generalize (2 : Rat) ^ (tw n).toNat = P at *
        have e : (n : Rat) / 4294967296 * (1 / P) * 4294967296 = n / P := by grind
        refine has_in ?_ ?_
        · rw [e, le_div_iff pq]; grind
        · rw [e, div_le_iff pq, Rat.intCast_neg]; grind
      · rw [if_neg (show ¬ 0 < tw n by omega), if_pos (show 0 ≤ -tw n by omega)]
        have e : (n : Rat) / 4294967296 * 2 ^ (-tw n).toNat * 4294967296 = ((n * 2 ^ (-tw n).toNat : Int) : Rat) := by
          rw [Rat.intCast_mul, cast_pow]; grind
        refine has_in ?_ ?_ <;> rw [e] <;> exact Rat.le_refl
    · unfold p2
      rcases tc with ⟨p, q1, q2⟩ | ⟨p, q1, q2⟩
      · rw [if_neg (show ¬ 0 ≤ -tw n by omega), Int.neg_neg]
        obtain ⟨s, hs⟩ : ∃ s : Nat, (tw n).toNat = s + 1 := ⟨(tw n).toNat - 1, by omega⟩
        rw [hs] at q1 q2 ⊢
        rw [Nat.add_sub_cancel] at q1
        have pi : (0 : Int) < 2 ^ s := Int.pow_pos (by omega)
        have r1 := (Int.le_ediv_iff_mul_le pi).1 q1
        have r2 := (Int.ediv_lt_iff_lt_mul (show (0 : Int) < 2 ^ (s + 1) from Int.pow_pos (by omega))).1 q2
        have s1 := Rat.intCast_le_intCast.2 r1
        have s2 := Rat.intCast_lt_intCast.2 r2
        rw [Rat.intCast_mul, cast_pow] at s1 s2
        have c : ((6442450944 : Int) : Rat) = 6442450944 := rfl
        rw [c] at s1 s2
        rw [Rat.pow_succ] at s2 ⊢
        have pq := pw_pos s
        generalize (2 : Rat) ^ s = P at *
        have e : (n : Rat) / 4294967296 * (1 / (P * 2)) = n / (P * 8589934592) := by grind
        rw [e, le_div_iff (by grind), div_le_iff (by grind)]
        constructor <;> grind
      · rw [if_pos (show 0 ≤ -tw n by omega)]
        have s1 := Rat.intCast_le_intCast.2 q1
        have s2 := Rat.intCast_lt_intCast.2 q2
        rw [Rat.intCast_mul, cast_pow] at s1 s2
        have c : ((6442450944 : Int) : Rat) = 6442450944 := rfl
        have c' : ((3221225472 : Int) : Rat) = 3221225472 := rfl
        rw [c'] at s1
        rw [c] at s2
        constructor <;> grind
  obtain ⟨m, me, mh, m0, m1⟩ := hm
  obtain ⟨z, hz⟩ : ∃ z, (m - 1) / (m + 1) = z := ⟨_, rfl⟩
  have mz : z * (m + 1) = m - 1 := by rw [← hz]; grind
  have zb : Bd z (1/5) := by
    rw [← hz]
    constructor
    · rw [le_div_iff (by grind)]; grind
    · rw [div_le_iff (by grind)]; grind
  have HZ : Has (logZ n) z := by
    unfold logZ
    exact has_mono (has_div (has_sub mh has_one) (has_add mh has_one)) (by rw [← hz])
  have ue := UL_exp zb
  have ub := UL_bd zb
  obtain ⟨u, hu⟩ : ∃ u, UL z + UL z = u := ⟨_, rfl⟩
  have ub2 : Bd u (1/2) := by rw [← hu]; unfold Bd at *; constructor <;> grind
  have hw := fun (w : Rat) (h : Bd (w - (UL z + UL z)) (1/10000000000)) => has_logW HZ zb h
  rw [hu] at ue hw
  have t1' := Rat.intCast_le_intCast.2 t1
  have t2' := Rat.intCast_le_intCast.2 t2
  have e32 : ((-32 : Int) : Rat) = -32 := rfl
  have e28 : ((28 : Int) : Rat) = 28 := rfl
  rw [e32] at t1'
  rw [e28] at t2'
  have kl2 : Bd ((tw n : Rat) * l2) (225/10) :=
    ((show Bd (tw n : Rat) 32 by unfold Bd; grind).mul (show Bd l2 (7/10) by have := l2_bd; unfold Bd; grind)).mono (by decide +kernel)
  refine ⟨(tw n : Rat) * l2 + u, by unfold Bd at *; constructor <;> grind, ?_, ?_⟩
  · have ea := e_add kl (ub2.mono (show (1/2 : Rat) ≤ 48 by decide +kernel))
    have eu := e_ge (x := u)
    have KL := p2_low (k := tw n) (by omega)
    have z0 := e0_0
    -- E(u) is near m
    have um : Bd (eX u - m) (1/100000000000 * (1/2)) := by
      have hm1 : Bd (m + 1) (5/2) := by unfold Bd; constructor <;> grind
      have := ue.mul hm1
      have e : (eX u * (1 - z) - (1 + z)) * (m + 1) = 2 * (eX u - m) := by
        have : eX u * (1 - z) * (m + 1) = eX u * ((m + 1) - z * (m + 1)) := by grind
        have h2 : (1 + z) * (m + 1) = (m + 1) + z * (m + 1) := by grind
        have h3 : (eX u * (1 - z) - (1 + z)) * (m + 1) = eX u * (1 - z) * (m + 1) - (1 + z) * (m + 1) := by grind
        rw [h3, this, h2, mz]; grind
      rw [e] at this
      unfold Bd at *; constructor <;> grind
    rw [← me]
    generalize eX ((tw n : Rat) * l2 + u) = X at *
    generalize eX ((tw n : Rat) * l2) = A at *
    generalize eX u = B at *
    generalize p2 (tw n) = K at *
    have m1 := nr.mul (show Bd B 2 by unfold Bd at *; constructor <;> grind)
    have m2 : Bd (K * (B - m)) (K * (1/100000000000 * (1/2))) := (show Bd K K by unfold Bd; constructor <;> grind).mul um
    have Kc : (1/10000000000000000000000000000000000000000 : Rat) ≤ K * (1/1000000000000000000) := by grind
    have mK := Rat.mul_le_mul_of_nonneg_right m0 (Rat.le_of_lt K0)
    unfold Bd at *
    constructor <;> grind
  · intro w hww
    rw [e]
    have := has_add (has_ln (tw n)) (hw (w - (tw n : Rat) * l2) (by unfold Bd at *; constructor <;> grind))
    exact has_mono this (by grind)
theorem logA_dom {n : Int} (hok : okI (logA n) = true) : 1 ≤ n := by
  unfold logA at hok
  split at hok
  · rename_i h; exact (within_iff.1 h).1
  · rw [okI_whole] at hok; cases hok
/-- One side at a time. -/
theorem log_lo {n : Int} {x : Rat} (hx : Bd x 24) (h2 : n < 1152921504606846976) (hn : (n : Rat) / 4294967296 ≤ eX x * (1 + 1/100000000000)) (hok : okI (logA n) = true) : ((logA n).lo : Rat) ≤ x * 4294967296 := by
  obtain ⟨y, hy, ey, H⟩ := has_log (logA_dom hok) h2
  have p := e_pos hx
  have le : y ≤ x + 2 * (3/100000000000) := e_le hx hy (by decide +kernel) (by unfold Bd at ey; grind)
  by_cases c : y ≤ x
  · have := (H y (by rw [show y - y = 0 by grind]; exact Bd.zero (by decide +kernel)) hok).1
    grind
  · exact (H x (by unfold Bd; constructor <;> grind) hok).1
theorem log_hi {n : Int} {x : Rat} (hx : Bd x 24) (h2 : n < 1152921504606846976) (hn : eX x ≤ (n : Rat) / 4294967296 * (1 + 1/100000000000)) (hok : okI (logA n) = true) : x * 4294967296 ≤ ((logA n).hi : Rat) := by
  obtain ⟨y, hy, ey, H⟩ := has_log (logA_dom hok) h2
  have p := e_pos hy
  have le : x ≤ y + 2 * (3/100000000000) := e_le hy hx (by decide +kernel) (by unfold Bd at ey; grind)
  by_cases c : x ≤ y
  · have := (H y (by rw [show y - y = 0 by grind]; exact Bd.zero (by decide +kernel)) hok).2
    grind
  · exact (H x (by unfold Bd; constructor <;> grind) hok).2

-- plain exp5
theorem mono_has {f : Int → Iv} {x : Iv} {w : Rat} (h1 : okI (f x.lo) = true → ((f x.lo).lo : Rat) ≤ w * 4294967296) (h2 : okI (f x.hi) = true → w * 4294967296 ≤ ((f x.hi).hi : Rat)) : Has (monoI f x) w := by
  unfold monoI
  split
  · split
    · rename_i h
      rw [Bool.and_eq_true] at h
      exact has_mk (h1 h.1) (h2 h.2)
    · exact has_whole
  · exact has_whole
/-- A fix. -/
def fx (n : Int) : Rat := (n : Rat) / 4294967296
theorem fx_neg (n : Int) : fx (-n) = -fx n := by unfold fx; rw [Rat.intCast_neg]; grind
theorem fx_24 {n : Int} (h1 : -98784247808 ≤ n) (h2 : n ≤ 98784247808) : Bd (fx n) 24 := by
  have c1 := Rat.intCast_le_intCast.2 h1
  have c2 := Rat.intCast_le_intCast.2 h2
  have e1 : ((-98784247808 : Int) : Rat) = -98784247808 := rfl
  have e2 : ((98784247808 : Int) : Rat) = 98784247808 := rfl
  rw [e1] at c1
  rw [e2] at c2
  unfold fx Bd; constructor <;> grind
theorem fx_le {a b : Int} (h : a ≤ b) : fx a ≤ fx b := by
  have := Rat.intCast_le_intCast.2 h
  unfold fx; grind
theorem exp_self {n : Int} (h1 : -98784247808 ≤ n) (h2 : n ≤ 85899345920) : Has (expA n) (eX (fx n)) := by
  refine has_exp h1 h2 ?_
  have p := e_pos (fx_24 h1 (by omega))
  show Bd (eX (fx n) - eX (fx n)) (eX (fx n) * _)
  have e : eX (fx n) - eX (fx n) = 0 := by grind
  rw [e]; exact Bd.zero (by grind)
theorem exp_hi {n : Int} (h1 : -98784247808 ≤ n) (h2 : n ≤ 85899345920) {w : Rat} (hw : w ≤ eX (fx n) * (1 + 1/10000000000)) (hok : okI (expA n) = true) : w * 4294967296 ≤ ((expA n).hi : Rat) := by
  by_cases c : w ≤ eX (fx n)
  · have := (exp_self h1 h2 hok).2; grind
  · have p := e_pos (fx_24 h1 (by omega))
    exact (has_exp h1 h2 (w := w) (by show Bd (w - eX (fx n)) (eX (fx n) * _); unfold Bd; constructor <;> grind) hok).2
/-- Fixes of small size. -/
def Sm (n : Int) : Prop := -30100000000 ≤ n ∧ n ≤ 30100000000
theorem has_expI {p q : Int} (h1 : -60200000000 ≤ p) (h2 : p ≤ q) (h3 : q ≤ 60200000000) {w : Rat} (hw : Bd (w - eX (fx p)) (eX (fx p) * (1/10000000000))) : Has (expIF ⟨p, q⟩) w := by
  unfold expIF
  refine mono_has (fun hk => (has_exp (by omega) (by omega) hw hk).1) (fun hk => exp_hi (n := q) (by omega) (by omega) ?_ hk)
  have m := e_fix (a := p) (b := q) (fx_24 (by omega) (by omega)) (fx_24 (by omega) (by omega)) h2
  change eX (fx p) ≤ eX (fx q) at m
  unfold Bd at hw; grind
theorem exp_in {p q : Int} (h1 : -60200000000 ≤ p) (h2 : p ≤ q) (h3 : q ≤ 60200000000) : Has (expIF ⟨p, q⟩) (eX (fx p)) := by
  refine has_expI h1 h2 h3 ?_
  have pp := e_pos (fx_24 (n := p) (by omega) (by omega))
  have e : eX (fx p) - eX (fx p) = 0 := by grind
  rw [e]; exact Bd.zero (by grind)
/-- Logarithms undo exponentials. -/
theorem log_undo {J : Iv} {x : Rat} (hx : Bd x 24) (hJ : Has J (eX x)) : Has (logIF J) x := by
  unfold logIF
  cases hk : okI J with
  | false =>
    unfold monoI; rw [hk]; exact has_whole
  | true =>
    have h := hJ hk
    have k := okI_iff.1 hk
    have p := e_pos hx
    have l := Rat.intCast_le_intCast.2 k.2.1
    exact mono_has (log_lo hx (by omega) (by grind)) (log_hi hx (by omega) (by
      have : 0 < (J.hi : Rat) := by grind
      grind))
def shX (x : Rat) : Rat := (eX x - eX (-x)) / 2
def chX (x : Rat) : Rat := (eX x + eX (-x)) / 2
theorem has_shF {n : Int} (h : Sm n) : Has (sinhF n) (shX (fx n)) := by
  obtain ⟨h1, h2⟩ := h
  have := has_half (has_sub (exp_self (n := n) (by omega) (by omega)) (exp_self (n := -n) (by omega) (by omega)))
  rw [fx_neg] at this
  exact this
theorem has_chF {n : Int} (h : Sm n) : Has (coshF n) (chX (fx n)) := by
  obtain ⟨h1, h2⟩ := h
  have := has_half (has_add (exp_self (n := n) (by omega) (by omega)) (exp_self (n := -n) (by omega) (by omega)))
  rw [fx_neg] at this
  exact this
theorem e_mono2 {p q : Int} (hp : Sm p) (hq : Sm q) (h : p ≤ q) : eX (fx p) ≤ eX (fx q) ∧ eX (-fx q) ≤ eX (-fx p) := by
  obtain ⟨p1, p2⟩ := hp
  obtain ⟨q1, q2⟩ := hq
  have m1 := e_fix (a := p) (b := q) (fx_24 (by omega) (by omega)) (fx_24 (by omega) (by omega)) h
  have m2 := e_fix (a := -q) (b := -p) (fx_24 (by omega) (by omega)) (fx_24 (by omega) (by omega)) (by omega)
  change eX (fx p) ≤ eX (fx q) at m1
  change eX (fx (-q)) ≤ eX (fx (-p)) at m2
  rw [fx_neg, fx_neg] at m2
  exact ⟨m1, m2⟩
theorem sinh_in {p q : Int} (hp : Sm p) (hq : Sm q) (h : p ≤ q) : Has (sinhIF ⟨p, q⟩) (shX (fx p)) := by
  unfold sinhIF
  refine mono_has (fun hk => (has_shF hp hk).1) (fun hk => ?_)
  have a := (has_shF hq hk).2
  have m := e_mono2 hp hq h
  have : shX (fx p) ≤ shX (fx q) := by unfold shX; grind
  simp only at a ⊢
  grind
theorem Sm.b8 {n : Int} (h : Sm n) : Bd (fx n) (701/100) := by
  obtain ⟨h1, h2⟩ := h
  have c1 := Rat.intCast_le_intCast.2 h1
  have c2 := Rat.intCast_le_intCast.2 h2
  have e1 : ((-30100000000 : Int) : Rat) = -30100000000 := rfl
  have e2 : ((30100000000 : Int) : Rat) = 30100000000 := rfl
  rw [e1] at c1
  rw [e2] at c2
  unfold fx Bd; constructor <;> grind
theorem up_8 : hE 300 0 (701/100) ≤ 1200 := by decide +kernel
theorem e_up8 {x : Rat} (h : Bd x (701/100)) : eX x ≤ 1200 := by
  have := (sm_bd 300 fun i _ => tm_bd h i).2
  rw [hE_eq (701/100)] at this
  have := up_8
  unfold eX; grind
theorem e_low8 {x : Rat} (h : Bd x (701/100)) : 1/1300 ≤ eX x := by
  have a := e_neg (h.mono (show (701/100 : Rat) ≤ 24 by decide +kernel))
  have b := e_up8 h.neg
  have p := e_pos (h.mono (show (701/100 : Rat) ≤ 24 by decide +kernel))
  have z : e0 ≤ 1/10000 := by decide +kernel
  apply Rat.not_lt.1; intro hlt
  have := mul_le2 (Rat.le_of_lt p) (Rat.le_of_lt hlt) (Rat.le_of_lt (e_pos (h.neg.mono (show (701/100 : Rat) ≤ 24 by decide +kernel)))) b
  unfold Bd at a; grind
/-- The hyperbolic cosine is greater farther out. -/
theorem ch_mono {p q : Int} (h0 : 0 ≤ p) (h : p ≤ q) (hq : Sm q) : chX (fx p) ≤ chX (fx q) := by
  by_cases e : p = q
  · rw [e]; exact Rat.le_refl
  · have hp : Sm p := ⟨by omega, by have := hq.2; omega⟩
    have bp := hp.b8
    have bq := hq.b8
    have c0 := fx_le h0
    have z0 : fx 0 = 0 := by unfold fx; decide +kernel
    rw [z0] at c0
    have s1 : fx p + 1/4294967296 ≤ fx q := by
      have := Rat.intCast_le_intCast.2 (show p + 1 ≤ q by omega)
      rw [Rat.intCast_add] at this
      have c1 : ((1 : Int) : Rat) = 1 := rfl
      rw [c1] at this
      unfold fx; grind
    clear z0
    generalize fx p = x at *
    generalize fx q = y at *
    have n24 : (701/100 : Rat) ≤ 24 := by decide +kernel
    have n48 : (701/50 : Rat) ≤ 48 := by decide +kernel
    have dB : Bd (y - x) (701/50) := by unfold Bd at *; constructor <;> grind
    have a1 := e_add (bp.mono n24) (dB.mono n48)
    have a2 := e_add (bq.neg.mono n24) (dB.mono n48)
    have i1 : x + (y - x) = y := by grind
    have i2 : -y + (y - x) = -x := by grind
    rw [i1] at a1
    rw [i2] at a2
    have d1 := e_ge (x := y - x) (by grind)
    have d2 := e_ge (x := y) (by grind)
    have d3 := e_ge (x := x) c0
    have n := e_neg (bq.mono n24)
    have z : e0 ≤ 1/10000000000000000000000000000000000000000 := e0_0.2
    have zp := e0_0.1
    unfold chX
    generalize eX (y - x) = D at *
    generalize eX x = A at *
    generalize eX y = B at *
    generalize eX (-y) = C at *
    generalize eX (-x) = F at *
    -- C is below 1 by a little
    have hC : C ≤ 1 - 1/10000000000 := by
      apply Rat.not_lt.1; intro hlt
      have := mul_le2 (show (0 : Rat) ≤ 1 - 1/10000000000 by decide +kernel) (Rat.le_of_lt hlt) (show (0 : Rat) ≤ 1 + 1/4294967296 by decide +kernel) (show 1 + 1/4294967296 ≤ B by grind)
      have num : (1 - 1/10000000000 : Rat) * (1 + 1/4294967296) ≥ 1 + 1/100000000000 := by decide +kernel
      unfold Bd at n; grind
    have m := mul_le2 (show (0 : Rat) ≤ 1/10000000000 by decide +kernel) (show 1/10000000000 ≤ A - C by grind) (show (0 : Rat) ≤ 1/4294967296 by decide +kernel) (show 1/4294967296 ≤ D - 1 by grind)
    have num : (1/10000000000 : Rat) * (1/4294967296) ≥ 1/100000000000000000000 := by decide +kernel
    unfold Bd at a1 a2
    grind
theorem ch_even (x : Rat) : chX (-x) = chX x := by unfold chX; rw [show - -x = x by grind]; grind
theorem cosh_in {p q : Int} (hp : Sm p) (hq : Sm q) (h : p ≤ q) : Has (coshIF ⟨p, q⟩) (chX (fx p)) := by
  unfold coshIF
  obtain ⟨p1, p2⟩ := hp
  obtain ⟨q1, q2⟩ := hq
  have ok : okI ⟨p, q⟩ = true := by rw [okI_mk]; omega
  obtain ⟨u, hu⟩ : ∃ u, absZ p = u := ⟨_, rfl⟩
  have u0 : 0 ≤ u := by rw [← hu]; exact absZ_pos
  have uc : chX (fx u) = chX (fx p) := by
    rw [← hu]; unfold absZ
    split
    · rw [fx_neg, ch_even]
    · rfl
  have hn : (nearI ⟨p, q⟩ ≤ u ∧ 0 ≤ nearI ⟨p, q⟩) ∧ u ≤ farI ⟨p, q⟩ ∧ farI ⟨p, q⟩ ≤ 30100000000 := by
    have wn : ∀ b : Bool, (b = true ↔ p ≤ 0 ∧ 0 ≤ q) → True := fun _ _ => trivial
    unfold nearI farI
    simp only
    have hw : within 0 p q = true ↔ p ≤ 0 ∧ 0 ≤ q := within_iff
    rw [← hu]
    unfold absZ
    constructor
    · split
      · repeat' split
        all_goals omega
      · rename_i hc
        rw [hw] at hc
        repeat' split
        all_goals omega
    · repeat' split
      all_goals omega
  have e : absI ⟨p, q⟩ = ⟨nearI ⟨p, q⟩, farI ⟨p, q⟩⟩ := by unfold absI; rw [if_pos ok]
  rw [e, ← uc]
  refine mono_has (fun hk => ?_) (fun hk => ?_)
  · have a := (has_chF (n := nearI ⟨p, q⟩) ⟨by omega, by omega⟩ hk).1
    have := ch_mono hn.1.2 hn.1.1 ⟨by omega, by omega⟩
    simp only at a ⊢
    grind
  · have a := (has_chF (n := farI ⟨p, q⟩) ⟨by omega, by omega⟩ hk).2
    have := ch_mono u0 hn.2.1 ⟨by omega, by omega⟩
    simp only at a ⊢
    grind

-- plain exp6
def thX (x : Rat) : Rat := shX x / chX x
theorem ch_pos {x : Rat} (h : Bd x 24) : 0 < chX x := by
  have a := e_pos h
  have b := e_pos h.neg
  unfold chX; grind
theorem th_eq {x : Rat} (h : Bd x 24) : thX x * (eX x + eX (-x)) = eX x - eX (-x) := by
  have := ch_pos h
  unfold thX
  unfold chX at this ⊢
  unfold shX
  grind
theorem th_odd (x : Rat) : thX (-x) = -thX x := by
  unfold thX shX chX
  rw [show - -x = x by grind]
  have : eX (-x) + eX x = eX x + eX (-x) := by grind
  rw [this]; grind
theorem th_mono {p q : Int} (hp : Sm p) (hq : Sm q) (h : p ≤ q) : thX (fx p) ≤ thX (fx q) := by
  have m := e_mono2 hp hq h
  have n24 : (701/100 : Rat) ≤ 24 := by decide +kernel
  have bp := hp.b8.mono n24
  have bq := hq.b8.mono n24
  have c1 := ch_pos bp
  have c2 := ch_pos bq
  have p1 := e_pos bp
  have p2 := e_pos bq.neg
  unfold thX
  rw [le_div_iff c2]
  have e : shX (fx p) / chX (fx p) * chX (fx q) = shX (fx p) * chX (fx q) / chX (fx p) := by grind
  rw [e, div_le_iff c1]
  have := mul_le2 (Rat.le_of_lt p1) m.1 (Rat.le_of_lt p2) m.2
  unfold shX chX
  generalize eX (fx p) = A at *
  generalize eX (-fx p) = B at *
  generalize eX (fx q) = C at *
  generalize eX (-fx q) = D at *
  grind
theorem has_thP {n : Int} (h0 : 0 ≤ n) (h : Sm n) : Has (tanhP n) (thX (fx n)) := by
  unfold tanhP
  obtain ⟨h1, h2⟩ := h
  rw [if_neg (by omega)]
  have b := Sm.b8 ⟨h1, h2⟩
  have n24 : (701/100 : Rat) ≤ 24 := by decide +kernel
  have n48 : (701/100 : Rat) ≤ 48 := by decide +kernel
  have e2 : fx (-2 * n) = -(fx n + fx n) := by
    have c : ((-2 : Int) : Rat) = -2 := rfl
    unfold fx; rw [Rat.intCast_mul, c]; grind
  have b2 : Bd (-(fx n + fx n)) 24 := by unfold Bd at *; constructor <;> grind
  have ea := e_add b2 (b.mono n48)
  have i : -(fx n + fx n) + fx n = -fx n := by grind
  rw [i] at ea
  have l := e_low8 b
  have l2 := e_low b2
  have H : Has (expA (-2 * n)) (eX (-fx n) / eX (fx n)) := by
    refine has_exp (by omega) (by omega) ?_
    show Bd (_ - eX (fx (-2 * n))) (eX (fx (-2 * n)) * _)
    rw [e2]
    have z := e0_0
    generalize eX (-(fx n + fx n)) = A at *
    generalize eX (fx n) = B at *
    generalize eX (-fx n) = C at *
    have B0 : 0 < B := by grind
    refine scale_bd B0 ?_
    have e : B * (C / B - A) = C - A * B := by grind
    rw [e]
    have m := mul_le2 (show (0 : Rat) ≤ 1/30000000000 by decide +kernel) l2 (show (0 : Rat) ≤ 1/1300 by decide +kernel) l
    have num : (1/30000000000 : Rat) * (1/1300) ≥ 1/100000000000000 := by decide +kernel
    unfold Bd at *; constructor <;> grind
  have := has_div (has_sub has_one H) (has_add has_one H)
  refine has_mono this ?_
  have ep := e_pos (b.mono n24)
  have eq := e_pos (b.mono n24).neg
  unfold thX shX chX
  generalize eX (fx n) = B at *
  generalize eX (-fx n) = C at *
  have h1 : 1 - C / B = (B - C) / B := by grind
  have h2 : 1 + C / B = (B + C) / B := by grind
  rw [h1, h2]
  grind
theorem has_thO {n : Int} (h : Sm n) : Has (oddI tanhP n) (thX (fx n)) := by
  unfold oddI
  split
  · have := has_neg (has_thP (n := -n) (by omega) ⟨by have := h.2; omega, by have := h.1; omega⟩)
    rw [fx_neg, th_odd] at this
    exact has_mono this (by grind)
  · exact has_thP (by omega) h
theorem tanh_in {p q : Int} (hp : Sm p) (hq : Sm q) (h : p ≤ q) : Has (tanhIF ⟨p, q⟩) (thX (fx p)) := by
  unfold tanhIF
  refine mono_has (fun hk => (has_thO hp hk).1) (fun hk => ?_)
  have a := (has_thO hq hk).2
  have := th_mono hp hq h
  simp only at a ⊢
  grind
/-- Sides of odd functions. -/
theorem odd_lo {f : Int → Iv} {n : Int} {x : Rat} (h1 : 0 ≤ n → okI (f n) = true → ((f n).lo : Rat) ≤ x * 4294967296) (h2 : n < 0 → okI (f (-n)) = true → -x * 4294967296 ≤ ((f (-n)).hi : Rat)) (hok : okI (oddI f n) = true) : ((oddI f n).lo : Rat) ≤ x * 4294967296 := by
  unfold oddI at *
  split
  · rename_i h
    rw [if_pos h] at hok
    have k : okI (f (-n)) = true := by
      unfold negI at hok
      split at hok
      · assumption
      · rw [okI_whole] at hok; cases hok
    have := h2 h k
    unfold negI
    rw [if_pos k]
    simp only
    rw [Rat.intCast_neg]; grind
  · rename_i h
    rw [if_neg h] at hok
    exact h1 (by omega) hok
theorem odd_hi {f : Int → Iv} {n : Int} {x : Rat} (h1 : 0 ≤ n → okI (f n) = true → x * 4294967296 ≤ ((f n).hi : Rat)) (h2 : n < 0 → okI (f (-n)) = true → ((f (-n)).lo : Rat) ≤ -x * 4294967296) (hok : okI (oddI f n) = true) : x * 4294967296 ≤ ((oddI f n).hi : Rat) := by
  unfold oddI at *
  split
  · rename_i h
    rw [if_pos h] at hok
    have k : okI (f (-n)) = true := by
      unfold negI at hok
      split at hok
      · assumption
      · rw [okI_whole] at hok; cases hok
    have := h2 h k
    unfold negI
    rw [if_pos k]
    simp only
    rw [Rat.intCast_neg]; grind
  · rename_i h
    rw [if_neg h] at hok
    exact h1 (by omega) hok
theorem mono_out {f : Int → Iv} {x : Iv} (h : okI (monoI f x) = true) : okI x = true ∧ okI (f x.lo) = true ∧ okI (f x.hi) = true ∧ monoI f x = ⟨(f x.lo).lo, (f x.hi).hi⟩ := by
  unfold monoI at *
  split at h
  · rename_i h1
    rw [if_pos h1]
    split at h
    · rename_i h2
      rw [if_pos h2]
      rw [Bool.and_eq_true] at h2
      unfold mkI at *
      split at h
      · rename_i h3; rw [if_pos h3]; exact ⟨h1, h2.1, h2.2, rfl⟩
      · rw [okI_whole] at h; cases h
    · rw [okI_whole] at h; cases h
  · rw [okI_whole] at h; cases h
theorem half_lo {a : Iv} {w : Rat} (h : okI a = true → (a.lo : Rat) ≤ w * 2 * 4294967296) (hok : okI (halfI a) = true) : ((halfI a).lo : Rat) ≤ w * 4294967296 := by
  have k : okI a = true := by
    unfold halfI at hok
    split at hok
    · assumption
    · rw [okI_whole] at hok; cases hok
  have := h k
  unfold halfI
  rw [if_pos k]
  simp only
  have f := @floor_le a.lo 2 (by decide)
  have c : ((2 : Int) : Rat) = 2 := rfl
  rw [c] at f
  grind
theorem half_hi {a : Iv} {w : Rat} (h : okI a = true → w * 2 * 4294967296 ≤ (a.hi : Rat)) (hok : okI (halfI a) = true) : w * 4294967296 ≤ ((halfI a).hi : Rat) := by
  have k : okI a = true := by
    unfold halfI at hok
    split at hok
    · assumption
    · rw [okI_whole] at hok; cases hok
  have := h k
  unfold halfI
  rw [if_pos k]
  simp only
  have f := Rat.intCast_le_intCast.2 (show a.hi ≤ (a.hi + 1) / 2 * 2 by omega)
  rw [Rat.intCast_mul] at f
  have c : ((2 : Int) : Rat) = 2 := rfl
  rw [c] at f
  grind

-- plain exp7
theorem over_self (a : Iv) : (meetI a a).2 = true := by
  cases h : okI a with
  | true =>
    have k := okI_iff.1 h
    unfold meetI
    rw [if_pos h, if_pos h, if_neg (by omega)]
  | false => unfold meetI; rw [if_neg (by rw [h]; decide), if_neg (by rw [h]; decide)]
/-- The logarithms that the inverse hyperbolic tangent asks for. -/
theorem atanh_g {n : Int} {x : Rat} (hx : Bd x (701/100)) (h0 : 0 ≤ n) (h1 : n < 4294967296) :
    ∃ g : Rat, 0 < g ∧ Has (divI ⟨4294967296 + n, 4294967296 + n⟩ ⟨4294967296 - n, 4294967296 - n⟩) g ∧ (fx n ≤ thX x → g ≤ eX (x + x) * (1 + 1/100000000000)) ∧ (thX x ≤ fx n → eX (x + x) ≤ g * (1 + 1/100000000000)) := by
  have c0 := Rat.intCast_le_intCast.2 h0
  have c1 := Rat.intCast_lt_intCast.2 h1
  have z : ((0 : Int) : Rat) = 0 := rfl
  have e32 : ((4294967296 : Int) : Rat) = 4294967296 := rfl
  rw [z] at c0
  rw [e32] at c1
  obtain ⟨v, hv⟩ : ∃ v, fx n = v := ⟨_, rfl⟩
  have v0 : 0 ≤ v := by rw [← hv]; unfold fx; grind
  have v1 : v < 1 := by rw [← hv]; unfold fx; grind
  have hN : (n : Rat) = v * 4294967296 := by rw [← hv]; unfold fx; grind
  have n24 : (701/100 : Rat) ≤ 24 := by decide +kernel
  have b := hx.mono n24
  have te := th_eq b
  have p := e_pos b
  have q := e_pos b.neg
  have lq := e_low8 hx.neg
  have ea := e_add (x := x + x) (y := -x) (by unfold Bd at *; constructor <;> grind) (by unfold Bd at *; constructor <;> grind)
  have i : x + x + -x = x := by grind
  rw [i] at ea
  have l2 := e_low (x := x + x) (by unfold Bd at *; constructor <;> grind)
  have e0z := e0_0
  rw [hv]
  refine ⟨(1 + v) / (1 - v), ?_, ?_, fun hle => ?_, fun hle => ?_⟩
  · exact (Rat.lt_div_iff (by grind)).2 (by grind)
  · refine has_mono (has_at2 (y := 4294967296 + n) (x := 4294967296 - n)) ?_
    rw [Rat.intCast_add, Rat.intCast_sub, e32, hN]
    grind
  · rw [div_le_iff (by grind)]
    generalize eX (x + x) = G at *
    generalize eX x = A at *
    generalize eX (-x) = B at *
    generalize thX x = T at *
    have m := Rat.mul_le_mul_of_nonneg_right hle (show 0 ≤ A + B by grind)
    have m2 := Rat.mul_le_mul_of_nonneg_right (show A ≤ G * B + e0 by unfold Bd at ea; grind) (show 0 ≤ 1 - v by grind)
    have m3 := mul_le2 (show (0 : Rat) ≤ 1/30000000000 by decide +kernel) l2 (show (0 : Rat) ≤ 1/1300 by decide +kernel) lq
    have m4 := Rat.mul_le_mul_of_nonneg_right m3 (show 0 ≤ 1 - v by grind)
    have num : (1/30000000000 : Rat) * (1/1300) = 1/39000000000000 := by decide +kernel
    rw [num] at m4
    -- (1 + v) B <= A (1 - v) <= (G B + e0)(1 - v)
    have s1 : (1 + v) * B ≤ G * (1 + 1/100000000000) * (1 - v) * B := by
      have := Rat.mul_le_mul_of_nonneg_right e0z.2 (show 0 ≤ 1 - v by grind)
      grind
    apply Rat.not_lt.1; intro hlt
    have := Rat.mul_lt_mul_of_pos_right hlt q
    grind
  · have e : (1 + v) / (1 - v) * (1 + 1/100000000000) = (1 + v) * (1 + 1/100000000000) / (1 - v) := by grind
    rw [e, le_div_iff (by grind)]
    generalize eX (x + x) = G at *
    generalize eX x = A at *
    generalize eX (-x) = B at *
    generalize thX x = T at *
    have m := Rat.mul_le_mul_of_nonneg_right hle (show 0 ≤ A + B by grind)
    have m2 := Rat.mul_le_mul_of_nonneg_right (show G * B ≤ A + e0 by unfold Bd at ea; grind) (show 0 ≤ 1 - v by grind)
    have s1 : G * (1 - v) * B ≤ (1 + v) * (1 + 1/100000000000) * B := by
      have k1 := Rat.mul_le_mul_of_nonneg_right e0z.2 (show 0 ≤ 1 - v by grind)
      have k2 := Rat.mul_nonneg v0 (Rat.le_of_lt q)
      grind
    apply Rat.not_lt.1; intro hlt
    have := Rat.mul_lt_mul_of_pos_right hlt q
    grind
theorem dbl_24 {x : Rat} (hx : Bd x (701/100)) : Bd (x + x) 24 := by unfold Bd at *; constructor <;> grind
theorem atanhP_lo {n : Int} {x : Rat} (hx : Bd x (701/100)) (h0 : 0 ≤ n) (hle : fx n ≤ thX x) (hok : okI (atanhP n) = true) : ((atanhP n).lo : Rat) ≤ x * 4294967296 := by
  unfold atanhP at *
  split at hok
  · rw [okI_whole] at hok; cases hok
  · rename_i h1
    rw [if_neg h1]
    obtain ⟨g, g0, hg, hg1, _⟩ := atanh_g hx h0 (by omega)
    refine half_lo (fun k => ?_) hok
    obtain ⟨kD, k1, _, ke⟩ := mono_out k
    have hh := hg kD
    have kk := okI_iff.1 kD
    rw [ke]
    simp only
    have := log_lo (dbl_24 hx) (show (divI ⟨4294967296 + n, 4294967296 + n⟩ ⟨4294967296 - n, 4294967296 - n⟩).lo < 1152921504606846976 by omega) (by have := hg1 hle; grind) k1
    grind
theorem atanhP_hi {n : Int} {x : Rat} (hx : Bd x (701/100)) (h0 : 0 ≤ n) (hle : thX x ≤ fx n) (hok : okI (atanhP n) = true) : x * 4294967296 ≤ ((atanhP n).hi : Rat) := by
  unfold atanhP at *
  split at hok
  · rw [okI_whole] at hok; cases hok
  · rename_i h1
    rw [if_neg h1]
    obtain ⟨g, g0, hg, _, hg1⟩ := atanh_g hx h0 (by omega)
    refine half_hi (fun k => ?_) hok
    obtain ⟨kD, _, k1, ke⟩ := mono_out k
    have hh := hg kD
    have kk := okI_iff.1 kD
    rw [ke]
    simp only
    have := log_hi (dbl_24 hx) (show (divI ⟨4294967296 + n, 4294967296 + n⟩ ⟨4294967296 - n, 4294967296 - n⟩).hi < 1152921504606846976 by omega) (by have := hg1 hle; grind) k1
    grind
theorem atanh_undo {J : Iv} {x : Rat} (hx : Bd x (701/100)) (hJ : Has J (thX x)) : Has (atanhIF J) x := by
  unfold atanhIF
  cases hk : okI J with
  | false => unfold monoI; rw [hk]; exact has_whole
  | true =>
    have h := hJ hk
    have l1 : fx J.lo ≤ thX x := by unfold fx; grind
    have l2 : thX x ≤ fx J.hi := by unfold fx; grind
    have o := th_odd x
    refine mono_has (odd_lo (fun h0 k => atanhP_lo hx h0 l1 k) (fun h0 k => atanhP_hi hx.neg (by omega) ?_ k)) (odd_hi (fun h0 k => atanhP_hi hx h0 l2 k) (fun h0 k => atanhP_lo hx.neg (by omega) ?_ k))
    · rw [fx_neg, o]; grind
    · rw [fx_neg, o]; grind

end Go.Proofs.YtcnapkdccjibpaaGreat.Eng
