/- What functions of the program compute, and that the program computes it: part 16. -/
import Derived.Test.YtfgdkljlfafflaaTab
import Derived.Test.YtfgdkljlfafflaaEng16
import Derived.Laws.BitsLemmas
import Derived.Laws.Bits64
import Derived.Laws.Bits64b
import Derived.Lib.Mul64
import Derived.Lib.BitFns
import Derived.Laws.Externs
import Derived.Test.YtfgdkljlfafflaaL1
import Derived.Test.YtfgdkljlfafflaaL2
import Derived.Test.YtfgdkljlfafflaaL3
import Derived.Test.YtfgdkljlfafflaaL6
import Derived.Test.YtfgdkljlfafflaaL8
import Derived.Test.YtfgdkljlfafflaaL10
import Derived.Test.YtfgdkljlfafflaaL12
import Derived.Test.YtfgdkljlfafflaaL14
namespace Go.Proofs.Ytfgdkljlfafflaa.Eng
open Go Go.RowKit
set_option linter.unusedVariables false
set_option linter.unusedSimpArgs false
set_option maxRecDepth 100000
set_option maxHeartbeats 1000000
-- exp
def expK (n : Int) : Int := (2 * n + 2977044472) / 5954088944
def expL : Nat → Iv → Iv → Iv
  | 0, _, p => p
  | i + 1, r, p => expL i r (addI (intI 1) (divI (mulI r p) (intI ((i + 1 : Nat) : Int))))
def widI (x : Iv) : Iv := if okI x then mkI (x.lo - 1) (x.hi + 1) else whole
def scaleI (x : Iv) (k : Int) : Iv := if 0 ≤ k then mkI (x.lo * 2 ^ k.toNat) (x.hi * 2 ^ k.toNat) else ⟨x.lo / 2 ^ (-k).toNat, -((-x.hi) / 2 ^ (-k).toNat)⟩
def expR (n : Int) : Iv := subI ⟨n, n⟩ (lnI (expK n))
def expP (n : Int) : Iv := expL 9 (expR n) (intI 1)
def expA (n : Int) : Iv := if fixOk n && decide (n ≤ 85899345920) then (if n < -98784247808 then ⟨0, 1⟩ else scaleI (widI (expP n)) (expK n)) else whole
def F_expA : FT
  | [.c (.p (.int .i64 n))], _ => some (True, .v (.agg [.int .i64 ((expA n)).lo, .int .i64 ((expA n)).hi]), [])
  | _, _ => none
theorem F_expA_eq {n : Int} {g : List PC} : F_expA [.c (.p (.int .i64 n))] g = some (True, .v (.agg [.int .i64 ((expA n)).lo, .int .i64 ((expA n)).hi]), []) := rfl
def F_widI : FT
  | [.agg [.int .i64 x1, .int .i64 x2], .c (.p (.int .i64 w))], _ => some (w = 1, .v (.agg [.int .i64 ((widI (Iv.mk x1 x2))).lo, .int .i64 ((widI (Iv.mk x1 x2))).hi]), [])
  | _, _ => none
theorem F_widI_eq {x1 : Int} {x2 : Int} {w : Int} {g : List PC} : F_widI [.agg [.int .i64 x1, .int .i64 x2], .c (.p (.int .i64 w))] g = some (w = 1, .v (.agg [.int .i64 ((widI (Iv.mk x1 x2))).lo, .int .i64 ((widI (Iv.mk x1 x2))).hi]), []) := rfl
def F_scaleI : FT
  | [.agg [.int .i64 x1, .int .i64 x2], .c (.p (.int .i64 k))], _ => some ((-9223372036854775808 < x1 ∧ 0 ≤ x1 ∧ x1 ≤ x2 ∧ x2 ≤ 8589934593) ∧ -40 ≤ k ∧ k ≤ 29, .v (.agg [.int .i64 ((scaleI (Iv.mk x1 x2) k)).lo, .int .i64 ((scaleI (Iv.mk x1 x2) k)).hi]), [])
  | _, _ => none
theorem F_scaleI_eq {x1 : Int} {x2 : Int} {k : Int} {g : List PC} : F_scaleI [.agg [.int .i64 x1, .int .i64 x2], .c (.p (.int .i64 k))] g = some ((-9223372036854775808 < x1 ∧ 0 ≤ x1 ∧ x1 ≤ x2 ∧ x2 ≤ 8589934593) ∧ -40 ≤ k ∧ k ≤ 29, .v (.agg [.int .i64 ((scaleI (Iv.mk x1 x2) k)).lo, .int .i64 ((scaleI (Iv.mk x1 x2) k)).hi]), []) := rfl
theorem expK_bd {n : Int} (h1 : -98784247808 ≤ n) (h2 : n ≤ 85899345920) : -33 ≤ expK n ∧ expK n ≤ 29 ∧ expK n * 5954088944 ≤ 2 * n + 2977044472 ∧ 2 * n + 2977044472 < expK n * 5954088944 + 5954088944 := by
  unfold expK; omega
theorem ln_bd {k : Int} (h : -33 ≤ k ∧ k ≤ 29) : okI (lnI k) = true ∧ k * 2977044472 - 64 ≤ (lnI k).lo ∧ (lnI k).hi ≤ k * 2977044472 + 64 := by
  unfold lnI
  rw [if_pos (by rw [within_iff]; omega)]
  by_cases h0 : k < 0
  · rw [if_pos h0]
    have h1 := @ln_in (-k) (by omega)
    unfold lnP at *
    simp only at *
    rw [okI_mk]; omega
  · rw [if_neg h0]
    have h1 := @ln_in k (by omega)
    unfold lnP at *
    simp only at *
    rw [okI_mk]; omega
theorem expR_bd {n : Int} (h1 : -98784247808 ≤ n) (h2 : n ≤ 85899345920) : okI (expR n) = true ∧ -1488700000 ≤ (expR n).lo ∧ (expR n).hi ≤ 1488700000 := by
  have hk := expK_bd h1 h2
  have hl := @ln_bd (expK n) (by omega)
  unfold expR
  generalize expK n = k at *
  have hb := okI_iff.1 hl.1
  have hs := @subI_bd ⟨n, n⟩ (lnI k) (by rw [okI_mk]; omega) hl.1 (by simp only; omega) (by simp only; omega)
  refine ⟨hs.2, ?_⟩
  rw [hs.1]
  simp only
  omega
theorem expL_bd : ∀ (i : Nat) (r p : Iv), i ≤ 9 → okI r = true → -1488700000 ≤ r.lo → r.hi ≤ 1488700000 → okI p = true → 1 ≤ p.lo → p.hi ≤ 8589934592 →
    okI (expL i r p) = true ∧ 1 ≤ (expL i r p).lo ∧ (expL i r p).hi ≤ 8589934592
  | 0, r, p, _, _, _, _, h1, h2, h3 => ⟨h1, h2, h3⟩
  | i + 1, r, p, hi, hr, r1, r2, h1, h2, h3 => by
    have hle := (okI_iff.1 h1).2.1
    have hrl := (okI_iff.1 hr).2.1
    have hm := @mulI_bd r p (-2977400000) 2977400000 hr h1 (fun x hx y hy => by
      have := @mul_abs x y 1488700000 8589934592 (by rcases hx with rfl | rfl <;> omega) (by rcases hx with rfl | rfl <;> omega) (by rcases hy with rfl | rfl <;> omega) (by rcases hy with rfl | rfl <;> omega)
      omega) (by omega) (by omega)
    have hd := @divI_bd (mulI r p) ((i + 1 : Nat) : Int) (-2977400000) 2977400000 hm.1 (by omega) (by omega) (by omega) (by omega) (by omega)
    have e1 : intI 1 = ⟨4294967296, 4294967296⟩ := rfl
    have hdl := (okI_iff.1 hd.1).2.1
    have ha := @addI_bd (intI 1) (divI (mulI r p) (intI ((i + 1 : Nat) : Int))) (by rw [e1]; rfl) hd.1 (by rw [e1]; simp only; omega) (by rw [e1]; simp only; omega)
    refine expL_bd i r _ (by omega) hr r1 r2 ha.2 ?_ ?_
    · rw [ha.1, e1]; simp only; omega
    · rw [ha.1, e1]; simp only; omega
theorem expP_bd {n : Int} (h1 : -98784247808 ≤ n) (h2 : n ≤ 85899345920) : okI (expP n) = true ∧ 1 ≤ (expP n).lo ∧ (expP n).hi ≤ 8589934592 := by
  have hr := expR_bd h1 h2
  exact expL_bd 9 _ _ (by omega) hr.1 hr.2.1 hr.2.2 rfl (by decide) (by decide)

-- scaleL
def dblL : Nat → Iv → Iv
  | 0, x => x
  | k + 1, x => dblL k (dblI x)
theorem dbl_mk {a b : Int} (h0 : 0 ≤ a) (h1 : a ≤ b) : dblI (mkI a b) = mkI (2 * a) (2 * b) := by
  rw [dbl_eq]
  unfold mkI
  by_cases h : okI ⟨a, b⟩ = true
  · rw [if_pos h, if_pos h]
  · rw [if_neg h, if_neg (by decide), if_neg]
    intro h2
    rw [okI_mk] at h2
    exact h (okI_mk.2 (by omega))
theorem dblL_mk : ∀ (k : Nat) (a b : Int), 0 ≤ a → a ≤ b → dblL k (mkI a b) = mkI (a * 2 ^ k) (b * 2 ^ k)
  | 0, a, b, _, _ => by simp [dblL]
  | k + 1, a, b, h0, h1 => by
    rw [dblL, dbl_mk h0 h1, dblL_mk k _ _ (by omega) (by omega), Int.pow_succ', ← Int.mul_assoc, ← Int.mul_assoc, Int.mul_comm 2 a, Int.mul_comm 2 b]
theorem scale_up {x : Iv} {k : Nat} (h : okI x = true) (h0 : 0 ≤ x.lo) : dblL k x = scaleI x (k : Int) := by
  have hx : x = mkI x.lo x.hi := (mkI_ok h).symm
  have hb := okI_iff.1 h
  unfold scaleI
  rw [if_pos (by omega), Int.toNat_natCast]
  conv => lhs; rw [hx]
  exact dblL_mk k _ _ h0 (by omega)
theorem pow2_bd {k : Nat} (h : k ≤ 29) : (1 : Int) ≤ 2 ^ k ∧ (2 : Int) ^ k ≤ 536870912 := by
  refine ⟨Int.pow_pos (by omega), ?_⟩
  have : 2 ^ k ≤ 2 ^ 29 := Nat.pow_le_pow_right (by omega) h
  have : ((2 ^ k : Nat) : Int) ≤ ((2 ^ 29 : Nat) : Int) := by omega
  simpa using this

-- twos
def twU : Nat → Int → Nat → Nat
  | 0, _, e => e
  | f + 1, n, e => if 6442450944 ≤ n / 2 ^ e then twU f n (e + 1) else e
def twD : Nat → Int → Nat → Nat
  | 0, _, d => d
  | f + 1, n, d => if n * 2 ^ d < 3221225472 then twD f n (d + 1) else d
def tw (n : Int) : Int := if 0 < twU 64 n 0 then (twU 64 n 0 : Int) else -(twD 64 n 0 : Int)
def logM (n : Int) : Iv := if 0 < tw n then ⟨n / 2 ^ (tw n).toNat, -((-n) / 2 ^ (tw n).toNat)⟩ else ⟨n * 2 ^ (-tw n).toNat, n * 2 ^ (-tw n).toNat⟩
def logL : Nat → Iv → Iv → Iv
  | 0, _, p => p
  | j + 1, q, p => logL j q (addI (quotI 1 (2 * (j : Int) + 1)) (mulI q p))
def logZ (n : Int) : Iv := divI (subI (logM n) (intI 1)) (addI (logM n) (intI 1))
def logA (n : Int) : Iv := if within n 1 1152921504606846976 then addI (lnI (tw n)) (widI (mulI (mulI (intI 2) (logZ n)) (logL 5 (sqrI (logZ n)) (quotI 1 11)))) else whole
def F_tw : FT
  | [.c (.p (.int .i64 n))], _ => some (1 ≤ n ∧ n ≤ 1152921504606846976, .v (.c (.p (.int .i64 (tw n)))), [])
  | _, _ => none
theorem F_tw_eq {n : Int} {g : List PC} : F_tw [.c (.p (.int .i64 n))] g = some (1 ≤ n ∧ n ≤ 1152921504606846976, .v (.c (.p (.int .i64 (tw n)))), []) := rfl
def F_logA : FT
  | [.c (.p (.int .i64 n))], _ => some (True, .v (.agg [.int .i64 ((logA n)).lo, .int .i64 ((logA n)).hi]), [])
  | _, _ => none
theorem F_logA_eq {n : Int} {g : List PC} : F_logA [.c (.p (.int .i64 n))] g = some (True, .v (.agg [.int .i64 ((logA n)).lo, .int .i64 ((logA n)).hi]), []) := rfl
/-- Halving stops where it stops: what the first loop has come to. -/
theorem twU_stop {n : Int} (hn : 1 ≤ n ∧ n ≤ 1152921504606846976) : ∀ (f e : Nat), 28 ≤ e + f → n / 2 ^ (twU f n e) < 6442450944
  | 0, e, h => by
    unfold twU
    have h28 : 28 ≤ e := by omega
    have hp : (2 : Int) ^ 28 ≤ 2 ^ e := by
      have : 2 ^ 28 ≤ 2 ^ e := Nat.pow_le_pow_right (by omega) h28
      have : ((2 ^ 28 : Nat) : Int) ≤ ((2 ^ e : Nat) : Int) := by omega
      simpa using this
    have hP : (0 : Int) < 2 ^ e := Int.pow_pos (by omega)
    refine Int.ediv_lt_of_lt_mul hP ?_
    have := Int.mul_le_mul_of_nonneg_left hp (show (0 : Int) ≤ 6442450944 by omega)
    omega
  | f + 1, e, h => by
    unfold twU
    split
    · exact twU_stop hn f (e + 1) (by omega)
    · omega
theorem twU_ge : ∀ (f : Nat) (n : Int) (e : Nat), e ≤ twU f n e ∧ twU f n e ≤ e + f
  | 0, n, e => by unfold twU; omega
  | f + 1, n, e => by
    unfold twU
    have := twU_ge f n (e + 1)
    split <;> omega
theorem twU_lo : ∀ (f : Nat) (n : Int) (e : Nat), e < twU f n e → 6442450944 ≤ n / 2 ^ (twU f n e - 1)
  | 0, n, e, h => by unfold twU at h; omega
  | f + 1, n, e, h => by
    unfold twU at h ⊢
    split at h
    · rename_i hc
      rw [if_pos hc]
      have hg := twU_ge f n (e + 1)
      by_cases h2 : e + 1 < twU f n (e + 1)
      · exact twU_lo f n (e + 1) h2
      · have : twU f n (e + 1) = e + 1 := by omega
        rw [this]; exact hc
    · omega
theorem twD_ge : ∀ (f : Nat) (n : Int) (d : Nat), d ≤ twD f n d ∧ twD f n d ≤ d + f
  | 0, n, e => by unfold twD; omega
  | f + 1, n, e => by
    unfold twD
    have := twD_ge f n (e + 1)
    split <;> omega
theorem twD_stop {n : Int} (hn : 1 ≤ n) : ∀ (f d : Nat), 32 ≤ d + f → 3221225472 ≤ n * 2 ^ (twD f n d)
  | 0, e, h => by
    unfold twD
    have hp : (2 : Int) ^ 32 ≤ 2 ^ e := by
      have : 2 ^ 32 ≤ 2 ^ e := Nat.pow_le_pow_right (by omega) (by omega)
      have : ((2 ^ 32 : Nat) : Int) ≤ ((2 ^ e : Nat) : Int) := by omega
      simpa using this
    have h2 := Int.mul_le_mul hn hp (by omega) (by omega)
    omega
  | f + 1, e, h => by
    unfold twD
    split
    · exact twD_stop hn f (e + 1) (by omega)
    · omega

-- widen
theorem mkI_no {a b : Int} (h : okI (mkI a b) = false) : mkI a b = whole := by
  unfold mkI at *
  split at h
  · rename_i h1; rw [h1] at h; cases h
  · rename_i h1; rw [if_neg h1]
theorem widI_in {x1 x2 : Int} (h : okI ⟨x1, x2⟩ = true) : IntKind.i64.wrap (x1 - 1) = x1 - 1 ∧ IntKind.i64.wrap (x2 + 1) = x2 + 1 ∧ widI ⟨x1, x2⟩ = mkI (x1 - 1) (x2 + 1) := by
  have hb := okI_mk.1 h
  refine ⟨wrap_om (by omega) (by omega), wrap_om (by omega) (by omega), ?_⟩
  unfold widI
  rw [if_pos h]
theorem widI_no {x : Iv} (h : okI x = false) : widI x = whole := by
  unfold widI
  rw [h]; rfl

-- shifts
theorem bin_shr_si {T : Tab} {t : Nat} {k' : IntKind} {a : Int} {s : Nat} (hs : s ≤ 64) : binO T .shr t (some (.c (.p (.int .i64 a)))) (some (.c (.p (.int k' (s : Int))))) = some (sp (.int .i64 (a / 2 ^ s))) := by
  have hb : IntKind.i64.bits = 64 := rfl
  rw [bin_shr (by omega), hb, Int.toNat_natCast, Nat.min_eq_left hs, Int.fdiv_eq_ediv_of_nonneg]
  exact Int.le_of_lt (Int.pow_pos (by omega))
theorem bin_shl_si {T : Tab} {t : Nat} {k' : IntKind} {a : Int} {s : Nat} (hs : s ≤ 64) : binO T .shl t (some (.c (.p (.int .i64 a)))) (some (.c (.p (.int k' (s : Int))))) = some (sp (.int .i64 (IntKind.i64.wrap (a * 2 ^ s)))) := by
  have hb : IntKind.i64.bits = 64 := rfl
  rw [bin_shl (by omega), hb, Int.toNat_natCast, Nat.min_eq_left hs]
theorem down_up {a b P : Int} (hP : 1 ≤ P) (h0 : 0 ≤ a) (h : a ≤ b) (hb : b < 1152921504606846976) : 0 ≤ a / P ∧ a / P ≤ -(-b / P) ∧ -(-b / P) ≤ b := by
  have q1 := (@quo_bd2 a P (by omega)).1 h0
  have q2 : -b ≤ -b / P := by
    by_cases hb0 : b = 0
    · rw [hb0]; simp
    · exact ((@quo_bd2 (-b) P (by omega)).2 (by omega)).1
  refine ⟨q1.1, ?_, by omega⟩
  have e1 := Int.ediv_mul_add_emod a P
  have e2 := Int.ediv_mul_add_emod (-b) P
  have r1 := Int.emod_nonneg a (show P ≠ 0 by omega)
  have r2 := Int.emod_nonneg (-b) (show P ≠ 0 by omega)
  have : (a / P + -b / P) * P ≤ 0 := by rw [Int.add_mul]; omega
  have : a / P + -b / P ≤ 0 := by
    apply Int.le_of_not_gt
    intro hg
    have := Int.mul_pos hg (show 0 < P by omega)
    omega
  omega
theorem scale_0 {x1 x2 : Int} (h : okI ⟨x1, x2⟩ = true) : scaleI ⟨x1, x2⟩ 0 = ⟨x1, x2⟩ := by
  unfold scaleI
  rw [if_pos (by omega)]
  simp only [Int.toNat_zero, Int.pow_zero, Int.mul_one]
  exact mkI_ok h
theorem scale_neg {x1 x2 k : Int} {s : Nat} (hk : k < 0) (hs : -k = s) : scaleI ⟨x1, x2⟩ k = ⟨x1 / 2 ^ s, -(-x2 / 2 ^ s)⟩ := by
  unfold scaleI
  have : (-k).toNat = s := by omega
  rw [if_neg (by omega), this]

-- expat
theorem expA_w1 {n : Int} (h : ¬ (fixOk n = true ∧ n ≤ 85899345920)) : expA n = whole := by
  unfold expA
  rw [if_neg]
  simp only [Bool.and_eq_true, decide_eq_true_eq]
  exact h
theorem expA_lo {n : Int} (h : fixOk n = true) (h2 : n < -98784247808) : expA n = ⟨0, 1⟩ := by
  unfold expA
  rw [if_pos, if_pos h2]
  simp only [Bool.and_eq_true, decide_eq_true_eq]
  exact ⟨h, by omega⟩
theorem expA_in {n : Int} (h : fixOk n = true) (h1 : n ≤ 85899345920) (h2 : ¬ n < -98784247808) : expA n = scaleI (widI (expP n)) (expK n) := by
  unfold expA
  rw [if_pos, if_neg h2]
  simp only [Bool.and_eq_true, decide_eq_true_eq]
  exact ⟨h, h1⟩
theorem widP {n : Int} (h1 : -98784247808 ≤ n) (h2 : n ≤ 85899345920) : (-9223372036854775808 < (widI (expP n)).lo ∧ 0 ≤ (widI (expP n)).lo ∧ (widI (expP n)).lo ≤ (widI (expP n)).hi ∧ (widI (expP n)).hi ≤ 8589934593) ∧ -40 ≤ expK n ∧ expK n ≤ 29 := by
  have hk := expK_bd h1 h2
  have hp := expP_bd h1 h2
  have hb := okI_iff.1 hp.1
  unfold widI
  rw [if_pos hp.1, mkI_lin (by omega) (by omega) (by omega)]
  simp only
  omega
theorem expQ {n : Int} (h1 : -98784247808 ≤ n) (h2 : n ≤ 85899345920) : -98784247808 * 2 + 2977044472 ≤ 2 * n + 2977044472 ∧ (2 * n + 2977044472).tdiv 5954088944 * 5954088944 - 5954088944 < 2 * n + 2977044472 ∧ 2 * n + 2977044472 < (2 * n + 2977044472).tdiv 5954088944 * 5954088944 + 5954088944 ∧ -40 ≤ (2 * n + 2977044472).tdiv 5954088944 ∧ (2 * n + 2977044472).tdiv 5954088944 ≤ 40 ∧ ((2 * n + 2977044472).tmod 5954088944 < 0 ↔ 2 * n + 2977044472 < (2 * n + 2977044472).tdiv 5954088944 * 5954088944) := by
  by_cases h0 : 0 ≤ 2 * n + 2977044472
  · rw [tdiv_p h0, tmod_p h0]; omega
  · rw [tdiv_n (by omega), tmod_n (by omega)]; omega

-- logat
theorem logA_w {n : Int} (h : within n 1 1152921504606846976 = false) : logA n = whole := by
  unfold logA
  rw [h]; rfl
theorem logA_in {n : Int} (h : within n 1 1152921504606846976 = true) : logA n = addI (lnI (tw n)) (widI (mulI (mulI (intI 2) (logZ n)) (logL 5 (sqrI (logZ n)) (quotI 1 11)))) := by
  unfold logA
  rw [if_pos h]

theorem up_in {n P : Int} (hn : 1 ≤ n ∧ n ≤ 1152921504606846976) (hP : 1 ≤ P := by exact Int.pow_pos (by omega)) : IntKind.i64.wrap (-(-n / P)) = -(-n / P) := by
  have h := (@quo_bd2 (-n) P (by omega)).2 (by omega)
  exact wrap_om (by omega) (by omega)
theorem twD_hi : ∀ (f : Nat) (n : Int) (d : Nat), d < twD f n d → n * 2 ^ (twD f n d - 1) < 3221225472
  | 0, n, d, h => by unfold twD at h; omega
  | f + 1, n, d, h => by
    unfold twD at h ⊢
    split at h
    · rename_i hc
      rw [if_pos hc]
      have hg := twD_ge f n (d + 1)
      by_cases h2 : d + 1 < twD f n (d + 1)
      · exact twD_hi f n (d + 1) h2
      · have : twD f n (d + 1) = d + 1 := by omega
        rw [this]; exact hc
    · omega

end Go.Proofs.Ytfgdkljlfafflaa.Eng
