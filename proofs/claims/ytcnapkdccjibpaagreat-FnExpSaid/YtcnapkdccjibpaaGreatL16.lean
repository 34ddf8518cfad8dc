/- What functions of the program compute, and that the program computes it: part 16. -/
import Derived.Test.YtcnapkdccjibpaaGreatTab
import Derived.Test.YtcnapkdccjibpaaGreatEng16
import Derived.Laws.BitsLemmas
import Derived.Laws.Bits64
import Derived.Laws.Bits64b
import Derived.Lib.Mul64
import Derived.Lib.BitFns
import Derived.Laws.Externs
import Derived.Test.YtcnapkdccjibpaaGreatL1
import Derived.Test.YtcnapkdccjibpaaGreatL2
import Derived.Test.YtcnapkdccjibpaaGreatL3
import Derived.Test.YtcnapkdccjibpaaGreatL6
import Derived.Test.YtcnapkdccjibpaaGreatL8
import Derived.Test.YtcnapkdccjibpaaGreatL10
import Derived.Test.YtcnapkdccjibpaaGreatL12
import Derived.Test.YtcnapkdccjibpaaGreatL14
namespace Go.Proofs.YtcnapkdccjibpaaGreat.Eng
open Go Go.RowKit
set_option linter.unusedVariables false
set_option linter.unusedSimpArgs false
set_option maxRecDepth 100000
set_option maxHeartbeats 1000000
-- exp
def expK (n : Int) : Int := (2 * n + 2977044472) / 5954088944
def expL : Nat → Iv → Iv → Iv
  | 0, _, p => p
  | i + 1, r, p => expL i r (addI (intI 1) (divI (mulI r p) (intI ((i + 1 : Nat) : Int))))
def widI (x : Iv) : Iv := if okI x then mkI (x.lo - 1) (x.hi + 1) else whole
def scaleI (x : Iv) (k : Int) : Iv := if 0 ≤ k then mkI (x.lo * 2 ^ k.toNat) (x.hi * 2 ^ k.toNat) else ⟨x.lo / 2 ^ (-k).toNat, -((-x.hi) / 2 ^ (-k).toNat)⟩
def expR (n : Int) : Iv := subI ⟨n, n⟩ (lnI (expK n))
def expP (n : Int) : Iv := expL 9 (expR n) (intI 1)
def expA (n : Int) : Iv := if fixOk n && decide (n ≤ 85899345920) then (if n < -98784247808 then ⟨0, 1⟩ else scaleI (widI (expP n)) (expK n)) else whole
def F_expA : FT
  | [.c (.p (.int .i64 n))], _ => some (True, .v (.agg [.int .i64 ((expA n)).lo, .int .i64 ((expA n)).hi]), [])
  | _, _ => none
theorem F_expA_eq {n : Int} {g : List PC} : F_expA [.c (.p (.int .i64 n))] g = some (True, .v (.agg [.int .i64 ((expA n)).lo, .int .i64 ((expA n)).hi]), []) := rfl
def F_widI : FT
  | [.agg [.int .i64 x1, .int .i64 x2], .c (.p (.int .i64 w))], _ => some (w = 1, .v (.agg [.int .i64 ((widI (Iv.mk x1 x2))).lo, .int .i64 ((widI (Iv.mk x1 x2))).hi]), [])
  | _, _ => none
theorem F_widI_eq {x1 : Int} {x2 : Int} {w : Int} {g : List PC} : F_widI [.agg [.int .i64 x1, .int .i64 x2], .c (.p (.int .i64 w))] g = some (w = 1, .v (.agg [.int .i64 ((widI (Iv.mk x1 x2))).lo, .int .i64 ((widI (Iv.mk x1 x2))).hi]), []) := rfl
def F_scaleI : FT
  | [.agg [.int .i64 x1, .int .i64 x2], .c (.p (.int .i64 k))], _ => some ((-9223372036854775808 < x1 ∧ 0 ≤ x1 ∧ x1 ≤ x2 ∧ x2 ≤ 8589934593) ∧ -40 ≤ k ∧ k ≤ 29, .v (.agg [.int .i64 ((scaleI (Iv.mk x1 x2) k)).lo, .int .i64 ((scaleI (Iv.mk x1 x2) k)).hi]), [])
  | _, _ => none
theorem F_scaleI_eq {x1 : Int} {x2 : Int} {k : Int} {g : List PC} : F_scaleI [.agg [.int .i64 x1, .int .i64 x2], .c (.p (.int .i64 k))] g = some ((-9223372036854775808 < x1 ∧ 0 ≤ x1 ∧ x1 ≤ x2 ∧ x2 ≤ 8589934593) ∧ -40 ≤ k ∧ k ≤ 29, .v (.agg [.int .i64 ((scaleI (Iv.mk x1 x2) k)).lo, .int .i64 ((scaleI (Iv.mk x1 x2) k)).hi]), []) := rfl
theorem expK_bd {n : Int} (h1 : -98784247808 ≤ n) (h2 : n ≤ 85899345920) : -33 ≤ expK n ∧ expK n ≤ 29 ∧ expK n * 5954088944 ≤ 2 * n + 2977044472 ∧ 2 * n + 2977044472 < expK n * 5954088944 + 5954088944 := by
  unfold expK; omega
theorem ln_bd {k : Int} (h : -33 ≤ k ∧ k ≤ 29) : okI (lnI k) = true ∧ k * 2977044472 - 64 ≤ (lnI k).lo ∧ (lnI k).hi ≤ k * 2977044472 + 64 := by
  unfold lnI
  rw [if_pos (by rw [within_iff]; omega)]
  by_cases h0 : k < 0
  · rw [if_pos h0]
    have h1 := @ln_in (-k) (by omega)
    unfold lnP at *
    simp only at *
    rw [okI_mk]; omega
  · rw [if_neg h0]
    have h1 := @ln_in k (by omega)
    unfold lnP at *
    simp only at *
    rw [okI_mk]; omega
theorem expR_bd {n : Int} (h1 : -98784247808 ≤ n) (h2 : n ≤ 85899345920) : okI (expR n) = true ∧ -1488700000 ≤ (expR n).lo ∧ (expR n).hi ≤ 1488700000 := by
  have hk := expK_bd h1 h2
  have hl := @ln_bd (expK n) (by omega)
  unfold expR
  generalize expK n = k at *
  have hb := okI_iff.1 hl.1
  have hs := @subI_bd ⟨n, n⟩ (lnI k) (by rw [okI_mk]; omega) hl.1 (by simp only; omega) (by simp only; omega)
  refine ⟨hs.2, ?_⟩
  rw [hs.1]
  simp only
  omega
theorem expL_bd : ∀ (i : Nat) (r p : Iv), i ≤ 9 → okI r = true → -1488700000 ≤ r.lo → r.hi ≤ 1488700000 → okI p = true → 1 ≤ p.lo → p.hi ≤ 8589934592 →
    okI (expL i r p) = true ∧ 1 ≤ (expL i r p).lo ∧ (expL i r p).hi ≤ 8589934592
  | 0, r, p, _, _, _, _, h1, h2, h3 => ⟨h1, h2, h3⟩
  | i + 1, r, p, hi, hr, r1, r2, h1, h2, h3 => by
    have hle := (okI_iff.1 h1).2.1
    have hrl := (okI_iff.1 hr).2.1
    have hm := @mulI_bd r p (-2977400000) 2977400000 hr h1 (fun x hx y hy => by
      have := @mul_abs x y 1488700000 8589934592 (by rcases hx with rfl | rfl <;> omega) (by rcases hx with rfl | rfl <;> omega) (by rcases hy with rfl | rfl <;> omega) (by rcases hy with rfl | rfl <;> omega)
      omega) (by omega) (by omega)
    have hd := @divI_bd (mulI r p) ((i + 1 : Nat) : Int) (-2977400000) 2977400000 hm.1 (by omega) (by omega) (by omega) (by omega) (by omega)
    have e1 : intI 1 = ⟨4294967296, 4294967296⟩ := rfl
    have hdl := (okI_iff.1 hd.1).2.1
    have ha := @addI_bd (intI 1) (divI (mulI r p) (intI ((i + 1 : Nat) : Int))) (by rw [e1]; rfl) hd.1 (by rw [e1]; simp only; omega) (by rw [e1]; simp only; omega)
    refine expL_bd i r _ (by omega) hr r1 r2 ha.2 ?_ ?_
    · rw [ha.1, e1]; simp only; omega
    · rw [ha.1, e1]; simp only; omega
theorem expP_bd {n : Int} (h1 : -98784247808 ≤ n) (h2 : n ≤ 85899345920) : okI (expP n) = true ∧ 1 ≤ (expP n).lo ∧ (expP n).hi ≤ 8589934592 := by
  have hr := expR_bd h1 h2
  exact expL_bd 9 _ _ (by omega) hr.1 hr.2.1 hr.2.2 rfl (by decide) (by decide)

-- scaleL
def dblL : Nat → Iv → Iv
  | 0, x => x
  | k + 1, x => dblL k (dblI x)
theorem dbl_mk {a b : Int} (h0 : 0 ≤ a) (h1 : a ≤ b) : dblI (mkI a b) = mkI (2 * a) (2 * b) := by
  rw [dbl_eq]
  unfold mkI
  by_cases h : okI ⟨a, b⟩ = true
  · rw [if_pos h, if_pos h]
  · rw [if_neg h, if_neg (by decide), if_neg]
    intro h2
    rw [okI_mk] at h2
    exact h (okI_mk.2 (by omega))
theorem dblL_mk : ∀ (k : Nat) (a b : Int), 0 ≤ a → a ≤ b → dblL k (mkI a b) = mkI (a * 2 ^ k) (b * 2 ^ k)
  | 0, a, b, _, _ => by simp [dblL]
  | k + 1, a, b, h0, h1 => by
    rw [dblL, dbl_mk h0 h1, dblL_mk k _ _ (by omega) (by omega), Int.pow_succ', ← Int.mul_assoc, ← Int.mul_assoc, Int.mul_comm 2 a, Int.mul_comm 2 b]
theorem scale_up {x : Iv} {k : Nat} (h : okI x = true) (h0 : 0 ≤ x.lo) : dblL k x = scaleI x (k : Int) := by
  have hx : x = mkI x.lo x.hi := (mkI_ok h).symm
  have hb := okI_iff.1 h
  unfold scaleI
  rw [if_pos (by omega), Int.toNat_natCast]
  conv => lhs; rw [hx]
  exact dblL_mk k _ _ h0 (by omega)
theorem pow2_bd {k : Nat} (h : k ≤ 29) : (1 : Int) ≤ 2 ^ k ∧ (2 : Int) ^ k ≤ 536870912 := by
  refine ⟨Int.pow_pos (by omega), ?_⟩
  have : 2 ^ k ≤ 2 ^ 29 := Nat.pow_le_pow_right (by omega) h
  have : ((2 ^ k : Nat) : Int) ≤ ((2 ^ 29 : Nat) : Int) := by omega
  simpa using this

-- twos
def twU : Nat → Int → Nat → Nat
  | 0, _, e => e
  | f + 1, n, e => if 6442450944 ≤ n / 2 ^ e then twU f n (e + 1) else e
def twD : Nat → Int → Nat → Nat
  | 0, _, d => d
  | f + 1, n, d => if n * 2 ^ d < 3221225472 then twD f n (d + 1) else d
def tw (n : Int) : Int := if 0 < twU 64 n 0 then (twU 64 n 0 : Int) else -(twD 64 n 0 : Int)
def logM (n : Int) : Iv := if 0 < tw n then ⟨n / 2 ^ (tw n).toNat, -((-n) / 2 ^ (tw n).toNat)⟩ else ⟨n * 2 ^ (-tw n).toNat, n * 2 ^ (-tw n).toNat⟩
def logL : Nat → Iv → Iv → Iv
  | 0, _, p => p
  | j + 1, q, p => logL j q (addI (quotI 1 (2 * (j : Int) + 1)) (mulI q p))
def logZ (n : Int) : Iv := divI (subI (logM n) (intI 1)) (addI (logM n) (intI 1))
def logA (n : Int) : Iv := if within n 1 1152921504606846976 then addI (lnI (tw n)) (widI (mulI (mulI (intI 2) (logZ n)) (logL 5 (sqrI (logZ n)) (quotI 1 11)))) else whole
def F_tw : FT
  | [.c (.p (.int .i64 n))], _ => some (1 ≤ n ∧ n ≤ 1152921504606846976, .v (.c (.p (.int .i64 (tw n)))), [])
  | _, _ => none
theorem F_tw_eq {n : Int} {g : List PC} : F_tw [.c (.p (.int .i64 n))] g = some (1 ≤ n ∧ n ≤ 1152921504606846976, .v (.c (.p (.int .i64 (tw n)))), []) := rfl
def F_logA : FT
  | [.c (.p (.int .i64 n))], _ => some (True, .v (.agg [.int .i64 ((logA n)).lo, .int .i64 ((logA n)).hi]), [])
  | _, _ => none
theorem F_logA_eq {n : Int} {g : List PC} : F_logA [.c (.p (.int .i64 n))] g = some (True, .v (.agg [.int .i64 ((logA n)).lo, .int .i64 ((logA n)).hi]), []) := rfl
/-- Halving stops where it stops: what the first loop has come to. -/
theorem twU_stop {n : Int} (hn : 1 ≤ n ∧ n ≤ 1152921504606846976) : ∀ (f e : Nat), 28 ≤ e + f → n / 2 ^ (twU f n e) < 6442450944
  | 0, e, h => by
    unfold twU
    have h28 : 28 ≤ e := by omega
    have hp : (2 : Int) ^ 28 ≤ 2 ^ e := by
      have : 2 ^ 28 ≤ 2 ^ e := Nat.pow_le_pow_right (by omega) h28
      have : ((2 ^ 28 : Nat) : Int) ≤ ((2 ^ e : Nat) : Int) := by omega
      simpa using this
    have hP : (0 : Int) < 2 ^ e := Int.pow_pos (by omega)
    refine Int.ediv_lt_of_lt_mul hP ?_
    have := Int.mul_le_mul_of_nonneg_left hp (show (0 : Int) ≤ 6442450944 by omega)
    omega
  | f + 1, e, h => by
    unfold twU
    split
    · exact twU_stop hn f (e + 1) (by omega)
    · omega
theorem twU_ge : ∀ (f : Nat) (n : Int) (e : Nat), e ≤ twU f n e ∧ twU f n e ≤ e + f
  | 0, n, e => by unfold twU; omega
  | f + 1, n, e => by
    unfold twU
    have := twU_ge f n (e + 1)
    split <;> omega
theorem twU_lo : ∀ (f : Nat) (n : Int) (e : Nat), e < twU f n e → 6442450944 ≤ n / 2 ^ (twU f n e - 1)
  | 0, n, e, h => by unfold twU at h; omega
  | f + 1, n, e, h => by
    unfold twU at h ⊢
    split at h
    · rename_i hc
      rw [if_pos hc]
      have hg := twU_ge f n (e + 1)
      by_cases h2 : e + 1 < twU f n (e + 1)
      · exact twU_lo f n (e + 1) h2
      · have : twU f n (e + 1) = e + 1 := by omega
        rw [this]; exact hc
    · omega
theorem twD_ge : ∀ (f : Nat) (n : Int) (d : Nat), d ≤ twD f n d ∧ twD f n d ≤ d + f
  | 0, n, e => by unfold twD; omega
  | f + 1, n, e => by
    unfold twD
    have := twD_ge f n (e + 1)
    split <;> omega
theorem twD_stop {n : Int} (hn : 1 ≤ n) : ∀ (f d : Nat), 32 ≤ d + f → 3221225472 ≤ n * 2 ^ (twD f n d)
  | 0, e, h => by
    unfold twD
    have hp : (2 : Int) ^ 32 ≤ 2 ^ e := by
      have : 2 ^ 32 ≤ 2 ^ e := Nat.pow_le_pow_right (by omega) (by omega)
      have : ((2 ^ 32 : Nat) : Int) ≤ ((2 ^ e : Nat) : Int) := by omega
      simpa using this
    have h2 := Int.mul_le_mul hn hp (by omega) (by omega)
    omega
  | f + 1, e, h => by
    unfold twD
    split
    · exact twD_stop hn f (e + 1) (by omega)
    · omega

-- widen
theorem mkI_no {a b : Int} (h : okI (mkI a b) = false) : mkI a b = whole := by
  unfold mkI at *
  split at h
  · rename_i h1; rw [h1] at h; cases h
  · rename_i h1; rw [if_neg h1]
theorem widI_in {x1 x2 : Int} (h : okI ⟨x1, x2⟩ = true) : IntKind.i64.wrap (x1 - 1) = x1 - 1 ∧ IntKind.i64.wrap (x2 + 1) = x2 + 1 ∧ widI ⟨x1, x2⟩ = mkI (x1 - 1) (x2 + 1) := by
  have hb := okI_mk.1 h
  refine ⟨wrap_om (by omega) (by omega), wrap_om (by omega) (by omega), ?_⟩
  unfold widI
  rw [if_pos h]
theorem widI_no {x : Iv} (h : okI x = false) : widI x = whole := by
  unfold widI
  rw [h]; rfl

-- impl.widened
theorem impl_widened_widI_ok : Fn Tryz.prog 102 F_widI := by
  refine fn_of_go (O := orc [⟨135, F_okI, .inl impl_ValidInterval_okI_ok⟩, ⟨141, F_bounded, .inl impl_bounded_bounded_ok⟩]) mixed T_ok (orc_sound _) Tryz.func102 (by kernel_rfl) rfl Tryz.ntmps102 (by kernel_rfl) Tryz.results102 ?_
  intro args g pre r new hF hpre
  unfold F_widI at hF
  split at hF
  · rename_i x1 x2 w
    simp only [Option.some.injEq, Prod.mk.injEq] at hF
    obtain ⟨rfl, hr, rfl⟩ := hF
    refine ⟨by simp, ?_⟩
    subst hpre
    try simp (config := { maxSteps := 4000000, implicitDefEqProofs := false }) only [F_bounded_eq, F_okI_eq, WK0, WK1, WK2, WK3, WK4, WK5, WK6, WK7, WK8, WK9, WK10, WK11, WK12, WK13, WK14, WK15, WK16, WK17, WK18, WK19, WK20, WK21, WK22, WK23, WK24, WK25, WK26, WK27, WK28, look_hit, look_miss, List.map_cons, List.map_nil, Nat.add_zero, max_v, min_v, ↓cnd_t, ↓cnd_f, ↓grd_b, ↓grd_u, startEnv, Option.map_some, List.length_nil, List.length_cons, List.nil_append, List.cons_append, List.getElem?_cons_zero, List.getElem?_cons_succ, List.set_cons_zero, List.set_cons_succ, Bool.not_true, Bool.not_false, reduceIte, Nat.reduceEqDiff, Nat.reduceAdd, Nat.reduceLT, blt_lit, beq_lit, Bool.or_true, Bool.true_or, Bool.or_false, Bool.false_or, Bool.and_true, Bool.true_and, Bool.and_self, cond_true, cond_false, List.append_nil, Iv.eta, Option.map_none, idxO_l0, idxO_l1, decide_true, decide_false, reqs_true, Int.zero_sub, wrap_lit, wrapu_lit, Int.reduceLE, Int.reduceLT, Int.reduceAdd, Int.reduceSub, Int.reduceMul, Int.reduceNeg, Int.reduceEq, Option.bind_some, bin_shr_u64, bin_shl_u64, bin_shr_i64, bin_shl_i64, and_m32', Int.reduceToNat, Int.reducePow, Int.reduceMod, Int.reduceDiv, wrap_u64s, true_or, or_true, true_and, and_true, Option.isSome_none, Option.isSome_some, Nat.reduceLeDiff, Nat.reduceMul, Int.toNat_natCast, Int.cast_ofNat_Int, Int.natCast_zero, Int.natCast_one, List.isEmpty_nil, List.isEmpty_cons, List.replicate_zero, List.replicate_succ, T1, T2, T3, T4, T5, T6, T9, T10, T11, T12, T21, T22, T23, T24, T26, T27, T28, T29, T30, T31, T32, T33, T34, T35, T37, T38, T39, T40, T42, T43, T44, T45, T46, T47, T48, T50, T52, T54, T55, T56, T57, T58, T59, T60, T61, T62, T63, T64, T65, T66, T67, T68, T69, T70, T71, T72, T73, T75, T77, T78, T79, T80, T82, T83, T84, T85, T87, T89, T90, T91, T92, T95, T97, T103, T104, T105, T106, T107, T109, T110]
    repeat' (first | with_reducible refine cnd_split (fun hc => ?_) (fun hc => ?_) | with_reducible refine Reqs.mk ?_ ?_)
    all_goals first
      | trivial
      | (refine endS_v (t := (widI (Iv.mk x1 x2))) hr ?_
         cases h : okI ⟨x1, x2⟩ with
         | true =>
           have hw := widI_in h
           rw [hw.1, hw.2.1, hw.2.2, if_pos rfl]
         | false => rw [widI_no h, if_neg (by simp)])
  · cases hF

-- shifts
theorem bin_shr_si {T : Tab} {t : Nat} {k' : IntKind} {a : Int} {s : Nat} (hs : s ≤ 64) : binO T .shr t (some (.c (.p (.int .i64 a)))) (some (.c (.p (.int k' (s : Int))))) = some (sp (.int .i64 (a / 2 ^ s))) := by
  have hb : IntKind.i64.bits = 64 := rfl
  rw [bin_shr (by omega), hb, Int.toNat_natCast, Nat.min_eq_left hs, Int.fdiv_eq_ediv_of_nonneg]
  exact Int.le_of_lt (Int.pow_pos (by omega))
theorem bin_shl_si {T : Tab} {t : Nat} {k' : IntKind} {a : Int} {s : Nat} (hs : s ≤ 64) : binO T .shl t (some (.c (.p (.int .i64 a)))) (some (.c (.p (.int k' (s : Int))))) = some (sp (.int .i64 (IntKind.i64.wrap (a * 2 ^ s)))) := by
  have hb : IntKind.i64.bits = 64 := rfl
  rw [bin_shl (by omega), hb, Int.toNat_natCast, Nat.min_eq_left hs]
theorem down_up {a b P : Int} (hP : 1 ≤ P) (h0 : 0 ≤ a) (h : a ≤ b) (hb : b < 1152921504606846976) : 0 ≤ a / P ∧ a / P ≤ -(-b / P) ∧ -(-b / P) ≤ b := by
  have q1 := (@quo_bd2 a P (by omega)).1 h0
  have q2 : -b ≤ -b / P := by
    by_cases hb0 : b = 0
    · rw [hb0]; simp
    · exact ((@quo_bd2 (-b) P (by omega)).2 (by omega)).1
  refine ⟨q1.1, ?_, by omega⟩
  have e1 := Int.ediv_mul_add_emod a P
  have e2 := Int.ediv_mul_add_emod (-b) P
  have r1 := Int.emod_nonneg a (show P ≠ 0 by omega)
  have r2 := Int.emod_nonneg (-b) (show P ≠ 0 by omega)
  have : (a / P + -b / P) * P ≤ 0 := by rw [Int.add_mul]; omega
  have : a / P + -b / P ≤ 0 := by
    apply Int.le_of_not_gt
    intro hg
    have := Int.mul_pos hg (show 0 < P by omega)
    omega
  omega
theorem scale_0 {x1 x2 : Int} (h : okI ⟨x1, x2⟩ = true) : scaleI ⟨x1, x2⟩ 0 = ⟨x1, x2⟩ := by
  unfold scaleI
  rw [if_pos (by omega)]
  simp only [Int.toNat_zero, Int.pow_zero, Int.mul_one]
  exact mkI_ok h
theorem scale_neg {x1 x2 k : Int} {s : Nat} (hk : k < 0) (hs : -k = s) : scaleI ⟨x1, x2⟩ k = ⟨x1 / 2 ^ s, -(-x2 / 2 ^ s)⟩ := by
  unfold scaleI
  have : (-k).toNat = s := by omega
  rw [if_neg (by omega), this]

-- impl.scaled
theorem impl_scaled_scaleI_ok : Fn Tryz.prog 101 F_scaleI := by
  refine fn_of_go (O := orc [⟨71, F_whole, .inl impl_Whole_whole_ok⟩, ⟨98, F_notOk, .inl impl_IsWhole_notOk_ok⟩, ⟨111, F_dblI, .inl impl_DoubleI_dblI_ok⟩]) mixed T_ok (orc_sound _) Tryz.func101 (by kernel_rfl) rfl Tryz.ntmps101 (by kernel_rfl) Tryz.results101 ?_
  intro args g pre r new hF hpre
  unfold F_scaleI at hF
  split at hF
  · rename_i x1 x2 k
    simp only [Option.some.injEq, Prod.mk.injEq] at hF
    obtain ⟨rfl, hr, rfl⟩ := hF
    refine ⟨by simp, ?_⟩
    simp (config := { maxSteps := 4000000, implicitDefEqProofs := false }) only [F_dblI_eq, F_notOk_eq, F_whole_eq, WK0, WK1, WK2, WK3, WK4, WK5, WK6, WK7, WK8, WK9, WK10, WK11, WK12, WK13, WK14, WK15, WK16, WK17, WK18, WK19, WK20, WK21, WK22, WK23, WK24, WK25, WK26, WK27, WK28, look_hit, look_miss, List.map_cons, List.map_nil, Nat.add_zero, max_v, min_v, ↓cnd_t, ↓cnd_f, ↓grd_b, ↓grd_u, startEnv, Option.map_some, List.length_nil, List.length_cons, List.nil_append, List.cons_append, List.getElem?_cons_zero, List.getElem?_cons_succ, List.set_cons_zero, List.set_cons_succ, Bool.not_true, Bool.not_false, reduceIte, Nat.reduceEqDiff, Nat.reduceAdd, Nat.reduceLT, blt_lit, beq_lit, Bool.or_true, Bool.true_or, Bool.or_false, Bool.false_or, Bool.and_true, Bool.true_and, Bool.and_self, cond_true, cond_false, List.append_nil, Iv.eta, Option.map_none, idxO_l0, idxO_l1, decide_true, decide_false, reqs_true, Int.zero_sub, wrap_lit, wrapu_lit, Int.reduceLE, Int.reduceLT, Int.reduceAdd, Int.reduceSub, Int.reduceMul, Int.reduceNeg, Int.reduceEq, Option.bind_some, bin_shr_u64, bin_shl_u64, bin_shr_i64, bin_shl_i64, and_m32', Int.reduceToNat, Int.reducePow, Int.reduceMod, Int.reduceDiv, wrap_u64s, true_or, or_true, true_and, and_true, Option.isSome_none, Option.isSome_some, Nat.reduceLeDiff, Nat.reduceMul, Int.toNat_natCast, Int.cast_ofNat_Int, Int.natCast_zero, Int.natCast_one, List.isEmpty_nil, List.isEmpty_cons, List.replicate_zero, List.replicate_succ, T1, T2, T3, T4, T5, T6, T9, T10, T11, T12, T21, T22, T23, T24, T26, T27, T28, T29, T30, T31, T32, T33, T34, T35, T37, T38, T39, T40, T42, T43, T44, T45, T46, T47, T48, T50, T52, T54, T55, T56, T57, T58, T59, T60, T61, T62, T63, T64, T65, T66, T67, T68, T69, T70, T71, T72, T73, T75, T77, T78, T79, T80, T82, T83, T84, T85, T87, T89, T90, T91, T92, T95, T97, T103, T104, T105, T106, T107, T109, T110]
    obtain ⟨⟨p1, p2, p3, p4⟩, k1, k2⟩ := hpre
    have hok : okI ⟨x1, x2⟩ = true := by rw [okI_mk]; omega
    repeat' (first | with_reducible refine cnd_split (fun hc => ?_) (fun hc => ?_) | with_reducible refine Reqs.mk ?_ ?_)
    by_cases hk : 0 < k
    · refine go_loop (α := Nat × Iv) (fun a => a.1) (fun a e h => h = [[.int .i64 a.2.lo, .int .i64 a.2.hi], [.int .i64 0, .int .i64 0]] ∧ look e 1 = some (.v (.c (.p (.int .i64 (a.1 : Int))))) ∧ look e 2 = some (.v (.c (.ptr (.own 0 0)))) ∧ look e 4 = some (.v (.c (.ptr (.own 1 0)))) ∧ a.1 ≤ 29 ∧ dblL a.1 a.2 = dblL k.toNat ⟨x1, x2⟩) (k.toNat, ⟨x1, x2⟩) ⟨rfl, ?_, rfl, rfl, by simp only; omega, rfl⟩ ?_
      · show some (SV.v (.c (.p (.int .i64 k)))) = _
        congr 5; simp only; omega
      · rintro X ⟨j, x⟩ e h ⟨rfl, l1, l2, l4, hj, hs⟩ hX
        simp only at l1 hj hs hX
        cases j with
        | zero =>
          obtain ⟨C, eC⟩ : ∃ C : Int, ((0 : Nat) : Int) = C := ⟨_, rfl⟩
          rw [eC] at l1
          have e0 : decide (0 < C) = false := by simp only [decide_eq_false_iff_not]; omega
          have e1 : IntKind.i64.wrap (-C) = ((0 : Nat) : Int) := by rw [wrap_om (by omega) (by omega)]; omega
          have hx : x = scaleI ⟨x1, x2⟩ k := by
            have h1 := @scale_up ⟨x1, x2⟩ k.toNat hok p2
            rw [show ((k.toNat : Nat) : Int) = k by omega] at h1
            rw [← h1, ← hs, dblL]
          simp (config := { maxSteps := 4000000, implicitDefEqProofs := false }) only [F_dblI_eq, F_notOk_eq, F_whole_eq, WK0, WK1, WK2, WK3, WK4, WK5, WK6, WK7, WK8, WK9, WK10, WK11, WK12, WK13, WK14, WK15, WK16, WK17, WK18, WK19, WK20, WK21, WK22, WK23, WK24, WK25, WK26, WK27, WK28, look_hit, look_miss, List.map_cons, List.map_nil, Nat.add_zero, max_v, min_v, ↓cnd_t, ↓cnd_f, ↓grd_b, ↓grd_u, startEnv, Option.map_some, List.length_nil, List.length_cons, List.nil_append, List.cons_append, List.getElem?_cons_zero, List.getElem?_cons_succ, List.set_cons_zero, List.set_cons_succ, Bool.not_true, Bool.not_false, reduceIte, Nat.reduceEqDiff, Nat.reduceAdd, Nat.reduceLT, blt_lit, beq_lit, Bool.or_true, Bool.true_or, Bool.or_false, Bool.false_or, Bool.and_true, Bool.true_and, Bool.and_self, cond_true, cond_false, List.append_nil, Iv.eta, Option.map_none, idxO_l0, idxO_l1, decide_true, decide_false, reqs_true, Int.zero_sub, wrap_lit, wrapu_lit, Int.reduceLE, Int.reduceLT, Int.reduceAdd, Int.reduceSub, Int.reduceMul, Int.reduceNeg, Int.reduceEq, Option.bind_some, bin_shr_u64, bin_shl_u64, bin_shr_i64, bin_shl_i64, and_m32', Int.reduceToNat, Int.reducePow, Int.reduceMod, Int.reduceDiv, wrap_u64s, true_or, or_true, true_and, and_true, Option.isSome_none, Option.isSome_some, Nat.reduceLeDiff, Nat.reduceMul, Int.toNat_natCast, Int.cast_ofNat_Int, Int.natCast_zero, Int.natCast_one, List.isEmpty_nil, List.isEmpty_cons, List.replicate_zero, List.replicate_succ, T1, T2, T3, T4, T5, T6, T9, T10, T11, T12, T21, T22, T23, T24, T26, T27, T28, T29, T30, T31, T32, T33, T34, T35, T37, T38, T39, T40, T42, T43, T44, T45, T46, T47, T48, T50, T52, T54, T55, T56, T57, T58, T59, T60, T61, T62, T63, T64, T65, T66, T67, T68, T69, T70, T71, T72, T73, T75, T77, T78, T79, T80, T82, T83, T84, T85, T87, T89, T90, T91, T92, T95, T97, T103, T104, T105, T106, T107, T109, T110, l1, l2, l4, e0, e1, bin_shr_si (show (0 : Nat) ≤ 64 by omega)]
          repeat' (first | with_reducible refine cnd_split (fun hc => ?_) (fun hc => ?_) | with_reducible refine Reqs.mk ?_ ?_)
          all_goals (refine endS_v (t := (scaleI (Iv.mk x1 x2) k)) hr ?_)
          · have hb := okI_iff.1 (by assumption : okI x = true)
            rw [← hx]
            simp only [Int.pow_zero, Int.ediv_one]
            rw [wrap_om (n := -x.hi) (by omega) (by omega), Int.neg_neg, wrap_om (by omega) (by omega)]
          · rw [← hx]
            have hm : x = mkI (x1 * 2 ^ k.toNat) (x2 * 2 ^ k.toNat) := by rw [hx]; unfold scaleI; rw [if_pos (by omega)]
            have hn := (by assumption : okI x = false)
            rw [hm] at hn ⊢
            rw [mkI_no hn]
        | succ j =>
          obtain ⟨C, eC⟩ : ∃ C : Int, ((j + 1 : Nat) : Int) = C := ⟨_, rfl⟩
          rw [eC] at l1
          have e0 : decide (0 < C) = true := by simp only [decide_eq_true_eq]; omega
          have e1 : IntKind.i64.wrap (C - 1) = (j : Int) := by rw [wrap_om (by omega) (by omega)]; omega
          rw [dblL] at hs
          simp (config := { maxSteps := 4000000, implicitDefEqProofs := false }) only [F_dblI_eq, F_notOk_eq, F_whole_eq, WK0, WK1, WK2, WK3, WK4, WK5, WK6, WK7, WK8, WK9, WK10, WK11, WK12, WK13, WK14, WK15, WK16, WK17, WK18, WK19, WK20, WK21, WK22, WK23, WK24, WK25, WK26, WK27, WK28, look_hit, look_miss, List.map_cons, List.map_nil, Nat.add_zero, max_v, min_v, ↓cnd_t, ↓cnd_f, ↓grd_b, ↓grd_u, startEnv, Option.map_some, List.length_nil, List.length_cons, List.nil_append, List.cons_append, List.getElem?_cons_zero, List.getElem?_cons_succ, List.set_cons_zero, List.set_cons_succ, Bool.not_true, Bool.not_false, reduceIte, Nat.reduceEqDiff, Nat.reduceAdd, Nat.reduceLT, blt_lit, beq_lit, Bool.or_true, Bool.true_or, Bool.or_false, Bool.false_or, Bool.and_true, Bool.true_and, Bool.and_self, cond_true, cond_false, List.append_nil, Iv.eta, Option.map_none, idxO_l0, idxO_l1, decide_true, decide_false, reqs_true, Int.zero_sub, wrap_lit, wrapu_lit, Int.reduceLE, Int.reduceLT, Int.reduceAdd, Int.reduceSub, Int.reduceMul, Int.reduceNeg, Int.reduceEq, Option.bind_some, bin_shr_u64, bin_shl_u64, bin_shr_i64, bin_shl_i64, and_m32', Int.reduceToNat, Int.reducePow, Int.reduceMod, Int.reduceDiv, wrap_u64s, true_or, or_true, true_and, and_true, Option.isSome_none, Option.isSome_some, Nat.reduceLeDiff, Nat.reduceMul, Int.toNat_natCast, Int.cast_ofNat_Int, Int.natCast_zero, Int.natCast_one, List.isEmpty_nil, List.isEmpty_cons, List.replicate_zero, List.replicate_succ, T1, T2, T3, T4, T5, T6, T9, T10, T11, T12, T21, T22, T23, T24, T26, T27, T28, T29, T30, T31, T32, T33, T34, T35, T37, T38, T39, T40, T42, T43, T44, T45, T46, T47, T48, T50, T52, T54, T55, T56, T57, T58, T59, T60, T61, T62, T63, T64, T65, T66, T67, T68, T69, T70, T71, T72, T73, T75, T77, T78, T79, T80, T82, T83, T84, T85, T87, T89, T90, T91, T92, T95, T97, T103, T104, T105, T106, T107, T109, T110, l1, l2, l4, e0, e1]
          refine hX (j, _) _ _ (Nat.lt_succ_self j) ⟨rfl, ?_, ?_, ?_, by simp only; omega, hs⟩
          all_goals (try simp only [look])
          all_goals simp [l2, l4]
    · obtain ⟨s, hs⟩ : ∃ s : Nat, -k = s := ⟨(-k).toNat, by omega⟩
      have s64 : s ≤ 64 := by omega
      have e0 : decide (0 < k) = false := by simp only [decide_eq_false_iff_not]; exact hk
      have e1 : IntKind.i64.wrap (-k) = (s : Int) := by rw [wrap_om (by omega) (by omega)]; omega
      have e2 : IntKind.i64.wrap (-x2) = -x2 := wrap_om (by omega) (by omega)
      have hd := @down_up x1 x2 (2 ^ s) (Int.pow_pos (by omega)) p2 p3 (by omega)
      have e3 : IntKind.i64.wrap (-(-x2 / 2 ^ s)) = -(-x2 / 2 ^ s) := wrap_om (by omega) (by omega)
      simp (config := { maxSteps := 4000000, implicitDefEqProofs := false }) only [F_dblI_eq, F_notOk_eq, F_whole_eq, WK0, WK1, WK2, WK3, WK4, WK5, WK6, WK7, WK8, WK9, WK10, WK11, WK12, WK13, WK14, WK15, WK16, WK17, WK18, WK19, WK20, WK21, WK22, WK23, WK24, WK25, WK26, WK27, WK28, look_hit, look_miss, List.map_cons, List.map_nil, Nat.add_zero, max_v, min_v, ↓cnd_t, ↓cnd_f, ↓grd_b, ↓grd_u, startEnv, Option.map_some, List.length_nil, List.length_cons, List.nil_append, List.cons_append, List.getElem?_cons_zero, List.getElem?_cons_succ, List.set_cons_zero, List.set_cons_succ, Bool.not_true, Bool.not_false, reduceIte, Nat.reduceEqDiff, Nat.reduceAdd, Nat.reduceLT, blt_lit, beq_lit, Bool.or_true, Bool.true_or, Bool.or_false, Bool.false_or, Bool.and_true, Bool.true_and, Bool.and_self, cond_true, cond_false, List.append_nil, Iv.eta, Option.map_none, idxO_l0, idxO_l1, decide_true, decide_false, reqs_true, Int.zero_sub, wrap_lit, wrapu_lit, Int.reduceLE, Int.reduceLT, Int.reduceAdd, Int.reduceSub, Int.reduceMul, Int.reduceNeg, Int.reduceEq, Option.bind_some, bin_shr_u64, bin_shl_u64, bin_shr_i64, bin_shl_i64, and_m32', Int.reduceToNat, Int.reducePow, Int.reduceMod, Int.reduceDiv, wrap_u64s, true_or, or_true, true_and, and_true, Option.isSome_none, Option.isSome_some, Nat.reduceLeDiff, Nat.reduceMul, Int.toNat_natCast, Int.cast_ofNat_Int, Int.natCast_zero, Int.natCast_one, List.isEmpty_nil, List.isEmpty_cons, List.replicate_zero, List.replicate_succ, T1, T2, T3, T4, T5, T6, T9, T10, T11, T12, T21, T22, T23, T24, T26, T27, T28, T29, T30, T31, T32, T33, T34, T35, T37, T38, T39, T40, T42, T43, T44, T45, T46, T47, T48, T50, T52, T54, T55, T56, T57, T58, T59, T60, T61, T62, T63, T64, T65, T66, T67, T68, T69, T70, T71, T72, T73, T75, T77, T78, T79, T80, T82, T83, T84, T85, T87, T89, T90, T91, T92, T95, T97, T103, T104, T105, T106, T107, T109, T110, go_turn_eq, again_n, again_r, again_e, e0, e1, e2, e3, hok, bin_shr_si s64]
      refine endS_v (t := (scaleI (Iv.mk x1 x2) k)) hr ?_
      by_cases h0 : k = 0
      · have : s = 0 := by omega
        rw [h0, scale_0 hok, this]
        simp
      · rw [scale_neg (by omega) hs]
  · cases hF

-- expat
theorem expA_w1 {n : Int} (h : ¬ (fixOk n = true ∧ n ≤ 85899345920)) : expA n = whole := by
  unfold expA
  rw [if_neg]
  simp only [Bool.and_eq_true, decide_eq_true_eq]
  exact h
theorem expA_lo {n : Int} (h : fixOk n = true) (h2 : n < -98784247808) : expA n = ⟨0, 1⟩ := by
  unfold expA
  rw [if_pos, if_pos h2]
  simp only [Bool.and_eq_true, decide_eq_true_eq]
  exact ⟨h, by omega⟩
theorem expA_in {n : Int} (h : fixOk n = true) (h1 : n ≤ 85899345920) (h2 : ¬ n < -98784247808) : expA n = scaleI (widI (expP n)) (expK n) := by
  unfold expA
  rw [if_pos, if_neg h2]
  simp only [Bool.and_eq_true, decide_eq_true_eq]
  exact ⟨h, h1⟩
theorem widP {n : Int} (h1 : -98784247808 ≤ n) (h2 : n ≤ 85899345920) : (-9223372036854775808 < (widI (expP n)).lo ∧ 0 ≤ (widI (expP n)).lo ∧ (widI (expP n)).lo ≤ (widI (expP n)).hi ∧ (widI (expP n)).hi ≤ 8589934593) ∧ -40 ≤ expK n ∧ expK n ≤ 29 := by
  have hk := expK_bd h1 h2
  have hp := expP_bd h1 h2
  have hb := okI_iff.1 hp.1
  unfold widI
  rw [if_pos hp.1, mkI_lin (by omega) (by omega) (by omega)]
  simp only
  omega
theorem expQ {n : Int} (h1 : -98784247808 ≤ n) (h2 : n ≤ 85899345920) : -98784247808 * 2 + 2977044472 ≤ 2 * n + 2977044472 ∧ (2 * n + 2977044472).tdiv 5954088944 * 5954088944 - 5954088944 < 2 * n + 2977044472 ∧ 2 * n + 2977044472 < (2 * n + 2977044472).tdiv 5954088944 * 5954088944 + 5954088944 ∧ -40 ≤ (2 * n + 2977044472).tdiv 5954088944 ∧ (2 * n + 2977044472).tdiv 5954088944 ≤ 40 ∧ ((2 * n + 2977044472).tmod 5954088944 < 0 ↔ 2 * n + 2977044472 < (2 * n + 2977044472).tdiv 5954088944 * 5954088944) := by
  by_cases h0 : 0 ≤ 2 * n + 2977044472
  · rw [tdiv_p h0, tmod_p h0]; omega
  · rw [tdiv_n (by omega), tmod_n (by omega)]; omega

-- impl.ExpAt
theorem impl_ExpAt_expA_ok : Fn Tryz.prog 35 F_expA := by
  refine fn_of_go (O := orc [⟨71, F_whole, .inl impl_Whole_whole_ok⟩, ⟨74, F_divI, .inl impl_DivI_divI_ok⟩, ⟨83, F_subI, .inl impl_SubI_subI_ok⟩, ⟨86, F_addI, .inl impl_AddI_addI_ok⟩, ⟨90, F_intI, .inl impl_Integer_intI_ok⟩, ⟨92, F_atI, .inl impl_at_atI_ok⟩, ⟨95, F_lnI, .inl impl_LogTwoI_lnI_ok⟩, ⟨99, F_mulI, .inl impl_MulI_mulI_ok⟩, ⟨100, F_fixOk, .inl impl_ValidFix_fixOk_ok⟩, ⟨101, F_scaleI, .inl impl_scaled_scaleI_ok⟩, ⟨102, F_widI, .inl impl_widened_widI_ok⟩]) mixed T_ok (orc_sound _) Tryz.func35 (by kernel_rfl) rfl Tryz.ntmps35 (by kernel_rfl) Tryz.results35 ?_
  intro args g pre r new hF hpre
  unfold F_expA at hF
  split at hF
  · rename_i n
    simp only [Option.some.injEq, Prod.mk.injEq] at hF
    obtain ⟨rfl, hr, rfl⟩ := hF
    refine ⟨by simp, ?_⟩
    by_cases hRng : (fixOk n = true ∧ n ≤ 85899345920) ∧ ¬ n < -98784247808
    · obtain ⟨⟨h1, h2⟩, h3⟩ := hRng
      have c2 : decide (85899345920 < n) = false := by simp only [decide_eq_false_iff_not]; omega
      have c3 : decide (n < -98784247808) = false := by simp only [decide_eq_false_iff_not]; omega
      have e1 : IntKind.i64.wrap (2 * n) = 2 * n := wrap_om (by omega) (by omega)
      have e2 : IntKind.i64.wrap (2 * n + 2977044472) = 2 * n + 2977044472 := wrap_om (by omega) (by omega)
      obtain ⟨q0, q1, q2, q3, q4, q5⟩ := @expQ n (by omega) h2
      obtain ⟨D, eD⟩ : ∃ D, (2 * n + 2977044472).tdiv 5954088944 = D := ⟨_, rfl⟩
      rw [eD] at q1 q2 q3 q4 q5
      have hw := @widP n (by omega) h2
      have hR := @expR_bd n (by omega) h2
      have hKd : expK n = if 2 * n + 2977044472 < D * 5954088944 then D - 1 else D := by
        unfold expK
        split <;> omega
      have e3 : IntKind.i64.wrap D = D := wrap_om (by omega) (by omega)
      have e4 : IntKind.i64.wrap (D - 1) = D - 1 := wrap_om (by omega) (by omega)
      have e5 : IntKind.i64.wrap (D * 2) = D * 2 := wrap_om (by omega) (by omega)
      have e6 : IntKind.i64.wrap (D * 2 * 2977044472) = D * 2 * 2977044472 := wrap_om (by omega) (by omega)
      have hA := expA_in h1 h2 h3
      simp (config := { maxSteps := 4000000, implicitDefEqProofs := false }) only [F_addI_eq, F_atI_eq, F_divI_eq, F_fixOk_eq, F_intI_eq, F_lnI_eq, F_mulI_eq, F_scaleI_eq, F_subI_eq, F_whole_eq, F_widI_eq, WK0, WK1, WK2, WK3, WK4, WK5, WK6, WK7, WK8, WK9, WK10, WK11, WK12, WK13, WK14, WK15, WK16, WK17, WK18, WK19, WK20, WK21, WK22, WK23, WK24, WK25, WK26, WK27, WK28, look_hit, look_miss, List.map_cons, List.map_nil, Nat.add_zero, max_v, min_v, ↓cnd_t, ↓cnd_f, ↓grd_b, ↓grd_u, startEnv, Option.map_some, List.length_nil, List.length_cons, List.nil_append, List.cons_append, List.getElem?_cons_zero, List.getElem?_cons_succ, List.set_cons_zero, List.set_cons_succ, Bool.not_true, Bool.not_false, reduceIte, Nat.reduceEqDiff, Nat.reduceAdd, Nat.reduceLT, blt_lit, beq_lit, Bool.or_true, Bool.true_or, Bool.or_false, Bool.false_or, Bool.and_true, Bool.true_and, Bool.and_self, cond_true, cond_false, List.append_nil, Iv.eta, Option.map_none, idxO_l0, idxO_l1, decide_true, decide_false, reqs_true, Int.zero_sub, wrap_lit, wrapu_lit, Int.reduceLE, Int.reduceLT, Int.reduceAdd, Int.reduceSub, Int.reduceMul, Int.reduceNeg, Int.reduceEq, Option.bind_some, bin_shr_u64, bin_shl_u64, bin_shr_i64, bin_shl_i64, and_m32', Int.reduceToNat, Int.reducePow, Int.reduceMod, Int.reduceDiv, wrap_u64s, true_or, or_true, true_and, and_true, Option.isSome_none, Option.isSome_some, Nat.reduceLeDiff, Nat.reduceMul, Int.toNat_natCast, Int.cast_ofNat_Int, Int.natCast_zero, Int.natCast_one, List.isEmpty_nil, List.isEmpty_cons, List.replicate_zero, List.replicate_succ, T1, T2, T3, T4, T5, T6, T9, T10, T11, T12, T21, T22, T23, T24, T26, T27, T28, T29, T30, T31, T32, T33, T34, T35, T37, T38, T39, T40, T42, T43, T44, T45, T46, T47, T48, T50, T52, T54, T55, T56, T57, T58, T59, T60, T61, T62, T63, T64, T65, T66, T67, T68, T69, T70, T71, T72, T73, T75, T77, T78, T79, T80, T82, T83, T84, T85, T87, T89, T90, T91, T92, T95, T97, T103, T104, T105, T106, T107, T109, T110, bin_quo_c, bin_rem_c, h1, c2, c3, e1, e2, eD, e3, e4, e5, e6]
      repeat' (first | with_reducible refine cnd_split (fun hc => ?_) (fun hc => ?_) | with_reducible refine Reqs.mk ?_ ?_)
      all_goals (try simp only [decide_eq_true_eq, decide_eq_false_iff_not] at *)
      all_goals (first | trivial | skip)
      all_goals first
        | (have hK : D - 1 = expK n := by rw [hKd, if_pos (by omega)]
           simp only [hK])
        | (have hK : D = expK n := by rw [hKd, if_neg (by omega)]
           rw [hK])
      all_goals (have hR2 : subI (Iv.mk n n) (lnI (expK n)) = expR n := rfl)
      all_goals (simp only [hR2])
      all_goals refine go_loop (α := Nat × Iv) (fun a => a.1) (fun a e h => h = [[.int .i64 0, .int .i64 0], [.int .i64 (expR n).lo, .int .i64 (expR n).hi], [.int .i64 a.2.lo, .int .i64 a.2.hi]] ∧ look e 2 = some (.v (.c (.ptr (.own 0 0)))) ∧ look e 3 = some (.v (.c (.p (.int .i64 (expK n))))) ∧ look e 4 = some (.v (.c (.ptr (.own 1 0)))) ∧ look e 5 = some (.v (.c (.ptr (.own 2 0)))) ∧ look e 6 = some (.v (.c (.p (.int .i64 (a.1 : Int))))) ∧ a.1 ≤ 9 ∧ expL a.1 (expR n) a.2 = expP n) (9, intI 1) ⟨rfl, rfl, rfl, rfl, rfl, rfl, by simp only; omega, rfl⟩ ?_
      all_goals
        rintro X ⟨k, p⟩ e h ⟨rfl, l2, l3, l4, l5, l6, hk, hs⟩ hX
        simp only at l6 hk hs hX
        cases k with
        | zero =>
          obtain ⟨C, eC⟩ : ∃ C : Int, ((0 : Nat) : Int) = C := ⟨_, rfl⟩
          rw [eC] at l6
          have z0 : decide (1 ≤ C) = false := by simp only [decide_eq_false_iff_not]; omega
          have hp : p = expP n := hs
          subst hp
          simp (config := { maxSteps := 4000000, implicitDefEqProofs := false }) only [F_addI_eq, F_atI_eq, F_divI_eq, F_fixOk_eq, F_intI_eq, F_lnI_eq, F_mulI_eq, F_scaleI_eq, F_subI_eq, F_whole_eq, F_widI_eq, WK0, WK1, WK2, WK3, WK4, WK5, WK6, WK7, WK8, WK9, WK10, WK11, WK12, WK13, WK14, WK15, WK16, WK17, WK18, WK19, WK20, WK21, WK22, WK23, WK24, WK25, WK26, WK27, WK28, look_hit, look_miss, List.map_cons, List.map_nil, Nat.add_zero, max_v, min_v, ↓cnd_t, ↓cnd_f, ↓grd_b, ↓grd_u, startEnv, Option.map_some, List.length_nil, List.length_cons, List.nil_append, List.cons_append, List.getElem?_cons_zero, List.getElem?_cons_succ, List.set_cons_zero, List.set_cons_succ, Bool.not_true, Bool.not_false, reduceIte, Nat.reduceEqDiff, Nat.reduceAdd, Nat.reduceLT, blt_lit, beq_lit, Bool.or_true, Bool.true_or, Bool.or_false, Bool.false_or, Bool.and_true, Bool.true_and, Bool.and_self, cond_true, cond_false, List.append_nil, Iv.eta, Option.map_none, idxO_l0, idxO_l1, decide_true, decide_false, reqs_true, Int.zero_sub, wrap_lit, wrapu_lit, Int.reduceLE, Int.reduceLT, Int.reduceAdd, Int.reduceSub, Int.reduceMul, Int.reduceNeg, Int.reduceEq, Option.bind_some, bin_shr_u64, bin_shl_u64, bin_shr_i64, bin_shl_i64, and_m32', Int.reduceToNat, Int.reducePow, Int.reduceMod, Int.reduceDiv, wrap_u64s, true_or, or_true, true_and, and_true, Option.isSome_none, Option.isSome_some, Nat.reduceLeDiff, Nat.reduceMul, Int.toNat_natCast, Int.cast_ofNat_Int, Int.natCast_zero, Int.natCast_one, List.isEmpty_nil, List.isEmpty_cons, List.replicate_zero, List.replicate_succ, T1, T2, T3, T4, T5, T6, T9, T10, T11, T12, T21, T22, T23, T24, T26, T27, T28, T29, T30, T31, T32, T33, T34, T35, T37, T38, T39, T40, T42, T43, T44, T45, T46, T47, T48, T50, T52, T54, T55, T56, T57, T58, T59, T60, T61, T62, T63, T64, T65, T66, T67, T68, T69, T70, T71, T72, T73, T75, T77, T78, T79, T80, T82, T83, T84, T85, T87, T89, T90, T91, T92, T95, T97, T103, T104, T105, T106, T107, T109, T110, bin_quo_c, bin_rem_c, l2, l3, l4, l5, l6, z0]
          repeat' (first | with_reducible refine cnd_split (fun hc => ?_) (fun hc => ?_) | with_reducible refine Reqs.mk ?_ ?_)
          all_goals first
            | rfl
            | trivial
            | exact ⟨hw.1, hw.2.1, hw.2.2⟩
            | (refine endS_v (t := (expA n)) hr ?_; rw [hA])
        | succ k =>
          obtain ⟨K, eK⟩ : ∃ K : Int, ((k + 1 : Nat) : Int) = K := ⟨_, rfl⟩
          rw [expL, eK] at hs
          rw [eK] at l6
          have z0 : decide (1 ≤ K) = true := by simp only [decide_eq_true_eq]; omega
          have z1 : IntKind.i64.wrap (K - 1) = (k : Int) := by rw [wrap_om (by omega) (by omega)]; omega
          simp (config := { maxSteps := 4000000, implicitDefEqProofs := false }) only [F_addI_eq, F_atI_eq, F_divI_eq, F_fixOk_eq, F_intI_eq, F_lnI_eq, F_mulI_eq, F_scaleI_eq, F_subI_eq, F_whole_eq, F_widI_eq, WK0, WK1, WK2, WK3, WK4, WK5, WK6, WK7, WK8, WK9, WK10, WK11, WK12, WK13, WK14, WK15, WK16, WK17, WK18, WK19, WK20, WK21, WK22, WK23, WK24, WK25, WK26, WK27, WK28, look_hit, look_miss, List.map_cons, List.map_nil, Nat.add_zero, max_v, min_v, ↓cnd_t, ↓cnd_f, ↓grd_b, ↓grd_u, startEnv, Option.map_some, List.length_nil, List.length_cons, List.nil_append, List.cons_append, List.getElem?_cons_zero, List.getElem?_cons_succ, List.set_cons_zero, List.set_cons_succ, Bool.not_true, Bool.not_false, reduceIte, Nat.reduceEqDiff, Nat.reduceAdd, Nat.reduceLT, blt_lit, beq_lit, Bool.or_true, Bool.true_or, Bool.or_false, Bool.false_or, Bool.and_true, Bool.true_and, Bool.and_self, cond_true, cond_false, List.append_nil, Iv.eta, Option.map_none, idxO_l0, idxO_l1, decide_true, decide_false, reqs_true, Int.zero_sub, wrap_lit, wrapu_lit, Int.reduceLE, Int.reduceLT, Int.reduceAdd, Int.reduceSub, Int.reduceMul, Int.reduceNeg, Int.reduceEq, Option.bind_some, bin_shr_u64, bin_shl_u64, bin_shr_i64, bin_shl_i64, and_m32', Int.reduceToNat, Int.reducePow, Int.reduceMod, Int.reduceDiv, wrap_u64s, true_or, or_true, true_and, and_true, Option.isSome_none, Option.isSome_some, Nat.reduceLeDiff, Nat.reduceMul, Int.toNat_natCast, Int.cast_ofNat_Int, Int.natCast_zero, Int.natCast_one, List.isEmpty_nil, List.isEmpty_cons, List.replicate_zero, List.replicate_succ, T1, T2, T3, T4, T5, T6, T9, T10, T11, T12, T21, T22, T23, T24, T26, T27, T28, T29, T30, T31, T32, T33, T34, T35, T37, T38, T39, T40, T42, T43, T44, T45, T46, T47, T48, T50, T52, T54, T55, T56, T57, T58, T59, T60, T61, T62, T63, T64, T65, T66, T67, T68, T69, T70, T71, T72, T73, T75, T77, T78, T79, T80, T82, T83, T84, T85, T87, T89, T90, T91, T92, T95, T97, T103, T104, T105, T106, T107, T109, T110, bin_quo_c, bin_rem_c, l2, l3, l4, l5, l6, z0, z1]
          refine hX (k, _) _ _ (Nat.lt_succ_self k) ⟨rfl, ?_, ?_, ?_, ?_, ?_, by simp only; omega, hs⟩
          all_goals (try simp only [look])
          all_goals simp [l2, l3, l4, l5]
    · simp (config := { maxSteps := 4000000, implicitDefEqProofs := false }) only [F_addI_eq, F_atI_eq, F_divI_eq, F_fixOk_eq, F_intI_eq, F_lnI_eq, F_mulI_eq, F_scaleI_eq, F_subI_eq, F_whole_eq, F_widI_eq, WK0, WK1, WK2, WK3, WK4, WK5, WK6, WK7, WK8, WK9, WK10, WK11, WK12, WK13, WK14, WK15, WK16, WK17, WK18, WK19, WK20, WK21, WK22, WK23, WK24, WK25, WK26, WK27, WK28, look_hit, look_miss, List.map_cons, List.map_nil, Nat.add_zero, max_v, min_v, ↓cnd_t, ↓cnd_f, ↓grd_b, ↓grd_u, startEnv, Option.map_some, List.length_nil, List.length_cons, List.nil_append, List.cons_append, List.getElem?_cons_zero, List.getElem?_cons_succ, List.set_cons_zero, List.set_cons_succ, Bool.not_true, Bool.not_false, reduceIte, Nat.reduceEqDiff, Nat.reduceAdd, Nat.reduceLT, blt_lit, beq_lit, Bool.or_true, Bool.true_or, Bool.or_false, Bool.false_or, Bool.and_true, Bool.true_and, Bool.and_self, cond_true, cond_false, List.append_nil, Iv.eta, Option.map_none, idxO_l0, idxO_l1, decide_true, decide_false, reqs_true, Int.zero_sub, wrap_lit, wrapu_lit, Int.reduceLE, Int.reduceLT, Int.reduceAdd, Int.reduceSub, Int.reduceMul, Int.reduceNeg, Int.reduceEq, Option.bind_some, bin_shr_u64, bin_shl_u64, bin_shr_i64, bin_shl_i64, and_m32', Int.reduceToNat, Int.reducePow, Int.reduceMod, Int.reduceDiv, wrap_u64s, true_or, or_true, true_and, and_true, Option.isSome_none, Option.isSome_some, Nat.reduceLeDiff, Nat.reduceMul, Int.toNat_natCast, Int.cast_ofNat_Int, Int.natCast_zero, Int.natCast_one, List.isEmpty_nil, List.isEmpty_cons, List.replicate_zero, List.replicate_succ, T1, T2, T3, T4, T5, T6, T9, T10, T11, T12, T21, T22, T23, T24, T26, T27, T28, T29, T30, T31, T32, T33, T34, T35, T37, T38, T39, T40, T42, T43, T44, T45, T46, T47, T48, T50, T52, T54, T55, T56, T57, T58, T59, T60, T61, T62, T63, T64, T65, T66, T67, T68, T69, T70, T71, T72, T73, T75, T77, T78, T79, T80, T82, T83, T84, T85, T87, T89, T90, T91, T92, T95, T97, T103, T104, T105, T106, T107, T109, T110, bin_quo_c, bin_rem_c]
      repeat' (first | with_reducible refine cnd_split (fun hc => ?_) (fun hc => ?_) | with_reducible refine Reqs.mk ?_ ?_)
      all_goals (try simp only [decide_eq_true_eq, decide_eq_false_iff_not] at *)
      all_goals first
        | trivial
        | exact absurd (And.intro (And.intro (by assumption : fixOk n = true) (by omega : n ≤ 85899345920)) (by omega : ¬ n < -98784247808)) hRng
        | (refine endS_v (t := (expA n)) hr ?_; rw [expA_lo (by assumption) (by assumption)]; done)
        | (refine endS_v (t := (expA n)) hr ?_; rw [expA_w1 (by rintro ⟨g1, g2⟩; omega)]; done)
        | (have g0 := (by assumption : fixOk n = false); refine endS_v (t := (expA n)) hr ?_; rw [expA_w1 (by rintro ⟨g1, g2⟩; rw [g0] at g1; cases g1)]; done)
  · cases hF

-- impl.twosOf
theorem tw_pos {n : Int} (h : 0 < twU 64 n 0) : tw n = (twU 64 n 0 : Int) := by unfold tw; rw [if_pos h]
theorem tw_neg {n : Int} (h : ¬ 0 < twU 64 n 0) : tw n = -(twD 64 n 0 : Int) := by unfold tw; rw [if_neg h]
theorem div_2_64 {n : Int} {e : Nat} (h : 1 ≤ n ∧ n ≤ 1152921504606846976) (he : 64 ≤ e) : n / 2 ^ e = 0 := by
  refine Int.ediv_eq_zero_of_lt (by omega) ?_
  have : 2 ^ 64 ≤ 2 ^ e := Nat.pow_le_pow_right (by omega) he
  have : ((2 ^ 64 : Nat) : Int) ≤ ((2 ^ e : Nat) : Int) := by omega
  have h2 : (18446744073709551616 : Int) ≤ 2 ^ e := by simpa using this
  omega
theorem impl_twosOf_tw_ok : Fn Tryz.prog 103 F_tw := by
  refine fn_of_go (O := orc []) mixed T_ok (orc_sound _) Tryz.func103 (by kernel_rfl) rfl Tryz.ntmps103 (by kernel_rfl) Tryz.results103 ?_
  intro args g pre r new hF hpre
  unfold F_tw at hF
  split at hF
  · rename_i n
    simp only [Option.some.injEq, Prod.mk.injEq] at hF
    obtain ⟨rfl, hr, rfl⟩ := hF
    refine ⟨by simp, ?_⟩
    simp (config := { maxSteps := 4000000, implicitDefEqProofs := false }) only [WK0, WK1, WK2, WK3, WK4, WK5, WK6, WK7, WK8, WK9, WK10, WK11, WK12, WK13, WK14, WK15, WK16, WK17, WK18, WK19, WK20, WK21, WK22, WK23, WK24, WK25, WK26, WK27, WK28, look_hit, look_miss, List.map_cons, List.map_nil, Nat.add_zero, max_v, min_v, ↓cnd_t, ↓cnd_f, ↓grd_b, ↓grd_u, startEnv, Option.map_some, List.length_nil, List.length_cons, List.nil_append, List.cons_append, List.getElem?_cons_zero, List.getElem?_cons_succ, List.set_cons_zero, List.set_cons_succ, Bool.not_true, Bool.not_false, reduceIte, Nat.reduceEqDiff, Nat.reduceAdd, Nat.reduceLT, blt_lit, beq_lit, Bool.or_true, Bool.true_or, Bool.or_false, Bool.false_or, Bool.and_true, Bool.true_and, Bool.and_self, cond_true, cond_false, List.append_nil, Iv.eta, Option.map_none, idxO_l0, idxO_l1, decide_true, decide_false, reqs_true, Int.zero_sub, wrap_lit, wrapu_lit, Int.reduceLE, Int.reduceLT, Int.reduceAdd, Int.reduceSub, Int.reduceMul, Int.reduceNeg, Int.reduceEq, Option.bind_some, bin_shr_u64, bin_shl_u64, bin_shr_i64, bin_shl_i64, and_m32', Int.reduceToNat, Int.reducePow, Int.reduceMod, Int.reduceDiv, wrap_u64s, true_or, or_true, true_and, and_true, Option.isSome_none, Option.isSome_some, Nat.reduceLeDiff, Nat.reduceMul, Int.toNat_natCast, Int.cast_ofNat_Int, Int.natCast_zero, Int.natCast_one, List.isEmpty_nil, List.isEmpty_cons, List.replicate_zero, List.replicate_succ, T1, T2, T3, T4, T5, T6, T9, T10, T11, T12, T21, T22, T23, T24, T26, T27, T28, T29, T30, T31, T32, T33, T34, T35, T37, T38, T39, T40, T42, T43, T44, T45, T46, T47, T48, T50, T52, T54, T55, T56, T57, T58, T59, T60, T61, T62, T63, T64, T65, T66, T67, T68, T69, T70, T71, T72, T73, T75, T77, T78, T79, T80, T82, T83, T84, T85, T87, T89, T90, T91, T92, T95, T97, T103, T104, T105, T106, T107, T109, T110]
    repeat' (first | with_reducible refine cnd_split (fun hc => ?_) (fun hc => ?_) | with_reducible refine Reqs.mk ?_ ?_)
    refine goS_mono (Q := fun ex st => ex = .exit 0 ∧ st.heap = [] ∧ look st.env 0 = some (.v (.c (.p (.int .i64 n)))) ∧ look st.env 3 = some (.v (.c (.p (.int .i64 (twU 64 n 0 : Int)))))) ?after1 ?loop1
    case loop1 =>
      refine go_loop (α := Nat × Nat) (fun a => a.1) (fun a e h => h = [] ∧ look e 0 = some (.v (.c (.p (.int .i64 n)))) ∧ look e 3 = some (.v (.c (.p (.int .i64 (a.2 : Int))))) ∧ a.1 + a.2 = 64 ∧ twU a.1 n a.2 = twU 64 n 0) (64, 0) ⟨rfl, rfl, rfl, rfl, rfl⟩ ?_
      rintro X ⟨f, u⟩ e h ⟨rfl, l0, l3, hf, hs⟩ hX
      simp only at l3 hf hs hX
      have u64 : u ≤ 64 := by omega
      simp (config := { maxSteps := 4000000, implicitDefEqProofs := false }) only [WK0, WK1, WK2, WK3, WK4, WK5, WK6, WK7, WK8, WK9, WK10, WK11, WK12, WK13, WK14, WK15, WK16, WK17, WK18, WK19, WK20, WK21, WK22, WK23, WK24, WK25, WK26, WK27, WK28, look_hit, look_miss, List.map_cons, List.map_nil, Nat.add_zero, max_v, min_v, ↓cnd_t, ↓cnd_f, ↓grd_b, ↓grd_u, startEnv, Option.map_some, List.length_nil, List.length_cons, List.nil_append, List.cons_append, List.getElem?_cons_zero, List.getElem?_cons_succ, List.set_cons_zero, List.set_cons_succ, Bool.not_true, Bool.not_false, reduceIte, Nat.reduceEqDiff, Nat.reduceAdd, Nat.reduceLT, blt_lit, beq_lit, Bool.or_true, Bool.true_or, Bool.or_false, Bool.false_or, Bool.and_true, Bool.true_and, Bool.and_self, cond_true, cond_false, List.append_nil, Iv.eta, Option.map_none, idxO_l0, idxO_l1, decide_true, decide_false, reqs_true, Int.zero_sub, wrap_lit, wrapu_lit, Int.reduceLE, Int.reduceLT, Int.reduceAdd, Int.reduceSub, Int.reduceMul, Int.reduceNeg, Int.reduceEq, Option.bind_some, bin_shr_u64, bin_shl_u64, bin_shr_i64, bin_shl_i64, and_m32', Int.reduceToNat, Int.reducePow, Int.reduceMod, Int.reduceDiv, wrap_u64s, true_or, or_true, true_and, and_true, Option.isSome_none, Option.isSome_some, Nat.reduceLeDiff, Nat.reduceMul, Int.toNat_natCast, Int.cast_ofNat_Int, Int.natCast_zero, Int.natCast_one, List.isEmpty_nil, List.isEmpty_cons, List.replicate_zero, List.replicate_succ, T1, T2, T3, T4, T5, T6, T9, T10, T11, T12, T21, T22, T23, T24, T26, T27, T28, T29, T30, T31, T32, T33, T34, T35, T37, T38, T39, T40, T42, T43, T44, T45, T46, T47, T48, T50, T52, T54, T55, T56, T57, T58, T59, T60, T61, T62, T63, T64, T65, T66, T67, T68, T69, T70, T71, T72, T73, T75, T77, T78, T79, T80, T82, T83, T84, T85, T87, T89, T90, T91, T92, T95, T97, T103, T104, T105, T106, T107, T109, T110, l0, l3, bin_shr_si u64]
      repeat' (first | with_reducible refine cnd_split (fun hc => ?_) (fun hc => ?_) | with_reducible refine Reqs.mk ?_ ?_)
      all_goals (try simp only [decide_eq_true_eq, decide_eq_false_iff_not] at *)
      · cases f with
        | zero => exfalso; rw [div_2_64 hpre (by omega)] at hc; omega
        | succ f =>
          rw [twU, if_pos hc] at hs
          have z1 : IntKind.i64.wrap ((u : Int) + 1) = ((u + 1 : Nat) : Int) := by rw [wrap_om (by omega) (by omega)]; omega
          simp only [z1]
          refine hX (f, u + 1) _ _ (Nat.lt_succ_self f) ⟨rfl, ?_, ?_, by simp only; omega, hs⟩
          all_goals (try simp only [look])
          all_goals simp [l0]
      · have : twU 64 n 0 = u := by
          rw [← hs]
          cases f with
          | zero => rfl
          | succ f => rw [twU, if_neg hc]
        rw [this]
        all_goals first
          | (refine ⟨?_, ?_⟩ <;> simp [look, l0, l3]; done)
          | (refine ⟨rfl, rfl, ?_, ?_⟩ <;> simp [look, l0, l3]; done)
          | (simp [look, l0, l3]; done)
    case after1 =>
      rintro ex ⟨e, h⟩ ⟨rfl, rfl, l0, l3⟩
      simp only at l0 l3
      have hst := twU_stop hpre 64 0 (by omega)
      have hge := twU_ge 64 n 0
      by_cases hU : 0 < twU 64 n 0
      · have c0 : decide ((twU 64 n 0 : Int) ≤ 0) = false := by simp only [decide_eq_false_iff_not]; omega
        simp (config := { maxSteps := 4000000, implicitDefEqProofs := false }) only [WK0, WK1, WK2, WK3, WK4, WK5, WK6, WK7, WK8, WK9, WK10, WK11, WK12, WK13, WK14, WK15, WK16, WK17, WK18, WK19, WK20, WK21, WK22, WK23, WK24, WK25, WK26, WK27, WK28, look_hit, look_miss, List.map_cons, List.map_nil, Nat.add_zero, max_v, min_v, ↓cnd_t, ↓cnd_f, ↓grd_b, ↓grd_u, startEnv, Option.map_some, List.length_nil, List.length_cons, List.nil_append, List.cons_append, List.getElem?_cons_zero, List.getElem?_cons_succ, List.set_cons_zero, List.set_cons_succ, Bool.not_true, Bool.not_false, reduceIte, Nat.reduceEqDiff, Nat.reduceAdd, Nat.reduceLT, blt_lit, beq_lit, Bool.or_true, Bool.true_or, Bool.or_false, Bool.false_or, Bool.and_true, Bool.true_and, Bool.and_self, cond_true, cond_false, List.append_nil, Iv.eta, Option.map_none, idxO_l0, idxO_l1, decide_true, decide_false, reqs_true, Int.zero_sub, wrap_lit, wrapu_lit, Int.reduceLE, Int.reduceLT, Int.reduceAdd, Int.reduceSub, Int.reduceMul, Int.reduceNeg, Int.reduceEq, Option.bind_some, bin_shr_u64, bin_shl_u64, bin_shr_i64, bin_shl_i64, and_m32', Int.reduceToNat, Int.reducePow, Int.reduceMod, Int.reduceDiv, wrap_u64s, true_or, or_true, true_and, and_true, Option.isSome_none, Option.isSome_some, Nat.reduceLeDiff, Nat.reduceMul, Int.toNat_natCast, Int.cast_ofNat_Int, Int.natCast_zero, Int.natCast_one, List.isEmpty_nil, List.isEmpty_cons, List.replicate_zero, List.replicate_succ, T1, T2, T3, T4, T5, T6, T9, T10, T11, T12, T21, T22, T23, T24, T26, T27, T28, T29, T30, T31, T32, T33, T34, T35, T37, T38, T39, T40, T42, T43, T44, T45, T46, T47, T48, T50, T52, T54, T55, T56, T57, T58, T59, T60, T61, T62, T63, T64, T65, T66, T67, T68, T69, T70, T71, T72, T73, T75, T77, T78, T79, T80, T82, T83, T84, T85, T87, T89, T90, T91, T92, T95, T97, T103, T104, T105, T106, T107, T109, T110, go_turn_eq, again_n, again_r, again_e, l0, l3, c0]
        refine endS_i (t := (tw n)) hr ?_
        rw [tw_pos hU]
      · have hU0 : twU 64 n 0 = 0 := by omega
        rw [hU0] at l3
        simp (config := { maxSteps := 4000000, implicitDefEqProofs := false }) only [WK0, WK1, WK2, WK3, WK4, WK5, WK6, WK7, WK8, WK9, WK10, WK11, WK12, WK13, WK14, WK15, WK16, WK17, WK18, WK19, WK20, WK21, WK22, WK23, WK24, WK25, WK26, WK27, WK28, look_hit, look_miss, List.map_cons, List.map_nil, Nat.add_zero, max_v, min_v, ↓cnd_t, ↓cnd_f, ↓grd_b, ↓grd_u, startEnv, Option.map_some, List.length_nil, List.length_cons, List.nil_append, List.cons_append, List.getElem?_cons_zero, List.getElem?_cons_succ, List.set_cons_zero, List.set_cons_succ, Bool.not_true, Bool.not_false, reduceIte, Nat.reduceEqDiff, Nat.reduceAdd, Nat.reduceLT, blt_lit, beq_lit, Bool.or_true, Bool.true_or, Bool.or_false, Bool.false_or, Bool.and_true, Bool.true_and, Bool.and_self, cond_true, cond_false, List.append_nil, Iv.eta, Option.map_none, idxO_l0, idxO_l1, decide_true, decide_false, reqs_true, Int.zero_sub, wrap_lit, wrapu_lit, Int.reduceLE, Int.reduceLT, Int.reduceAdd, Int.reduceSub, Int.reduceMul, Int.reduceNeg, Int.reduceEq, Option.bind_some, bin_shr_u64, bin_shl_u64, bin_shr_i64, bin_shl_i64, and_m32', Int.reduceToNat, Int.reducePow, Int.reduceMod, Int.reduceDiv, wrap_u64s, true_or, or_true, true_and, and_true, Option.isSome_none, Option.isSome_some, Nat.reduceLeDiff, Nat.reduceMul, Int.toNat_natCast, Int.cast_ofNat_Int, Int.natCast_zero, Int.natCast_one, List.isEmpty_nil, List.isEmpty_cons, List.replicate_zero, List.replicate_succ, T1, T2, T3, T4, T5, T6, T9, T10, T11, T12, T21, T22, T23, T24, T26, T27, T28, T29, T30, T31, T32, T33, T34, T35, T37, T38, T39, T40, T42, T43, T44, T45, T46, T47, T48, T50, T52, T54, T55, T56, T57, T58, T59, T60, T61, T62, T63, T64, T65, T66, T67, T68, T69, T70, T71, T72, T73, T75, T77, T78, T79, T80, T82, T83, T84, T85, T87, T89, T90, T91, T92, T95, T97, T103, T104, T105, T106, T107, T109, T110, l0, l3]
        refine go_loop (α := Nat × Nat) (fun a => a.1) (fun a e h => h = [] ∧ look e 0 = some (.v (.c (.p (.int .i64 n)))) ∧ look e 3 = some (.v (.c (.p (.int .i64 (-(a.2 : Int)))))) ∧ a.1 + a.2 = 64 ∧ n * 2 ^ a.2 ≤ 1152921504606846976 ∧ twD a.1 n a.2 = twD 64 n 0) (64, 0) ⟨rfl, by simp [look, l0], by simp [look, l3], rfl, by simp only; omega, rfl⟩ ?_
        clear l0 l3
        rintro X ⟨f, d⟩ e h ⟨rfl, l0, l3, hf, hb, hs⟩ hX
        simp only at l3 hf hb hs hX
        have d64 : d ≤ 64 := by omega
        have hP : (0 : Int) < 2 ^ d := Int.pow_pos (by omega)
        have hn0 : 0 ≤ n * 2 ^ d := Int.mul_nonneg (by omega) (by omega)
        have c0 : decide (-(d : Int) ≤ 0) = true := by simp only [decide_eq_true_eq]; omega
        have c1 : IntKind.i64.wrap (-(-(d : Int))) = (d : Int) := by rw [wrap_om (by omega) (by omega)]; omega
        have c2 : IntKind.i64.wrap (n * 2 ^ d) = n * 2 ^ d := wrap_om (by omega) (by omega)
        have c3 : IntKind.i64.wrap (-(d : Int) - 1) = -((d + 1 : Nat) : Int) := by rw [wrap_om (by omega) (by omega)]; omega
        simp (config := { maxSteps := 4000000, implicitDefEqProofs := false }) only [WK0, WK1, WK2, WK3, WK4, WK5, WK6, WK7, WK8, WK9, WK10, WK11, WK12, WK13, WK14, WK15, WK16, WK17, WK18, WK19, WK20, WK21, WK22, WK23, WK24, WK25, WK26, WK27, WK28, look_hit, look_miss, List.map_cons, List.map_nil, Nat.add_zero, max_v, min_v, ↓cnd_t, ↓cnd_f, ↓grd_b, ↓grd_u, startEnv, Option.map_some, List.length_nil, List.length_cons, List.nil_append, List.cons_append, List.getElem?_cons_zero, List.getElem?_cons_succ, List.set_cons_zero, List.set_cons_succ, Bool.not_true, Bool.not_false, reduceIte, Nat.reduceEqDiff, Nat.reduceAdd, Nat.reduceLT, blt_lit, beq_lit, Bool.or_true, Bool.true_or, Bool.or_false, Bool.false_or, Bool.and_true, Bool.true_and, Bool.and_self, cond_true, cond_false, List.append_nil, Iv.eta, Option.map_none, idxO_l0, idxO_l1, decide_true, decide_false, reqs_true, Int.zero_sub, wrap_lit, wrapu_lit, Int.reduceLE, Int.reduceLT, Int.reduceAdd, Int.reduceSub, Int.reduceMul, Int.reduceNeg, Int.reduceEq, Option.bind_some, bin_shr_u64, bin_shl_u64, bin_shr_i64, bin_shl_i64, and_m32', Int.reduceToNat, Int.reducePow, Int.reduceMod, Int.reduceDiv, wrap_u64s, true_or, or_true, true_and, and_true, Option.isSome_none, Option.isSome_some, Nat.reduceLeDiff, Nat.reduceMul, Int.toNat_natCast, Int.cast_ofNat_Int, Int.natCast_zero, Int.natCast_one, List.isEmpty_nil, List.isEmpty_cons, List.replicate_zero, List.replicate_succ, T1, T2, T3, T4, T5, T6, T9, T10, T11, T12, T21, T22, T23, T24, T26, T27, T28, T29, T30, T31, T32, T33, T34, T35, T37, T38, T39, T40, T42, T43, T44, T45, T46, T47, T48, T50, T52, T54, T55, T56, T57, T58, T59, T60, T61, T62, T63, T64, T65, T66, T67, T68, T69, T70, T71, T72, T73, T75, T77, T78, T79, T80, T82, T83, T84, T85, T87, T89, T90, T91, T92, T95, T97, T103, T104, T105, T106, T107, T109, T110, l0, l3, c0, c1, c2, c3, bin_shl_si d64]
        repeat' (first | with_reducible refine cnd_split (fun hc => ?_) (fun hc => ?_) | with_reducible refine Reqs.mk ?_ ?_)
        all_goals (try simp only [decide_eq_true_eq, decide_eq_false_iff_not] at *)
        · cases f with
          | zero =>
            exfalso
            have := twD_stop hpre.1 0 64 (by omega)
            simp only [twD] at this
            have hd : d = 64 := by omega
            subst hd
            omega
          | succ f =>
            rw [twD, if_pos hc] at hs
            refine hX (f, d + 1) _ _ (Nat.lt_succ_self f) ⟨rfl, ?_, ?_, by simp only; omega, ?_, hs⟩
            · simp [look, l0]
            · simp [look]
            · simp only; rw [Int.pow_succ, ← Int.mul_assoc]; omega
        · refine endS_i (t := (tw n)) hr ?_
          rw [tw_neg hU, ← hs]
          cases f with
          | zero => rfl
          | succ f => rw [twD, if_neg hc]
  · cases hF

-- logat
theorem logA_w {n : Int} (h : within n 1 1152921504606846976 = false) : logA n = whole := by
  unfold logA
  rw [h]; rfl
theorem logA_in {n : Int} (h : within n 1 1152921504606846976 = true) : logA n = addI (lnI (tw n)) (widI (mulI (mulI (intI 2) (logZ n)) (logL 5 (sqrI (logZ n)) (quotI 1 11)))) := by
  unfold logA
  rw [if_pos h]

theorem up_in {n P : Int} (hn : 1 ≤ n ∧ n ≤ 1152921504606846976) (hP : 1 ≤ P := by exact Int.pow_pos (by omega)) : IntKind.i64.wrap (-(-n / P)) = -(-n / P) := by
  have h := (@quo_bd2 (-n) P (by omega)).2 (by omega)
  exact wrap_om (by omega) (by omega)
theorem twD_hi : ∀ (f : Nat) (n : Int) (d : Nat), d < twD f n d → n * 2 ^ (twD f n d - 1) < 3221225472
  | 0, n, d, h => by unfold twD at h; omega
  | f + 1, n, d, h => by
    unfold twD at h ⊢
    split at h
    · rename_i hc
      rw [if_pos hc]
      have hg := twD_ge f n (d + 1)
      by_cases h2 : d + 1 < twD f n (d + 1)
      · exact twD_hi f n (d + 1) h2
      · have : twD f n (d + 1) = d + 1 := by omega
        rw [this]; exact hc
    · omega

end Go.Proofs.YtcnapkdccjibpaaGreat.Eng
