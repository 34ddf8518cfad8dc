/- What functions of the program compute, and that the program computes it: part 21. -/
import Derived.Test.YtmkpilmlgjnadaaTab
import Derived.Test.YtmkpilmlgjnadaaEng15
import Derived.Laws.BitsLemmas
import Derived.Laws.Bits64
import Derived.Laws.Bits64b
import Derived.Lib.Mul64
import Derived.Lib.BitFns
import Derived.Laws.Externs
import Derived.Test.YtmkpilmlgjnadaaL1
import Derived.Test.YtmkpilmlgjnadaaL2
import Derived.Test.YtmkpilmlgjnadaaL4
import Derived.Test.YtmkpilmlgjnadaaL8
import Derived.Test.YtmkpilmlgjnadaaL9
import Derived.Test.YtmkpilmlgjnadaaL11
import Derived.Test.YtmkpilmlgjnadaaL13
import Derived.Test.YtmkpilmlgjnadaaL16
import Derived.Test.YtmkpilmlgjnadaaL17
import Derived.Test.YtmkpilmlgjnadaaL19
namespace Go.Proofs.Ytmkpilmlgjnadaa.Eng
open Go Go.RowKit
set_option linter.unusedVariables false
set_option linter.unusedSimpArgs false
set_option maxRecDepth 100000
set_option maxHeartbeats 1000000
-- exp
def expK (n : Int) : Int := (2 * n + 2977044472) / 5954088944
def expL : Nat → Iv → Iv → Iv
  | 0, _, p => p
  | i + 1, r, p => expL i r (addI (intI 1) (divI (mulI r p) (intI ((i + 1 : Nat) : Int))))
def widI (x : Iv) : Iv := if okI x then mkI (x.lo - 1) (x.hi + 1) else whole
def scaleI (x : Iv) (k : Int) : Iv := if 0 ≤ k then mkI (x.lo * 2 ^ k.toNat) (x.hi * 2 ^ k.toNat) else ⟨x.lo / 2 ^ (-k).toNat, -((-x.hi) / 2 ^ (-k).toNat)⟩
def expR (n : Int) : Iv := subI ⟨n, n⟩ (lnI (expK n))
def expP (n : Int) : Iv := expL 9 (expR n) (intI 1)
def expA (n : Int) : Iv := if fixOk n && decide (n ≤ 85899345920) then (if n < -98784247808 then ⟨0, 1⟩ else scaleI (widI (expP n)) (expK n)) else whole
def F_expA : FT
  | [.c (.p (.int .i64 n))], _ => some (True, .v (.agg [.int .i64 ((expA n)).lo, .int .i64 ((expA n)).hi]), [])
  | _, _ => none
theorem F_expA_eq {n : Int} {g : List PC} : F_expA [.c (.p (.int .i64 n))] g = some (True, .v (.agg [.int .i64 ((expA n)).lo, .int .i64 ((expA n)).hi]), []) := rfl
def F_widI : FT
  | [.agg [.int .i64 x1, .int .i64 x2], .c (.p (.int .i64 w))], _ => some (w = 1, .v (.agg [.int .i64 ((widI (Iv.mk x1 x2))).lo, .int .i64 ((widI (Iv.mk x1 x2))).hi]), [])
  | _, _ => none
theorem F_widI_eq {x1 : Int} {x2 : Int} {w : Int} {g : List PC} : F_widI [.agg [.int .i64 x1, .int .i64 x2], .c (.p (.int .i64 w))] g = some (w = 1, .v (.agg [.int .i64 ((widI (Iv.mk x1 x2))).lo, .int .i64 ((widI (Iv.mk x1 x2))).hi]), []) := rfl
def F_scaleI : FT
  | [.agg [.int .i64 x1, .int .i64 x2], .c (.p (.int .i64 k))], _ => some ((-9223372036854775808 < x1 ∧ 0 ≤ x1 ∧ x1 ≤ x2 ∧ x2 ≤ 8589934593) ∧ -40 ≤ k ∧ k ≤ 29, .v (.agg [.int .i64 ((scaleI (Iv.mk x1 x2) k)).lo, .int .i64 ((scaleI (Iv.mk x1 x2) k)).hi]), [])
  | _, _ => none
theorem F_scaleI_eq {x1 : Int} {x2 : Int} {k : Int} {g : List PC} : F_scaleI [.agg [.int .i64 x1, .int .i64 x2], .c (.p (.int .i64 k))] g = some ((-9223372036854775808 < x1 ∧ 0 ≤ x1 ∧ x1 ≤ x2 ∧ x2 ≤ 8589934593) ∧ -40 ≤ k ∧ k ≤ 29, .v (.agg [.int .i64 ((scaleI (Iv.mk x1 x2) k)).lo, .int .i64 ((scaleI (Iv.mk x1 x2) k)).hi]), []) := rfl
theorem expK_bd {n : Int} (h1 : -98784247808 ≤ n) (h2 : n ≤ 85899345920) : -33 ≤ expK n ∧ expK n ≤ 29 ∧ expK n * 5954088944 ≤ 2 * n + 2977044472 ∧ 2 * n + 2977044472 < expK n * 5954088944 + 5954088944 := by
  unfold expK; omega
theorem ln_bd {k : Int} (h : -33 ≤ k ∧ k ≤ 29) : okI (lnI k) = true ∧ k * 2977044472 - 64 ≤ (lnI k).lo ∧ (lnI k).hi ≤ k * 2977044472 + 64 := by
  unfold lnI
  rw [if_pos (by rw [within_iff]; omega)]
  by_cases h0 : k < 0
  · rw [if_pos h0]
    have h1 := @ln_in (-k) (by omega)
    unfold lnP at *
    simp only at *
    rw [okI_mk]; omega
  · rw [if_neg h0]
    have h1 := @ln_in k (by omega)
    unfold lnP at *
    simp only at *
    rw [okI_mk]; omega
theorem expR_bd {n : Int} (h1 : -98784247808 ≤ n) (h2 : n ≤ 85899345920) : okI (expR n) = true ∧ -1488700000 ≤ (expR n).lo ∧ (expR n).hi ≤ 1488700000 := by
  have hk := expK_bd h1 h2
  have hl := @ln_bd (expK n) (by omega)
  unfold expR
  generalize expK n = k at *
  have hb := okI_iff.1 hl.1
  have hs := @subI_bd ⟨n, n⟩ (lnI k) (by rw [okI_mk]; omega) hl.1 (by simp only; omega) (by simp only; omega)
  refine ⟨hs.2, ?_⟩
  rw [hs.1]
  simp only
  omega
theorem expL_bd : ∀ (i : Nat) (r p : Iv), i ≤ 9 → okI r = true → -1488700000 ≤ r.lo → r.hi ≤ 1488700000 → okI p = true → 1 ≤ p.lo → p.hi ≤ 8589934592 →
    okI (expL i r p) = true ∧ 1 ≤ (expL i r p).lo ∧ (expL i r p).hi ≤ 8589934592
  | 0, r, p, _, _, _, _, h1, h2, h3 => ⟨h1, h2, h3⟩
  | i + 1, r, p, hi, hr, r1, r2, h1, h2, h3 => by
    have hle := (okI_iff.1 h1).2.1
    have hrl := (okI_iff.1 hr).2.1
    have hm := @mulI_bd r p (-2977400000) 2977400000 hr h1 (fun x hx y hy => by
      have := @mul_abs x y 1488700000 8589934592 (by rcases hx with rfl | rfl <;> omega) (by rcases hx with rfl | rfl <;> omega) (by rcases hy with rfl | rfl <;> omega) (by rcases hy with rfl | rfl <;> omega)
      omega) (by omega) (by omega)
    have hd := @divI_bd (mulI r p) ((i + 1 : Nat) : Int) (-2977400000) 2977400000 hm.1 (by omega) (by omega) (by omega) (by omega) (by omega)
    have e1 : intI 1 = ⟨4294967296, 4294967296⟩ := rfl
    have hdl := (okI_iff.1 hd.1).2.1
    have ha := @addI_bd (intI 1) (divI (mulI r p) (intI ((i + 1 : Nat) : Int))) (by rw [e1]; rfl) hd.1 (by rw [e1]; simp only; omega) (by rw [e1]; simp only; omega)
    refine expL_bd i r _ (by omega) hr r1 r2 ha.2 ?_ ?_
    · rw [ha.1, e1]; simp only; omega
    · rw [ha.1, e1]; simp only; omega
theorem expP_bd {n : Int} (h1 : -98784247808 ≤ n) (h2 : n ≤ 85899345920) : okI (expP n) = true ∧ 1 ≤ (expP n).lo ∧ (expP n).hi ≤ 8589934592 := by
  have hr := expR_bd h1 h2
  exact expL_bd 9 _ _ (by omega) hr.1 hr.2.1 hr.2.2 rfl (by decide) (by decide)

-- scaleL
def dblL : Nat → Iv → Iv
  | 0, x => x
  | k + 1, x => dblL k (dblI x)
theorem dbl_mk {a b : Int} (h0 : 0 ≤ a) (h1 : a ≤ b) : dblI (mkI a b) = mkI (2 * a) (2 * b) := by
  rw [dbl_eq]
  unfold mkI
  by_cases h : okI ⟨a, b⟩ = true
  · rw [if_pos h, if_pos h]
  · rw [if_neg h, if_neg (by decide), if_neg]
    intro h2
    rw [okI_mk] at h2
    exact h (okI_mk.2 (by omega))
theorem dblL_mk : ∀ (k : Nat) (a b : Int), 0 ≤ a → a ≤ b → dblL k (mkI a b) = mkI (a * 2 ^ k) (b * 2 ^ k)
  | 0, a, b, _, _ => by simp [dblL]
  | k + 1, a, b, h0, h1 => by
    rw [dblL, dbl_mk h0 h1, dblL_mk k _ _ (by omega) (by omega), Int.pow_succ', ← Int.mul_assoc, ← Int.mul_assoc, Int.mul_comm 2 a, Int.mul_comm 2 b]
theorem scale_up {x : Iv} {k : Nat} (h : okI x = true) (h0 : 0 ≤ x.lo) : dblL k x = scaleI x (k : Int) := by
  have hx : x = mkI x.lo x.hi := (mkI_ok h).symm
  have hb := okI_iff.1 h
  unfold scaleI
  rw [if_pos (by omega), Int.toNat_natCast]
  conv => lhs; rw [hx]
  exact dblL_mk k _ _ h0 (by omega)
theorem pow2_bd {k : Nat} (h : k ≤ 29) : (1 : Int) ≤ 2 ^ k ∧ (2 : Int) ^ k ≤ 536870912 := by
  refine ⟨Int.pow_pos (by omega), ?_⟩
  have : 2 ^ k ≤ 2 ^ 29 := Nat.pow_le_pow_right (by omega) h
  have : ((2 ^ k : Nat) : Int) ≤ ((2 ^ 29 : Nat) : Int) := by omega
  simpa using this

-- twos
def twU : Nat → Int → Nat → Nat
  | 0, _, e => e
  | f + 1, n, e => if 6442450944 ≤ n / 2 ^ e then twU f n (e + 1) else e
def twD : Nat → Int → Nat → Nat
  | 0, _, d => d
  | f + 1, n, d => if n * 2 ^ d < 3221225472 then twD f n (d + 1) else d
def tw (n : Int) : Int := if 0 < twU 64 n 0 then (twU 64 n 0 : Int) else -(twD 64 n 0 : Int)
def logM (n : Int) : Iv := if 0 < tw n then ⟨n / 2 ^ (tw n).toNat, -((-n) / 2 ^ (tw n).toNat)⟩ else ⟨n * 2 ^ (-tw n).toNat, n * 2 ^ (-tw n).toNat⟩
def logL : Nat → Iv → Iv → Iv
  | 0, _, p => p
  | j + 1, q, p => logL j q (addI (quotI 1 (2 * (j : Int) + 1)) (mulI q p))
def logZ (n : Int) : Iv := divI (subI (logM n) (intI 1)) (addI (logM n) (intI 1))
def logA (n : Int) : Iv := if within n 1 1152921504606846976 then addI (lnI (tw n)) (widI (mulI (mulI (intI 2) (logZ n)) (logL 5 (sqrI (logZ n)) (quotI 1 11)))) else whole
def F_tw : FT
  | [.c (.p (.int .i64 n))], _ => some (1 ≤ n ∧ n ≤ 1152921504606846976, .v (.c (.p (.int .i64 (tw n)))), [])
  | _, _ => none
theorem F_tw_eq {n : Int} {g : List PC} : F_tw [.c (.p (.int .i64 n))] g = some (1 ≤ n ∧ n ≤ 1152921504606846976, .v (.c (.p (.int .i64 (tw n)))), []) := rfl
def F_logA : FT
  | [.c (.p (.int .i64 n))], _ => some (True, .v (.agg [.int .i64 ((logA n)).lo, .int .i64 ((logA n)).hi]), [])
  | _, _ => none
theorem F_logA_eq {n : Int} {g : List PC} : F_logA [.c (.p (.int .i64 n))] g = some (True, .v (.agg [.int .i64 ((logA n)).lo, .int .i64 ((logA n)).hi]), []) := rfl
/-- Halving stops where it stops: what the first loop has come to. -/
theorem twU_stop {n : Int} (hn : 1 ≤ n ∧ n ≤ 1152921504606846976) : ∀ (f e : Nat), 28 ≤ e + f → n / 2 ^ (twU f n e) < 6442450944
  | 0, e, h => by
    unfold twU
    have h28 : 28 ≤ e := by omega
    have hp : (2 : Int) ^ 28 ≤ 2 ^ e := by
      have : 2 ^ 28 ≤ 2 ^ e := Nat.pow_le_pow_right (by omega) h28
      have : ((2 ^ 28 : Nat) : Int) ≤ ((2 ^ e : Nat) : Int) := by omega
      simpa using this
    have hP : (0 : Int) < 2 ^ e := Int.pow_pos (by omega)
    refine Int.ediv_lt_of_lt_mul hP ?_
    have := Int.mul_le_mul_of_nonneg_left hp (show (0 : Int) ≤ 6442450944 by omega)
    omega
  | f + 1, e, h => by
    unfold twU
    split
    · exact twU_stop hn f (e + 1) (by omega)
    · omega
theorem twU_ge : ∀ (f : Nat) (n : Int) (e : Nat), e ≤ twU f n e ∧ twU f n e ≤ e + f
  | 0, n, e => by unfold twU; omega
  | f + 1, n, e => by
    unfold twU
    have := twU_ge f n (e + 1)
    split <;> omega
theorem twU_lo : ∀ (f : Nat) (n : Int) (e : Nat), e < twU f n e → 6442450944 ≤ n / 2 ^ (twU f n e - 1)
  | 0, n, e, h => by unfold twU at h; omega
  | f + 1, n, e, h => by
    unfold twU at h ⊢
    split at h
    · rename_i hc
      rw [if_pos hc]
      have hg := twU_ge f n (e + 1)
      by_cases h2 : e + 1 < twU f n (e + 1)
      · exact twU_lo f n (e + 1) h2
      · have : twU f n (e + 1) = e + 1 := by omega
        rw [this]; exact hc
    · omega
theorem twD_ge : ∀ (f : Nat) (n : Int) (d : Nat), d ≤ twD f n d ∧ twD f n d ≤ d + f
  | 0, n, e => by unfold twD; omega
  | f + 1, n, e => by
    unfold twD
    have := twD_ge f n (e + 1)
    split <;> omega
theorem twD_stop {n : Int} (hn : 1 ≤ n) : ∀ (f d : Nat), 32 ≤ d + f → 3221225472 ≤ n * 2 ^ (twD f n d)
  | 0, e, h => by
    unfold twD
    have hp : (2 : Int) ^ 32 ≤ 2 ^ e := by
      have : 2 ^ 32 ≤ 2 ^ e := Nat.pow_le_pow_right (by omega) (by omega)
      have : ((2 ^ 32 : Nat) : Int) ≤ ((2 ^ e : Nat) : Int) := by omega
      simpa using this
    have h2 := Int.mul_le_mul hn hp (by omega) (by omega)
    omega
  | f + 1, e, h => by
    unfold twD
    split
    · exact twD_stop hn f (e + 1) (by omega)
    · omega

-- widen
theorem mkI_no {a b : Int} (h : okI (mkI a b) = false) : mkI a b = whole := by
  unfold mkI at *
  split at h
  · rename_i h1; rw [h1] at h; cases h
  · rename_i h1; rw [if_neg h1]
theorem widI_in {x1 x2 : Int} (h : okI ⟨x1, x2⟩ = true) : IntKind.i64.wrap (x1 - 1) = x1 - 1 ∧ IntKind.i64.wrap (x2 + 1) = x2 + 1 ∧ widI ⟨x1, x2⟩ = mkI (x1 - 1) (x2 + 1) := by
  have hb := okI_mk.1 h
  refine ⟨wrap_om (by omega) (by omega), wrap_om (by omega) (by omega), ?_⟩
  unfold widI
  rw [if_pos h]
theorem widI_no {x : Iv} (h : okI x = false) : widI x = whole := by
  unfold widI
  rw [h]; rfl

-- impl.widened
theorem impl_widened_widI_ok : Fn Try.prog 48 F_widI := by
  refine fn_of_go (O := orc [⟨81, F_bounded, .inl impl_bounded_bounded_ok⟩, ⟨91, F_okI, .inl impl_ValidInterval_okI_ok⟩]) mixed T_ok (orc_sound _) Try.func48 (by kernel_rfl) rfl Try.ntmps48 (by kernel_rfl) Try.results48 ?_
  intro args g pre r new hF hpre
  unfold F_widI at hF
  split at hF
  · rename_i x1 x2 w
    simp only [Option.some.injEq, Prod.mk.injEq] at hF
    obtain ⟨rfl, hr, rfl⟩ := hF
    refine ⟨by simp, ?_⟩
    subst hpre
    try simp (config := { maxSteps := 4000000, implicitDefEqProofs := false }) only [F_bounded_eq, F_okI_eq, go_seq', go_reg, go_draw, rest_n, rest_r, rest_e, go_cond, go_block, go_ret_, go_skip, go_exit, blockK_n, blockK_r, blockK_e, ops_nil, ops_gate, ops_move, ops_assign, ops_pick, ops_box, ops_load, ops_store, ops_bin, ops_un, ops_conv, ops_fieldAddr, ops_extract, ops_call, ops_alloc, ops_build, st1_some, stH_some, reqO_some, cndO_some, putE_some, putE_none, tell_some, look_hit, look_miss, opd_tmp, opd_int, opd_bool, opd_func, opd_txt, up_v, up_tup, up_agg, up_p, up_clo, up_ptr, up_own, List.map_cons, List.map_nil, Nat.add_zero, opd_nsl, opd_nf, opdA_eq, opdP_eq, toA_v, toP_v, sp_eq, cells_p, cells_agg, cellsOf_p, cellsOf_agg, boxO_some, loadO_own, loadC_int, loadC_bool, loadC_pair, storeO_own, storeC_0, storeC_1, storeC_2, storeC_c, size_int, size_bool, size_pair, faddr_0, faddr_1, conv_int, un_not, un_neg, un_xor, ext_0, ext_1, ext_2, max_v, min_v, bin_add, bin_sub, bin_mul, bin_and, bin_or, bin_xor, bin_eql, bin_neq, bin_lss, bin_leq, bin_gtr, bin_geq, grd_b, grd_u, slotV_some, gateP_eq, gateO_some, asBoolS_b, slotOf_tmp, gslot_0, gslot_s, beq_t, beq_f, ↓cnd_t, ↓cnd_f, cnd_not, callR_eq, calleeO_fn, capsA_nil, capsA_cons, trArgs_nil, trArgs_agg, trArgs_p, trArgs_ptr, ptrT_some, trArgs_clo, cloT_some, consT_some, trPts_nil, trPts_cons, ptsT_some, consP_some, loadCell_own, loadCell_giv, calleeO_clo, tellO_some, argsA_nil, argsA_cons, consO_some, orc_cons, ends_r, ends_n, resAll_nil, resAll_cons, resV_tmp, resV_cell, resC_own, cellV_pair, cellV_int, startEnv, Option.map_some, List.length_nil, List.length_cons, List.nil_append, List.cons_append, List.getElem?_cons_zero, List.getElem?_cons_succ, List.set_cons_zero, List.set_cons_succ, Bool.not_true, Bool.not_false, reduceIte, Nat.reduceEqDiff, Nat.reduceAdd, Nat.reduceLT, partsP_cons, partsP_nil, conP_some, dr_nil, dr_move, dr_assign, dr_box, dr_load, dr_bin, dr_un, dr_conv, dr_fieldAddr, dr_extract, dr_call, dr_alloc, dr_index, dr_indexAddr, dr_build, dr_buildSlice, dr_makeFunc, dr_store, drawN_p, drawN_g, drawE_s, ifS_t, isW_nil, isW_cons, boxOf_own, boxOf_giv, otherB_s, otherB_n, spares_s, spares_n, ldAt_0, ldAt_s, pure_fieldAddr, pure_field, pure_indexAddr, pure_index, pure_load, pure_call, pure_store, pure_alloc, pure_box, pure_build, dr_field, dr_pick, ops_field, field_0, field_1, okA_nil, okA_cons, headW_nil, headW_cons, headH_nil, headH_cons, bindsA_nil, bindsA_cons, waitsA_nil, waitsA_cons, allWait_0, allWait_s, pure_0, pure_s, pure_move, pure_assign, pure_bin, pure_un, pure_conv, pure_ext, binds_data, binds_chain, binds_guard, binds_phase, binds_text, binds_gc, heapA_nil, heapA_cons, sameLen_self, sameLen_nil, sameLen_cons, sameLen_l, sameLen_set, entries_nil, entries_cons, entC_f, entC_t, entC_n, dstsOf_nil, dstsOf_some, dstsOf_no, valsEnv_nil, valsEnv_some, valsEnv_none, ops_index, ops_indexAddr, ops_buildSlice, blt_lit, beq_lit, Bool.or_true, Bool.true_or, Bool.or_false, Bool.false_or, Bool.and_true, Bool.true_and, Bool.and_self, cond_true, cond_false, List.append_nil, Iv.eta, Option.map_none, alloc_eq, alloc_pair', alloc_int, alloc_bool, build_eq, buildO_01, buildO_0, buildO_1, buildO_n, buildO_a, bsl_eq, idx_eq, idxO_l0, idxO_l1, iad_eq, binP_eql', binP_neq', binB_eql', binB_neq', eqT_pt, eqT_pf, eqT_bt, eqT_bf, decide_true, decide_false, seqK_n, seqK_r, seqK_e, loopK_n, loopK_r, loopK_e, reqs_true, Int.zero_sub, wrap_lit, wrapu_lit, Int.reduceLE, Int.reduceLT, Int.reduceAdd, Int.reduceSub, Int.reduceMul, Int.reduceNeg, Int.reduceEq, ops_makeFunc, makeFunc_eq, ptrsO_some, ptrsOf_nil, ptrsOf_cons, consQ_some, funcV_nil, funcV_cons, Option.bind_some, loadO_giv, bin_shr_u64, bin_shl_u64, bin_shr_i64, bin_shl_i64, and_m32', Int.reduceToNat, Int.reducePow, Int.reduceMod, Int.reduceDiv, wrap_u64s, true_or, or_true, true_and, and_true, callX_some, mX_none, mX_some, orc_m, orcM_m, orcMs_nil, orcMs_cons, tellM_some, growO_nil, growO_cons, stC_some, ops_max, ops_min, ops_len, ops_append, ops_makeSlice, ops_slice, dr_max, dr_min, dr_len, dr_append, dr_makeSlice, dr_slice, gl_eq, loadO_abs, drawF_s, cellK_some, drawC_t, drawC_f, isMC_fn, isMC_clo, Option.isSome_none, Option.isSome_some, fillA_nil, fillA_cons, flA_nil, flA_cons, fillT_nil, fillT_cons, bindsNone_nil, bindsNone_cons, frees_nil, frees_cons, free_alloc, free_box, free_bsl, free_move, free_assign, free_load, free_store, free_bin, free_un, free_conv, free_fieldAddr, free_field, free_ext, free_call, free_iad, free_idx, free_build, free_mkf, free_pick, free_mks, free_slice, spares_a, otherT_s, otherT_n, ble_lit, Nat.reduceLeDiff, Nat.reduceMul, Int.toNat_natCast, Int.cast_ofNat_Int, Int.natCast_zero, Int.natCast_one, partsA_nil, partsA_cons, conA_some, inOrd_nil, inOrd_cons, flatP_nil, flatP_cons, rowN_0, rowN_s, bslO_row, bslO_0, mks_eq, intO_int, slc_eq, optI_none, optI_some, optP_int, app_eq, len_row, len_sl, len_emp, lenO_some, row_row, row_ez, row_size, row_agg, pair_agg, int_agg, one_agg, bool_agg, str_agg, iadO_row, iadO_sl, endsM_r, endsM_n, List.isEmpty_nil, List.isEmpty_cons, List.replicate_zero, List.replicate_succ, T1, T2, T3, T4, T5, T6, T9, T10, T11, T12, T21, T22, T23, T24, T25, T26, T27, T28, T29, T30, T31, T32, T33, T34, T35, T36, T37, T38, T39, T40, T42, T43, T44, T45, T46, T47, T48, T50, T51, T52, T53, T54, T55, T56, T57, T58, T59, T61, T62, T63, T65, T67, T69, T70, T71, T72, T75, T77, T83, T84, T85, T86, T87, T89, T90]
    repeat' (first | with_reducible refine cnd_split (fun hc => ?_) (fun hc => ?_) | with_reducible refine Reqs.mk ?_ ?_)
    all_goals first
      | trivial
      | (refine endS_v (t := (widI (Iv.mk x1 x2))) hr ?_
         cases h : okI ⟨x1, x2⟩ with
         | true =>
           have hw := widI_in h
           rw [hw.1, hw.2.1, hw.2.2, if_pos rfl]
         | false => rw [widI_no h, if_neg (by simp)])
  · cases hF

-- spec.l08Widen
theorem spec_l08Widen_widI_ok : Fn Try.prog 37 F_widI := by
  refine fn_of_go (O := orc [⟨27, F_whole, .inl spec_l04Whole_whole_ok⟩, ⟨49, F_okI, .inl spec_l04Ok_okI_ok⟩, ⟨68, F_mkI, .inl spec_l04Make_mkI_ok⟩]) mixed T_ok (orc_sound _) Try.func37 (by kernel_rfl) rfl Try.ntmps37 (by kernel_rfl) Try.results37 ?_
  intro args g pre r new hF hpre
  unfold F_widI at hF
  split at hF
  · rename_i x1 x2 w
    simp only [Option.some.injEq, Prod.mk.injEq] at hF
    obtain ⟨rfl, hr, rfl⟩ := hF
    refine ⟨by simp, ?_⟩
    subst hpre
    try simp (config := { maxSteps := 4000000, implicitDefEqProofs := false }) only [F_mkI_eq, F_okI_eq, F_whole_eq, go_seq', go_reg, go_draw, rest_n, rest_r, rest_e, go_cond, go_block, go_ret_, go_skip, go_exit, blockK_n, blockK_r, blockK_e, ops_nil, ops_gate, ops_move, ops_assign, ops_pick, ops_box, ops_load, ops_store, ops_bin, ops_un, ops_conv, ops_fieldAddr, ops_extract, ops_call, ops_alloc, ops_build, st1_some, stH_some, reqO_some, cndO_some, putE_some, putE_none, tell_some, look_hit, look_miss, opd_tmp, opd_int, opd_bool, opd_func, opd_txt, up_v, up_tup, up_agg, up_p, up_clo, up_ptr, up_own, List.map_cons, List.map_nil, Nat.add_zero, opd_nsl, opd_nf, opdA_eq, opdP_eq, toA_v, toP_v, sp_eq, cells_p, cells_agg, cellsOf_p, cellsOf_agg, boxO_some, loadO_own, loadC_int, loadC_bool, loadC_pair, storeO_own, storeC_0, storeC_1, storeC_2, storeC_c, size_int, size_bool, size_pair, faddr_0, faddr_1, conv_int, un_not, un_neg, un_xor, ext_0, ext_1, ext_2, max_v, min_v, bin_add, bin_sub, bin_mul, bin_and, bin_or, bin_xor, bin_eql, bin_neq, bin_lss, bin_leq, bin_gtr, bin_geq, grd_b, grd_u, slotV_some, gateP_eq, gateO_some, asBoolS_b, slotOf_tmp, gslot_0, gslot_s, beq_t, beq_f, ↓cnd_t, ↓cnd_f, cnd_not, callR_eq, calleeO_fn, capsA_nil, capsA_cons, trArgs_nil, trArgs_agg, trArgs_p, trArgs_ptr, ptrT_some, trArgs_clo, cloT_some, consT_some, trPts_nil, trPts_cons, ptsT_some, consP_some, loadCell_own, loadCell_giv, calleeO_clo, tellO_some, argsA_nil, argsA_cons, consO_some, orc_cons, ends_r, ends_n, resAll_nil, resAll_cons, resV_tmp, resV_cell, resC_own, cellV_pair, cellV_int, startEnv, Option.map_some, List.length_nil, List.length_cons, List.nil_append, List.cons_append, List.getElem?_cons_zero, List.getElem?_cons_succ, List.set_cons_zero, List.set_cons_succ, Bool.not_true, Bool.not_false, reduceIte, Nat.reduceEqDiff, Nat.reduceAdd, Nat.reduceLT, partsP_cons, partsP_nil, conP_some, dr_nil, dr_move, dr_assign, dr_box, dr_load, dr_bin, dr_un, dr_conv, dr_fieldAddr, dr_extract, dr_call, dr_alloc, dr_index, dr_indexAddr, dr_build, dr_buildSlice, dr_makeFunc, dr_store, drawN_p, drawN_g, drawE_s, ifS_t, isW_nil, isW_cons, boxOf_own, boxOf_giv, otherB_s, otherB_n, spares_s, spares_n, ldAt_0, ldAt_s, pure_fieldAddr, pure_field, pure_indexAddr, pure_index, pure_load, pure_call, pure_store, pure_alloc, pure_box, pure_build, dr_field, dr_pick, ops_field, field_0, field_1, okA_nil, okA_cons, headW_nil, headW_cons, headH_nil, headH_cons, bindsA_nil, bindsA_cons, waitsA_nil, waitsA_cons, allWait_0, allWait_s, pure_0, pure_s, pure_move, pure_assign, pure_bin, pure_un, pure_conv, pure_ext, binds_data, binds_chain, binds_guard, binds_phase, binds_text, binds_gc, heapA_nil, heapA_cons, sameLen_self, sameLen_nil, sameLen_cons, sameLen_l, sameLen_set, entries_nil, entries_cons, entC_f, entC_t, entC_n, dstsOf_nil, dstsOf_some, dstsOf_no, valsEnv_nil, valsEnv_some, valsEnv_none, ops_index, ops_indexAddr, ops_buildSlice, blt_lit, beq_lit, Bool.or_true, Bool.true_or, Bool.or_false, Bool.false_or, Bool.and_true, Bool.true_and, Bool.and_self, cond_true, cond_false, List.append_nil, Iv.eta, Option.map_none, alloc_eq, alloc_pair', alloc_int, alloc_bool, build_eq, buildO_01, buildO_0, buildO_1, buildO_n, buildO_a, bsl_eq, idx_eq, idxO_l0, idxO_l1, iad_eq, binP_eql', binP_neq', binB_eql', binB_neq', eqT_pt, eqT_pf, eqT_bt, eqT_bf, decide_true, decide_false, seqK_n, seqK_r, seqK_e, loopK_n, loopK_r, loopK_e, reqs_true, Int.zero_sub, wrap_lit, wrapu_lit, Int.reduceLE, Int.reduceLT, Int.reduceAdd, Int.reduceSub, Int.reduceMul, Int.reduceNeg, Int.reduceEq, ops_makeFunc, makeFunc_eq, ptrsO_some, ptrsOf_nil, ptrsOf_cons, consQ_some, funcV_nil, funcV_cons, Option.bind_some, loadO_giv, bin_shr_u64, bin_shl_u64, bin_shr_i64, bin_shl_i64, and_m32', Int.reduceToNat, Int.reducePow, Int.reduceMod, Int.reduceDiv, wrap_u64s, true_or, or_true, true_and, and_true, callX_some, mX_none, mX_some, orc_m, orcM_m, orcMs_nil, orcMs_cons, tellM_some, growO_nil, growO_cons, stC_some, ops_max, ops_min, ops_len, ops_append, ops_makeSlice, ops_slice, dr_max, dr_min, dr_len, dr_append, dr_makeSlice, dr_slice, gl_eq, loadO_abs, drawF_s, cellK_some, drawC_t, drawC_f, isMC_fn, isMC_clo, Option.isSome_none, Option.isSome_some, fillA_nil, fillA_cons, flA_nil, flA_cons, fillT_nil, fillT_cons, bindsNone_nil, bindsNone_cons, frees_nil, frees_cons, free_alloc, free_box, free_bsl, free_move, free_assign, free_load, free_store, free_bin, free_un, free_conv, free_fieldAddr, free_field, free_ext, free_call, free_iad, free_idx, free_build, free_mkf, free_pick, free_mks, free_slice, spares_a, otherT_s, otherT_n, ble_lit, Nat.reduceLeDiff, Nat.reduceMul, Int.toNat_natCast, Int.cast_ofNat_Int, Int.natCast_zero, Int.natCast_one, partsA_nil, partsA_cons, conA_some, inOrd_nil, inOrd_cons, flatP_nil, flatP_cons, rowN_0, rowN_s, bslO_row, bslO_0, mks_eq, intO_int, slc_eq, optI_none, optI_some, optP_int, app_eq, len_row, len_sl, len_emp, lenO_some, row_row, row_ez, row_size, row_agg, pair_agg, int_agg, one_agg, bool_agg, str_agg, iadO_row, iadO_sl, endsM_r, endsM_n, List.isEmpty_nil, List.isEmpty_cons, List.replicate_zero, List.replicate_succ, T1, T2, T3, T4, T5, T6, T9, T10, T11, T12, T21, T22, T23, T24, T25, T26, T27, T28, T29, T30, T31, T32, T33, T34, T35, T36, T37, T38, T39, T40, T42, T43, T44, T45, T46, T47, T48, T50, T51, T52, T53, T54, T55, T56, T57, T58, T59, T61, T62, T63, T65, T67, T69, T70, T71, T72, T75, T77, T83, T84, T85, T86, T87, T89, T90]
    repeat' (first | with_reducible refine cnd_split (fun hc => ?_) (fun hc => ?_) | with_reducible refine Reqs.mk ?_ ?_)
    all_goals first
      | trivial
      | (refine endS_v (t := (widI (Iv.mk x1 x2))) hr ?_
         have hw := widI_in (by assumption)
         rw [hw.1, hw.2.1, hw.2.2])
      | (refine endS_v (t := (widI (Iv.mk x1 x2))) hr ?_; rw [widI_no (by assumption)])
  · cases hF

-- shifts
theorem bin_shr_si {T : Tab} {t : Nat} {k' : IntKind} {a : Int} {s : Nat} (hs : s ≤ 64) : binO T .shr t (some (.c (.p (.int .i64 a)))) (some (.c (.p (.int k' (s : Int))))) = some (sp (.int .i64 (a / 2 ^ s))) := by
  have hb : IntKind.i64.bits = 64 := rfl
  rw [bin_shr (by omega), hb, Int.toNat_natCast, Nat.min_eq_left hs, Int.fdiv_eq_ediv_of_nonneg]
  exact Int.le_of_lt (Int.pow_pos (by omega))
theorem bin_shl_si {T : Tab} {t : Nat} {k' : IntKind} {a : Int} {s : Nat} (hs : s ≤ 64) : binO T .shl t (some (.c (.p (.int .i64 a)))) (some (.c (.p (.int k' (s : Int))))) = some (sp (.int .i64 (IntKind.i64.wrap (a * 2 ^ s)))) := by
  have hb : IntKind.i64.bits = 64 := rfl
  rw [bin_shl (by omega), hb, Int.toNat_natCast, Nat.min_eq_left hs]
theorem down_up {a b P : Int} (hP : 1 ≤ P) (h0 : 0 ≤ a) (h : a ≤ b) (hb : b < 1152921504606846976) : 0 ≤ a / P ∧ a / P ≤ -(-b / P) ∧ -(-b / P) ≤ b := by
  have q1 := (@quo_bd2 a P (by omega)).1 h0
  have q2 : -b ≤ -b / P := by
    by_cases hb0 : b = 0
    · rw [hb0]; simp
    · exact ((@quo_bd2 (-b) P (by omega)).2 (by omega)).1
  refine ⟨q1.1, ?_, by omega⟩
  have e1 := Int.ediv_mul_add_emod a P
  have e2 := Int.ediv_mul_add_emod (-b) P
  have r1 := Int.emod_nonneg a (show P ≠ 0 by omega)
  have r2 := Int.emod_nonneg (-b) (show P ≠ 0 by omega)
  have : (a / P + -b / P) * P ≤ 0 := by rw [Int.add_mul]; omega
  have : a / P + -b / P ≤ 0 := by
    apply Int.le_of_not_gt
    intro hg
    have := Int.mul_pos hg (show 0 < P by omega)
    omega
  omega
theorem scale_0 {x1 x2 : Int} (h : okI ⟨x1, x2⟩ = true) : scaleI ⟨x1, x2⟩ 0 = ⟨x1, x2⟩ := by
  unfold scaleI
  rw [if_pos (by omega)]
  simp only [Int.toNat_zero, Int.pow_zero, Int.mul_one]
  exact mkI_ok h
theorem scale_neg {x1 x2 k : Int} {s : Nat} (hk : k < 0) (hs : -k = s) : scaleI ⟨x1, x2⟩ k = ⟨x1 / 2 ^ s, -(-x2 / 2 ^ s)⟩ := by
  unfold scaleI
  have : (-k).toNat = s := by omega
  rw [if_neg (by omega), this]

-- impl.scaled
theorem impl_scaled_scaleI_ok : Fn Try.prog 47 F_scaleI := by
  refine fn_of_go (O := orc [⟨39, F_whole, .inl impl_Whole_whole_ok⟩, ⟨89, F_dblI, .inl impl_DoubleI_dblI_ok⟩, ⟨90, F_notOk, .inl impl_IsWhole_notOk_ok⟩]) mixed T_ok (orc_sound _) Try.func47 (by kernel_rfl) rfl Try.ntmps47 (by kernel_rfl) Try.results47 ?_
  intro args g pre r new hF hpre
  unfold F_scaleI at hF
  split at hF
  · rename_i x1 x2 k
    simp only [Option.some.injEq, Prod.mk.injEq] at hF
    obtain ⟨rfl, hr, rfl⟩ := hF
    refine ⟨by simp, ?_⟩
    simp (config := { maxSteps := 4000000, implicitDefEqProofs := false }) only [F_dblI_eq, F_notOk_eq, F_whole_eq, go_seq', go_reg, go_draw, rest_n, rest_r, rest_e, go_cond, go_block, go_ret_, go_skip, go_exit, blockK_n, blockK_r, blockK_e, ops_nil, ops_gate, ops_move, ops_assign, ops_pick, ops_box, ops_load, ops_store, ops_bin, ops_un, ops_conv, ops_fieldAddr, ops_extract, ops_call, ops_alloc, ops_build, st1_some, stH_some, reqO_some, cndO_some, putE_some, putE_none, tell_some, look_hit, look_miss, opd_tmp, opd_int, opd_bool, opd_func, opd_txt, up_v, up_tup, up_agg, up_p, up_clo, up_ptr, up_own, List.map_cons, List.map_nil, Nat.add_zero, opd_nsl, opd_nf, opdA_eq, opdP_eq, toA_v, toP_v, sp_eq, cells_p, cells_agg, cellsOf_p, cellsOf_agg, boxO_some, loadO_own, loadC_int, loadC_bool, loadC_pair, storeO_own, storeC_0, storeC_1, storeC_2, storeC_c, size_int, size_bool, size_pair, faddr_0, faddr_1, conv_int, un_not, un_neg, un_xor, ext_0, ext_1, ext_2, max_v, min_v, bin_add, bin_sub, bin_mul, bin_and, bin_or, bin_xor, bin_eql, bin_neq, bin_lss, bin_leq, bin_gtr, bin_geq, grd_b, grd_u, slotV_some, gateP_eq, gateO_some, asBoolS_b, slotOf_tmp, gslot_0, gslot_s, beq_t, beq_f, ↓cnd_t, ↓cnd_f, cnd_not, callR_eq, calleeO_fn, capsA_nil, capsA_cons, trArgs_nil, trArgs_agg, trArgs_p, trArgs_ptr, ptrT_some, trArgs_clo, cloT_some, consT_some, trPts_nil, trPts_cons, ptsT_some, consP_some, loadCell_own, loadCell_giv, calleeO_clo, tellO_some, argsA_nil, argsA_cons, consO_some, orc_cons, ends_r, ends_n, resAll_nil, resAll_cons, resV_tmp, resV_cell, resC_own, cellV_pair, cellV_int, startEnv, Option.map_some, List.length_nil, List.length_cons, List.nil_append, List.cons_append, List.getElem?_cons_zero, List.getElem?_cons_succ, List.set_cons_zero, List.set_cons_succ, Bool.not_true, Bool.not_false, reduceIte, Nat.reduceEqDiff, Nat.reduceAdd, Nat.reduceLT, partsP_cons, partsP_nil, conP_some, dr_nil, dr_move, dr_assign, dr_box, dr_load, dr_bin, dr_un, dr_conv, dr_fieldAddr, dr_extract, dr_call, dr_alloc, dr_index, dr_indexAddr, dr_build, dr_buildSlice, dr_makeFunc, dr_store, drawN_p, drawN_g, drawE_s, ifS_t, isW_nil, isW_cons, boxOf_own, boxOf_giv, otherB_s, otherB_n, spares_s, spares_n, ldAt_0, ldAt_s, pure_fieldAddr, pure_field, pure_indexAddr, pure_index, pure_load, pure_call, pure_store, pure_alloc, pure_box, pure_build, dr_field, dr_pick, ops_field, field_0, field_1, okA_nil, okA_cons, headW_nil, headW_cons, headH_nil, headH_cons, bindsA_nil, bindsA_cons, waitsA_nil, waitsA_cons, allWait_0, allWait_s, pure_0, pure_s, pure_move, pure_assign, pure_bin, pure_un, pure_conv, pure_ext, binds_data, binds_chain, binds_guard, binds_phase, binds_text, binds_gc, heapA_nil, heapA_cons, sameLen_self, sameLen_nil, sameLen_cons, sameLen_l, sameLen_set, entries_nil, entries_cons, entC_f, entC_t, entC_n, dstsOf_nil, dstsOf_some, dstsOf_no, valsEnv_nil, valsEnv_some, valsEnv_none, ops_index, ops_indexAddr, ops_buildSlice, blt_lit, beq_lit, Bool.or_true, Bool.true_or, Bool.or_false, Bool.false_or, Bool.and_true, Bool.true_and, Bool.and_self, cond_true, cond_false, List.append_nil, Iv.eta, Option.map_none, alloc_eq, alloc_pair', alloc_int, alloc_bool, build_eq, buildO_01, buildO_0, buildO_1, buildO_n, buildO_a, bsl_eq, idx_eq, idxO_l0, idxO_l1, iad_eq, binP_eql', binP_neq', binB_eql', binB_neq', eqT_pt, eqT_pf, eqT_bt, eqT_bf, decide_true, decide_false, seqK_n, seqK_r, seqK_e, loopK_n, loopK_r, loopK_e, reqs_true, Int.zero_sub, wrap_lit, wrapu_lit, Int.reduceLE, Int.reduceLT, Int.reduceAdd, Int.reduceSub, Int.reduceMul, Int.reduceNeg, Int.reduceEq, ops_makeFunc, makeFunc_eq, ptrsO_some, ptrsOf_nil, ptrsOf_cons, consQ_some, funcV_nil, funcV_cons, Option.bind_some, loadO_giv, bin_shr_u64, bin_shl_u64, bin_shr_i64, bin_shl_i64, and_m32', Int.reduceToNat, Int.reducePow, Int.reduceMod, Int.reduceDiv, wrap_u64s, true_or, or_true, true_and, and_true, callX_some, mX_none, mX_some, orc_m, orcM_m, orcMs_nil, orcMs_cons, tellM_some, growO_nil, growO_cons, stC_some, ops_max, ops_min, ops_len, ops_append, ops_makeSlice, ops_slice, dr_max, dr_min, dr_len, dr_append, dr_makeSlice, dr_slice, gl_eq, loadO_abs, drawF_s, cellK_some, drawC_t, drawC_f, isMC_fn, isMC_clo, Option.isSome_none, Option.isSome_some, fillA_nil, fillA_cons, flA_nil, flA_cons, fillT_nil, fillT_cons, bindsNone_nil, bindsNone_cons, frees_nil, frees_cons, free_alloc, free_box, free_bsl, free_move, free_assign, free_load, free_store, free_bin, free_un, free_conv, free_fieldAddr, free_field, free_ext, free_call, free_iad, free_idx, free_build, free_mkf, free_pick, free_mks, free_slice, spares_a, otherT_s, otherT_n, ble_lit, Nat.reduceLeDiff, Nat.reduceMul, Int.toNat_natCast, Int.cast_ofNat_Int, Int.natCast_zero, Int.natCast_one, partsA_nil, partsA_cons, conA_some, inOrd_nil, inOrd_cons, flatP_nil, flatP_cons, rowN_0, rowN_s, bslO_row, bslO_0, mks_eq, intO_int, slc_eq, optI_none, optI_some, optP_int, app_eq, len_row, len_sl, len_emp, lenO_some, row_row, row_ez, row_size, row_agg, pair_agg, int_agg, one_agg, bool_agg, str_agg, iadO_row, iadO_sl, endsM_r, endsM_n, List.isEmpty_nil, List.isEmpty_cons, List.replicate_zero, List.replicate_succ, T1, T2, T3, T4, T5, T6, T9, T10, T11, T12, T21, T22, T23, T24, T25, T26, T27, T28, T29, T30, T31, T32, T33, T34, T35, T36, T37, T38, T39, T40, T42, T43, T44, T45, T46, T47, T48, T50, T51, T52, T53, T54, T55, T56, T57, T58, T59, T61, T62, T63, T65, T67, T69, T70, T71, T72, T75, T77, T83, T84, T85, T86, T87, T89, T90]
    obtain ⟨⟨p1, p2, p3, p4⟩, k1, k2⟩ := hpre
    have hok : okI ⟨x1, x2⟩ = true := by rw [okI_mk]; omega
    repeat' (first | with_reducible refine cnd_split (fun hc => ?_) (fun hc => ?_) | with_reducible refine Reqs.mk ?_ ?_)
    by_cases hk : 0 < k
    · refine go_loop (α := Nat × Iv) (fun a => a.1) (fun a e h => h = [[.int .i64 a.2.lo, .int .i64 a.2.hi], [.int .i64 0, .int .i64 0]] ∧ look e 1 = some (.v (.c (.p (.int .i64 (a.1 : Int))))) ∧ look e 2 = some (.v (.c (.ptr (.own 0 0)))) ∧ look e 4 = some (.v (.c (.ptr (.own 1 0)))) ∧ a.1 ≤ 29 ∧ dblL a.1 a.2 = dblL k.toNat ⟨x1, x2⟩) (k.toNat, ⟨x1, x2⟩) ⟨rfl, ?_, rfl, rfl, by simp only; omega, rfl⟩ ?_
      · show some (SV.v (.c (.p (.int .i64 k)))) = _
        congr 5; simp only; omega
      · rintro X ⟨j, x⟩ e h ⟨rfl, l1, l2, l4, hj, hs⟩ hX
        simp only at l1 hj hs hX
        cases j with
        | zero =>
          obtain ⟨C, eC⟩ : ∃ C : Int, ((0 : Nat) : Int) = C := ⟨_, rfl⟩
          rw [eC] at l1
          have e0 : decide (0 < C) = false := by simp only [decide_eq_false_iff_not]; omega
          have e1 : IntKind.i64.wrap (-C) = ((0 : Nat) : Int) := by rw [wrap_om (by omega) (by omega)]; omega
          have hx : x = scaleI ⟨x1, x2⟩ k := by
            have h1 := @scale_up ⟨x1, x2⟩ k.toNat hok p2
            rw [show ((k.toNat : Nat) : Int) = k by omega] at h1
            rw [← h1, ← hs, dblL]
          simp (config := { maxSteps := 4000000, implicitDefEqProofs := false }) only [F_dblI_eq, F_notOk_eq, F_whole_eq, go_seq', go_reg, go_draw, rest_n, rest_r, rest_e, go_cond, go_block, go_ret_, go_skip, go_exit, blockK_n, blockK_r, blockK_e, ops_nil, ops_gate, ops_move, ops_assign, ops_pick, ops_box, ops_load, ops_store, ops_bin, ops_un, ops_conv, ops_fieldAddr, ops_extract, ops_call, ops_alloc, ops_build, st1_some, stH_some, reqO_some, cndO_some, putE_some, putE_none, tell_some, look_hit, look_miss, opd_tmp, opd_int, opd_bool, opd_func, opd_txt, up_v, up_tup, up_agg, up_p, up_clo, up_ptr, up_own, List.map_cons, List.map_nil, Nat.add_zero, opd_nsl, opd_nf, opdA_eq, opdP_eq, toA_v, toP_v, sp_eq, cells_p, cells_agg, cellsOf_p, cellsOf_agg, boxO_some, loadO_own, loadC_int, loadC_bool, loadC_pair, storeO_own, storeC_0, storeC_1, storeC_2, storeC_c, size_int, size_bool, size_pair, faddr_0, faddr_1, conv_int, un_not, un_neg, un_xor, ext_0, ext_1, ext_2, max_v, min_v, bin_add, bin_sub, bin_mul, bin_and, bin_or, bin_xor, bin_eql, bin_neq, bin_lss, bin_leq, bin_gtr, bin_geq, grd_b, grd_u, slotV_some, gateP_eq, gateO_some, asBoolS_b, slotOf_tmp, gslot_0, gslot_s, beq_t, beq_f, ↓cnd_t, ↓cnd_f, cnd_not, callR_eq, calleeO_fn, capsA_nil, capsA_cons, trArgs_nil, trArgs_agg, trArgs_p, trArgs_ptr, ptrT_some, trArgs_clo, cloT_some, consT_some, trPts_nil, trPts_cons, ptsT_some, consP_some, loadCell_own, loadCell_giv, calleeO_clo, tellO_some, argsA_nil, argsA_cons, consO_some, orc_cons, ends_r, ends_n, resAll_nil, resAll_cons, resV_tmp, resV_cell, resC_own, cellV_pair, cellV_int, startEnv, Option.map_some, List.length_nil, List.length_cons, List.nil_append, List.cons_append, List.getElem?_cons_zero, List.getElem?_cons_succ, List.set_cons_zero, List.set_cons_succ, Bool.not_true, Bool.not_false, reduceIte, Nat.reduceEqDiff, Nat.reduceAdd, Nat.reduceLT, partsP_cons, partsP_nil, conP_some, dr_nil, dr_move, dr_assign, dr_box, dr_load, dr_bin, dr_un, dr_conv, dr_fieldAddr, dr_extract, dr_call, dr_alloc, dr_index, dr_indexAddr, dr_build, dr_buildSlice, dr_makeFunc, dr_store, drawN_p, drawN_g, drawE_s, ifS_t, isW_nil, isW_cons, boxOf_own, boxOf_giv, otherB_s, otherB_n, spares_s, spares_n, ldAt_0, ldAt_s, pure_fieldAddr, pure_field, pure_indexAddr, pure_index, pure_load, pure_call, pure_store, pure_alloc, pure_box, pure_build, dr_field, dr_pick, ops_field, field_0, field_1, okA_nil, okA_cons, headW_nil, headW_cons, headH_nil, headH_cons, bindsA_nil, bindsA_cons, waitsA_nil, waitsA_cons, allWait_0, allWait_s, pure_0, pure_s, pure_move, pure_assign, pure_bin, pure_un, pure_conv, pure_ext, binds_data, binds_chain, binds_guard, binds_phase, binds_text, binds_gc, heapA_nil, heapA_cons, sameLen_self, sameLen_nil, sameLen_cons, sameLen_l, sameLen_set, entries_nil, entries_cons, entC_f, entC_t, entC_n, dstsOf_nil, dstsOf_some, dstsOf_no, valsEnv_nil, valsEnv_some, valsEnv_none, ops_index, ops_indexAddr, ops_buildSlice, blt_lit, beq_lit, Bool.or_true, Bool.true_or, Bool.or_false, Bool.false_or, Bool.and_true, Bool.true_and, Bool.and_self, cond_true, cond_false, List.append_nil, Iv.eta, Option.map_none, alloc_eq, alloc_pair', alloc_int, alloc_bool, build_eq, buildO_01, buildO_0, buildO_1, buildO_n, buildO_a, bsl_eq, idx_eq, idxO_l0, idxO_l1, iad_eq, binP_eql', binP_neq', binB_eql', binB_neq', eqT_pt, eqT_pf, eqT_bt, eqT_bf, decide_true, decide_false, seqK_n, seqK_r, seqK_e, loopK_n, loopK_r, loopK_e, reqs_true, Int.zero_sub, wrap_lit, wrapu_lit, Int.reduceLE, Int.reduceLT, Int.reduceAdd, Int.reduceSub, Int.reduceMul, Int.reduceNeg, Int.reduceEq, ops_makeFunc, makeFunc_eq, ptrsO_some, ptrsOf_nil, ptrsOf_cons, consQ_some, funcV_nil, funcV_cons, Option.bind_some, loadO_giv, bin_shr_u64, bin_shl_u64, bin_shr_i64, bin_shl_i64, and_m32', Int.reduceToNat, Int.reducePow, Int.reduceMod, Int.reduceDiv, wrap_u64s, true_or, or_true, true_and, and_true, callX_some, mX_none, mX_some, orc_m, orcM_m, orcMs_nil, orcMs_cons, tellM_some, growO_nil, growO_cons, stC_some, ops_max, ops_min, ops_len, ops_append, ops_makeSlice, ops_slice, dr_max, dr_min, dr_len, dr_append, dr_makeSlice, dr_slice, gl_eq, loadO_abs, drawF_s, cellK_some, drawC_t, drawC_f, isMC_fn, isMC_clo, Option.isSome_none, Option.isSome_some, fillA_nil, fillA_cons, flA_nil, flA_cons, fillT_nil, fillT_cons, bindsNone_nil, bindsNone_cons, frees_nil, frees_cons, free_alloc, free_box, free_bsl, free_move, free_assign, free_load, free_store, free_bin, free_un, free_conv, free_fieldAddr, free_field, free_ext, free_call, free_iad, free_idx, free_build, free_mkf, free_pick, free_mks, free_slice, spares_a, otherT_s, otherT_n, ble_lit, Nat.reduceLeDiff, Nat.reduceMul, Int.toNat_natCast, Int.cast_ofNat_Int, Int.natCast_zero, Int.natCast_one, partsA_nil, partsA_cons, conA_some, inOrd_nil, inOrd_cons, flatP_nil, flatP_cons, rowN_0, rowN_s, bslO_row, bslO_0, mks_eq, intO_int, slc_eq, optI_none, optI_some, optP_int, app_eq, len_row, len_sl, len_emp, lenO_some, row_row, row_ez, row_size, row_agg, pair_agg, int_agg, one_agg, bool_agg, str_agg, iadO_row, iadO_sl, endsM_r, endsM_n, List.isEmpty_nil, List.isEmpty_cons, List.replicate_zero, List.replicate_succ, T1, T2, T3, T4, T5, T6, T9, T10, T11, T12, T21, T22, T23, T24, T25, T26, T27, T28, T29, T30, T31, T32, T33, T34, T35, T36, T37, T38, T39, T40, T42, T43, T44, T45, T46, T47, T48, T50, T51, T52, T53, T54, T55, T56, T57, T58, T59, T61, T62, T63, T65, T67, T69, T70, T71, T72, T75, T77, T83, T84, T85, T86, T87, T89, T90, l1, l2, l4, e0, e1, bin_shr_si (show (0 : Nat) ≤ 64 by omega)]
          repeat' (first | with_reducible refine cnd_split (fun hc => ?_) (fun hc => ?_) | with_reducible refine Reqs.mk ?_ ?_)
          all_goals (refine endS_v (t := (scaleI (Iv.mk x1 x2) k)) hr ?_)
          · have hb := okI_iff.1 (by assumption : okI x = true)
            rw [← hx]
            simp only [Int.pow_zero, Int.ediv_one]
            rw [wrap_om (n := -x.hi) (by omega) (by omega), Int.neg_neg, wrap_om (by omega) (by omega)]
          · rw [← hx]
            have hm : x = mkI (x1 * 2 ^ k.toNat) (x2 * 2 ^ k.toNat) := by rw [hx]; unfold scaleI; rw [if_pos (by omega)]
            have hn := (by assumption : okI x = false)
            rw [hm] at hn ⊢
            rw [mkI_no hn]
        | succ j =>
          obtain ⟨C, eC⟩ : ∃ C : Int, ((j + 1 : Nat) : Int) = C := ⟨_, rfl⟩
          rw [eC] at l1
          have e0 : decide (0 < C) = true := by simp only [decide_eq_true_eq]; omega
          have e1 : IntKind.i64.wrap (C - 1) = (j : Int) := by rw [wrap_om (by omega) (by omega)]; omega
          rw [dblL] at hs
          simp (config := { maxSteps := 4000000, implicitDefEqProofs := false }) only [F_dblI_eq, F_notOk_eq, F_whole_eq, go_seq', go_reg, go_draw, rest_n, rest_r, rest_e, go_cond, go_block, go_ret_, go_skip, go_exit, blockK_n, blockK_r, blockK_e, ops_nil, ops_gate, ops_move, ops_assign, ops_pick, ops_box, ops_load, ops_store, ops_bin, ops_un, ops_conv, ops_fieldAddr, ops_extract, ops_call, ops_alloc, ops_build, st1_some, stH_some, reqO_some, cndO_some, putE_some, putE_none, tell_some, look_hit, look_miss, opd_tmp, opd_int, opd_bool, opd_func, opd_txt, up_v, up_tup, up_agg, up_p, up_clo, up_ptr, up_own, List.map_cons, List.map_nil, Nat.add_zero, opd_nsl, opd_nf, opdA_eq, opdP_eq, toA_v, toP_v, sp_eq, cells_p, cells_agg, cellsOf_p, cellsOf_agg, boxO_some, loadO_own, loadC_int, loadC_bool, loadC_pair, storeO_own, storeC_0, storeC_1, storeC_2, storeC_c, size_int, size_bool, size_pair, faddr_0, faddr_1, conv_int, un_not, un_neg, un_xor, ext_0, ext_1, ext_2, max_v, min_v, bin_add, bin_sub, bin_mul, bin_and, bin_or, bin_xor, bin_eql, bin_neq, bin_lss, bin_leq, bin_gtr, bin_geq, grd_b, grd_u, slotV_some, gateP_eq, gateO_some, asBoolS_b, slotOf_tmp, gslot_0, gslot_s, beq_t, beq_f, ↓cnd_t, ↓cnd_f, cnd_not, callR_eq, calleeO_fn, capsA_nil, capsA_cons, trArgs_nil, trArgs_agg, trArgs_p, trArgs_ptr, ptrT_some, trArgs_clo, cloT_some, consT_some, trPts_nil, trPts_cons, ptsT_some, consP_some, loadCell_own, loadCell_giv, calleeO_clo, tellO_some, argsA_nil, argsA_cons, consO_some, orc_cons, ends_r, ends_n, resAll_nil, resAll_cons, resV_tmp, resV_cell, resC_own, cellV_pair, cellV_int, startEnv, Option.map_some, List.length_nil, List.length_cons, List.nil_append, List.cons_append, List.getElem?_cons_zero, List.getElem?_cons_succ, List.set_cons_zero, List.set_cons_succ, Bool.not_true, Bool.not_false, reduceIte, Nat.reduceEqDiff, Nat.reduceAdd, Nat.reduceLT, partsP_cons, partsP_nil, conP_some, dr_nil, dr_move, dr_assign, dr_box, dr_load, dr_bin, dr_un, dr_conv, dr_fieldAddr, dr_extract, dr_call, dr_alloc, dr_index, dr_indexAddr, dr_build, dr_buildSlice, dr_makeFunc, dr_store, drawN_p, drawN_g, drawE_s, ifS_t, isW_nil, isW_cons, boxOf_own, boxOf_giv, otherB_s, otherB_n, spares_s, spares_n, ldAt_0, ldAt_s, pure_fieldAddr, pure_field, pure_indexAddr, pure_index, pure_load, pure_call, pure_store, pure_alloc, pure_box, pure_build, dr_field, dr_pick, ops_field, field_0, field_1, okA_nil, okA_cons, headW_nil, headW_cons, headH_nil, headH_cons, bindsA_nil, bindsA_cons, waitsA_nil, waitsA_cons, allWait_0, allWait_s, pure_0, pure_s, pure_move, pure_assign, pure_bin, pure_un, pure_conv, pure_ext, binds_data, binds_chain, binds_guard, binds_phase, binds_text, binds_gc, heapA_nil, heapA_cons, sameLen_self, sameLen_nil, sameLen_cons, sameLen_l, sameLen_set, entries_nil, entries_cons, entC_f, entC_t, entC_n, dstsOf_nil, dstsOf_some, dstsOf_no, valsEnv_nil, valsEnv_some, valsEnv_none, ops_index, ops_indexAddr, ops_buildSlice, blt_lit, beq_lit, Bool.or_true, Bool.true_or, Bool.or_false, Bool.false_or, Bool.and_true, Bool.true_and, Bool.and_self, cond_true, cond_false, List.append_nil, Iv.eta, Option.map_none, alloc_eq, alloc_pair', alloc_int, alloc_bool, build_eq, buildO_01, buildO_0, buildO_1, buildO_n, buildO_a, bsl_eq, idx_eq, idxO_l0, idxO_l1, iad_eq, binP_eql', binP_neq', binB_eql', binB_neq', eqT_pt, eqT_pf, eqT_bt, eqT_bf, decide_true, decide_false, seqK_n, seqK_r, seqK_e, loopK_n, loopK_r, loopK_e, reqs_true, Int.zero_sub, wrap_lit, wrapu_lit, Int.reduceLE, Int.reduceLT, Int.reduceAdd, Int.reduceSub, Int.reduceMul, Int.reduceNeg, Int.reduceEq, ops_makeFunc, makeFunc_eq, ptrsO_some, ptrsOf_nil, ptrsOf_cons, consQ_some, funcV_nil, funcV_cons, Option.bind_some, loadO_giv, bin_shr_u64, bin_shl_u64, bin_shr_i64, bin_shl_i64, and_m32', Int.reduceToNat, Int.reducePow, Int.reduceMod, Int.reduceDiv, wrap_u64s, true_or, or_true, true_and, and_true, callX_some, mX_none, mX_some, orc_m, orcM_m, orcMs_nil, orcMs_cons, tellM_some, growO_nil, growO_cons, stC_some, ops_max, ops_min, ops_len, ops_append, ops_makeSlice, ops_slice, dr_max, dr_min, dr_len, dr_append, dr_makeSlice, dr_slice, gl_eq, loadO_abs, drawF_s, cellK_some, drawC_t, drawC_f, isMC_fn, isMC_clo, Option.isSome_none, Option.isSome_some, fillA_nil, fillA_cons, flA_nil, flA_cons, fillT_nil, fillT_cons, bindsNone_nil, bindsNone_cons, frees_nil, frees_cons, free_alloc, free_box, free_bsl, free_move, free_assign, free_load, free_store, free_bin, free_un, free_conv, free_fieldAddr, free_field, free_ext, free_call, free_iad, free_idx, free_build, free_mkf, free_pick, free_mks, free_slice, spares_a, otherT_s, otherT_n, ble_lit, Nat.reduceLeDiff, Nat.reduceMul, Int.toNat_natCast, Int.cast_ofNat_Int, Int.natCast_zero, Int.natCast_one, partsA_nil, partsA_cons, conA_some, inOrd_nil, inOrd_cons, flatP_nil, flatP_cons, rowN_0, rowN_s, bslO_row, bslO_0, mks_eq, intO_int, slc_eq, optI_none, optI_some, optP_int, app_eq, len_row, len_sl, len_emp, lenO_some, row_row, row_ez, row_size, row_agg, pair_agg, int_agg, one_agg, bool_agg, str_agg, iadO_row, iadO_sl, endsM_r, endsM_n, List.isEmpty_nil, List.isEmpty_cons, List.replicate_zero, List.replicate_succ, T1, T2, T3, T4, T5, T6, T9, T10, T11, T12, T21, T22, T23, T24, T25, T26, T27, T28, T29, T30, T31, T32, T33, T34, T35, T36, T37, T38, T39, T40, T42, T43, T44, T45, T46, T47, T48, T50, T51, T52, T53, T54, T55, T56, T57, T58, T59, T61, T62, T63, T65, T67, T69, T70, T71, T72, T75, T77, T83, T84, T85, T86, T87, T89, T90, l1, l2, l4, e0, e1]
          refine hX (j, _) _ _ (Nat.lt_succ_self j) ⟨rfl, ?_, ?_, ?_, by simp only; omega, hs⟩
          all_goals (try simp only [look])
          all_goals simp [l2, l4]
    · obtain ⟨s, hs⟩ : ∃ s : Nat, -k = s := ⟨(-k).toNat, by omega⟩
      have s64 : s ≤ 64 := by omega
      have e0 : decide (0 < k) = false := by simp only [decide_eq_false_iff_not]; exact hk
      have e1 : IntKind.i64.wrap (-k) = (s : Int) := by rw [wrap_om (by omega) (by omega)]; omega
      have e2 : IntKind.i64.wrap (-x2) = -x2 := wrap_om (by omega) (by omega)
      have hd := @down_up x1 x2 (2 ^ s) (Int.pow_pos (by omega)) p2 p3 (by omega)
      have e3 : IntKind.i64.wrap (-(-x2 / 2 ^ s)) = -(-x2 / 2 ^ s) := wrap_om (by omega) (by omega)
      simp (config := { maxSteps := 4000000, implicitDefEqProofs := false }) only [F_dblI_eq, F_notOk_eq, F_whole_eq, go_seq', go_reg, go_draw, rest_n, rest_r, rest_e, go_cond, go_block, go_ret_, go_skip, go_exit, blockK_n, blockK_r, blockK_e, ops_nil, ops_gate, ops_move, ops_assign, ops_pick, ops_box, ops_load, ops_store, ops_bin, ops_un, ops_conv, ops_fieldAddr, ops_extract, ops_call, ops_alloc, ops_build, st1_some, stH_some, reqO_some, cndO_some, putE_some, putE_none, tell_some, look_hit, look_miss, opd_tmp, opd_int, opd_bool, opd_func, opd_txt, up_v, up_tup, up_agg, up_p, up_clo, up_ptr, up_own, List.map_cons, List.map_nil, Nat.add_zero, opd_nsl, opd_nf, opdA_eq, opdP_eq, toA_v, toP_v, sp_eq, cells_p, cells_agg, cellsOf_p, cellsOf_agg, boxO_some, loadO_own, loadC_int, loadC_bool, loadC_pair, storeO_own, storeC_0, storeC_1, storeC_2, storeC_c, size_int, size_bool, size_pair, faddr_0, faddr_1, conv_int, un_not, un_neg, un_xor, ext_0, ext_1, ext_2, max_v, min_v, bin_add, bin_sub, bin_mul, bin_and, bin_or, bin_xor, bin_eql, bin_neq, bin_lss, bin_leq, bin_gtr, bin_geq, grd_b, grd_u, slotV_some, gateP_eq, gateO_some, asBoolS_b, slotOf_tmp, gslot_0, gslot_s, beq_t, beq_f, ↓cnd_t, ↓cnd_f, cnd_not, callR_eq, calleeO_fn, capsA_nil, capsA_cons, trArgs_nil, trArgs_agg, trArgs_p, trArgs_ptr, ptrT_some, trArgs_clo, cloT_some, consT_some, trPts_nil, trPts_cons, ptsT_some, consP_some, loadCell_own, loadCell_giv, calleeO_clo, tellO_some, argsA_nil, argsA_cons, consO_some, orc_cons, ends_r, ends_n, resAll_nil, resAll_cons, resV_tmp, resV_cell, resC_own, cellV_pair, cellV_int, startEnv, Option.map_some, List.length_nil, List.length_cons, List.nil_append, List.cons_append, List.getElem?_cons_zero, List.getElem?_cons_succ, List.set_cons_zero, List.set_cons_succ, Bool.not_true, Bool.not_false, reduceIte, Nat.reduceEqDiff, Nat.reduceAdd, Nat.reduceLT, partsP_cons, partsP_nil, conP_some, dr_nil, dr_move, dr_assign, dr_box, dr_load, dr_bin, dr_un, dr_conv, dr_fieldAddr, dr_extract, dr_call, dr_alloc, dr_index, dr_indexAddr, dr_build, dr_buildSlice, dr_makeFunc, dr_store, drawN_p, drawN_g, drawE_s, ifS_t, isW_nil, isW_cons, boxOf_own, boxOf_giv, otherB_s, otherB_n, spares_s, spares_n, ldAt_0, ldAt_s, pure_fieldAddr, pure_field, pure_indexAddr, pure_index, pure_load, pure_call, pure_store, pure_alloc, pure_box, pure_build, dr_field, dr_pick, ops_field, field_0, field_1, okA_nil, okA_cons, headW_nil, headW_cons, headH_nil, headH_cons, bindsA_nil, bindsA_cons, waitsA_nil, waitsA_cons, allWait_0, allWait_s, pure_0, pure_s, pure_move, pure_assign, pure_bin, pure_un, pure_conv, pure_ext, binds_data, binds_chain, binds_guard, binds_phase, binds_text, binds_gc, heapA_nil, heapA_cons, sameLen_self, sameLen_nil, sameLen_cons, sameLen_l, sameLen_set, entries_nil, entries_cons, entC_f, entC_t, entC_n, dstsOf_nil, dstsOf_some, dstsOf_no, valsEnv_nil, valsEnv_some, valsEnv_none, ops_index, ops_indexAddr, ops_buildSlice, blt_lit, beq_lit, Bool.or_true, Bool.true_or, Bool.or_false, Bool.false_or, Bool.and_true, Bool.true_and, Bool.and_self, cond_true, cond_false, List.append_nil, Iv.eta, Option.map_none, alloc_eq, alloc_pair', alloc_int, alloc_bool, build_eq, buildO_01, buildO_0, buildO_1, buildO_n, buildO_a, bsl_eq, idx_eq, idxO_l0, idxO_l1, iad_eq, binP_eql', binP_neq', binB_eql', binB_neq', eqT_pt, eqT_pf, eqT_bt, eqT_bf, decide_true, decide_false, seqK_n, seqK_r, seqK_e, loopK_n, loopK_r, loopK_e, reqs_true, Int.zero_sub, wrap_lit, wrapu_lit, Int.reduceLE, Int.reduceLT, Int.reduceAdd, Int.reduceSub, Int.reduceMul, Int.reduceNeg, Int.reduceEq, ops_makeFunc, makeFunc_eq, ptrsO_some, ptrsOf_nil, ptrsOf_cons, consQ_some, funcV_nil, funcV_cons, Option.bind_some, loadO_giv, bin_shr_u64, bin_shl_u64, bin_shr_i64, bin_shl_i64, and_m32', Int.reduceToNat, Int.reducePow, Int.reduceMod, Int.reduceDiv, wrap_u64s, true_or, or_true, true_and, and_true, callX_some, mX_none, mX_some, orc_m, orcM_m, orcMs_nil, orcMs_cons, tellM_some, growO_nil, growO_cons, stC_some, ops_max, ops_min, ops_len, ops_append, ops_makeSlice, ops_slice, dr_max, dr_min, dr_len, dr_append, dr_makeSlice, dr_slice, gl_eq, loadO_abs, drawF_s, cellK_some, drawC_t, drawC_f, isMC_fn, isMC_clo, Option.isSome_none, Option.isSome_some, fillA_nil, fillA_cons, flA_nil, flA_cons, fillT_nil, fillT_cons, bindsNone_nil, bindsNone_cons, frees_nil, frees_cons, free_alloc, free_box, free_bsl, free_move, free_assign, free_load, free_store, free_bin, free_un, free_conv, free_fieldAddr, free_field, free_ext, free_call, free_iad, free_idx, free_build, free_mkf, free_pick, free_mks, free_slice, spares_a, otherT_s, otherT_n, ble_lit, Nat.reduceLeDiff, Nat.reduceMul, Int.toNat_natCast, Int.cast_ofNat_Int, Int.natCast_zero, Int.natCast_one, partsA_nil, partsA_cons, conA_some, inOrd_nil, inOrd_cons, flatP_nil, flatP_cons, rowN_0, rowN_s, bslO_row, bslO_0, mks_eq, intO_int, slc_eq, optI_none, optI_some, optP_int, app_eq, len_row, len_sl, len_emp, lenO_some, row_row, row_ez, row_size, row_agg, pair_agg, int_agg, one_agg, bool_agg, str_agg, iadO_row, iadO_sl, endsM_r, endsM_n, List.isEmpty_nil, List.isEmpty_cons, List.replicate_zero, List.replicate_succ, T1, T2, T3, T4, T5, T6, T9, T10, T11, T12, T21, T22, T23, T24, T25, T26, T27, T28, T29, T30, T31, T32, T33, T34, T35, T36, T37, T38, T39, T40, T42, T43, T44, T45, T46, T47, T48, T50, T51, T52, T53, T54, T55, T56, T57, T58, T59, T61, T62, T63, T65, T67, T69, T70, T71, T72, T75, T77, T83, T84, T85, T86, T87, T89, T90, go_turn_eq, again_n, again_r, again_e, e0, e1, e2, e3, hok, bin_shr_si s64]
      refine endS_v (t := (scaleI (Iv.mk x1 x2) k)) hr ?_
      by_cases h0 : k = 0
      · have : s = 0 := by omega
        rw [h0, scale_0 hok, this]
        simp
      · rw [scale_neg (by omega) hs]
  · cases hF

end Go.Proofs.Ytmkpilmlgjnadaa.Eng
