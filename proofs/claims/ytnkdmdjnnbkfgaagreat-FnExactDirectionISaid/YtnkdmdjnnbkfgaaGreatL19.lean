/- What functions of the program compute, and that the program computes it: part 19. -/
import Derived.Test.YtnkdmdjnnbkfgaaGreatTab
import Derived.Test.YtnkdmdjnnbkfgaaGreatEng15
import Derived.Laws.BitsLemmas
import Derived.Laws.Bits64
import Derived.Laws.Bits64b
import Derived.Lib.Mul64
import Derived.Lib.BitFns
import Derived.Laws.Externs
import Derived.Test.YtnkdmdjnnbkfgaaGreatL1
import Derived.Test.YtnkdmdjnnbkfgaaGreatL2
import Derived.Test.YtnkdmdjnnbkfgaaGreatL4
import Derived.Test.YtnkdmdjnnbkfgaaGreatL6
import Derived.Test.YtnkdmdjnnbkfgaaGreatL9
import Derived.Test.YtnkdmdjnnbkfgaaGreatL12
import Derived.Test.YtnkdmdjnnbkfgaaGreatL16
import Derived.Test.YtnkdmdjnnbkfgaaGreatL17
import Derived.Test.YtnkdmdjnnbkfgaaGreatL18
namespace Go.Proofs.YtnkdmdjnnbkfgaaGreat.Eng
open Go Go.RowKit
set_option linter.unusedVariables false
set_option linter.unusedSimpArgs false
set_option maxRecDepth 100000
set_option maxHeartbeats 1000000
-- units
def unitLo (n : Int) : Int := if 0 < n then n * 966367641600000000 / 7244019458077122843 else n * 966367641600000000 / 7244019458077122842
def unitsOf (a : Iv) : Int × Int × Bool := if okI a then (if unitLo a.lo < -36000000000 ∨ 36000000000 < -unitLo (-a.hi) then (0, 0, false) else (unitLo a.lo, -unitLo (-a.hi), true)) else (0, 0, false)
def F_unitLo : FT
  | [.c (.p (.int .i64 n))], _ => some (-1152921504606846976 < n ∧ n < 1152921504606846976, .v (.c (.p (.int .i64 (unitLo n)))), [])
  | _, _ => none
theorem F_unitLo_eq {n : Int} {g : List PC} : F_unitLo [.c (.p (.int .i64 n))] g = some (-1152921504606846976 < n ∧ n < 1152921504606846976, .v (.c (.p (.int .i64 (unitLo n)))), []) := rfl
def F_unitsOf : FT
  | [.agg [.int .i64 a1, .int .i64 a2]], _ => some (True, .tup [.c (.p (.int .i64 ((unitsOf (Iv.mk a1 a2)).1))), .c (.p (.int .i64 ((unitsOf (Iv.mk a1 a2)).2.1))), .c (.p (.bool ((unitsOf (Iv.mk a1 a2)).2.2)))], [])
  | _, _ => none
theorem F_unitsOf_eq {a1 : Int} {a2 : Int} {g : List PC} : F_unitsOf [.agg [.int .i64 a1, .int .i64 a2]] g = some (True, .tup [.c (.p (.int .i64 ((unitsOf (Iv.mk a1 a2)).1))), .c (.p (.int .i64 ((unitsOf (Iv.mk a1 a2)).2.1))), .c (.p (.bool ((unitsOf (Iv.mk a1 a2)).2.2)))], []) := rfl
theorem wideInt_ok {w : Int} (h1 : -9223372036854775808 ≤ w) (h2 : w ≤ 9223372036854775807) : wideInt w = (w, true) := by
  unfold wideInt
  rw [if_pos (within_iff.2 ⟨h1, h2⟩)]
theorem md_P {n : Int} (h : -1152921504606846976 < n ∧ n < 1152921504606846976) : mulDiv n 966367641600000000 7244019458077122842 = (n * 966367641600000000 / 7244019458077122842, true) := by
  unfold mulDiv wideInt
  rw [if_pos (by omega), if_pos (by rw [within_iff]; omega)]
theorem md_P1 {n : Int} (h : -1152921504606846976 < n ∧ n < 1152921504606846976) : mulDiv n 966367641600000000 7244019458077122843 = (n * 966367641600000000 / 7244019458077122843, true) := by
  unfold mulDiv wideInt
  rw [if_pos (by omega), if_pos (by rw [within_iff]; omega)]
theorem mulDivUp_eq {a b d : Int} (hd : 0 < d) (h1 : -9223372036854775808 ≤ a * b / d) (h2 : a * b / d < 9223372036854775807) : mulDivUp a b d = (if a * b % d = 0 then a * b / d else a * b / d + 1, true) := by
  unfold mulDivUp
  rw [if_pos hd, wideInt_ok h1 (by omega)]
  simp only [if_true]
  by_cases he : a * b % d = 0
  · rw [if_pos he, if_pos he]
  · rw [if_neg he, if_neg he, if_neg (by omega)]
theorem ceil_div {x d : Int} (hd : 0 < d) : (if x % d = 0 then x / d else x / d + 1) = -(-x / d) := by
  have h := @neg_div x d hd
  have r1 := Int.emod_nonneg (-x) (show d ≠ 0 by omega)
  have r2 := Int.emod_lt_of_pos (-x) hd
  by_cases h0 : -x % d = 0
  · rw [if_pos (h.1 h0).2]; exact (h.1 h0).1
  · have h2 := h.2 h0
    rw [if_neg (by omega), h2.1]; omega
theorem un1 {n : Int} (h : -1152921504606846976 < n ∧ n < 1152921504606846976) (h0 : 0 < n) : mulDiv n 966367641600000000 7244019458077122843 = (unitLo n, true) := by
  rw [md_P1 h, unitLo, if_pos h0]
theorem un2 {n : Int} (h : -1152921504606846976 < n ∧ n < 1152921504606846976) (h0 : ¬ 0 < n) : mulDiv n 966367641600000000 7244019458077122842 = (unitLo n, true) := by
  rw [md_P h, unitLo, if_neg h0]
theorem un3 {n : Int} (h : -1152921504606846976 < n ∧ n < 1152921504606846976) (h0 : n < 0) : mulDivUp n 966367641600000000 7244019458077122843 = (-unitLo (-n), true) := by
  rw [mulDivUp_eq (by omega) (by omega) (by omega), ceil_div (by omega), unitLo, if_pos (by omega), Int.neg_mul]
theorem un4 {n : Int} (h : -1152921504606846976 < n ∧ n < 1152921504606846976) (h0 : ¬ n < 0) : mulDivUp n 966367641600000000 7244019458077122842 = (-unitLo (-n), true) := by
  rw [mulDivUp_eq (by omega) (by omega) (by omega), ceil_div (by omega), unitLo, if_neg (by omega), Int.neg_mul]
theorem unitLo_in {n : Int} (h : -1152921504606846976 < n ∧ n < 1152921504606846976) : -1152921504606846976 < unitLo n ∧ unitLo n < 1152921504606846976 := by
  unfold unitLo
  split <;> omega

-- spec.IsWhole
theorem spec_IsWhole_notOk_ok : Fn Tryz.prog 32 F_notOk := by
  refine fn_of_go (O := orc [⟨81, F_okI, .inl spec_l04Ok_okI_ok⟩]) mixed T_ok (orc_sound _) Tryz.func32 (by kernel_rfl) rfl Tryz.ntmps32 (by kernel_rfl) Tryz.results32 ?_
  intro args g pre r new hF hpre
  unfold F_notOk at hF
  split at hF
  · rename_i a1 a2
    simp only [Option.some.injEq, Prod.mk.injEq] at hF
    obtain ⟨rfl, hr, rfl⟩ := hF
    refine ⟨by simp, ?_⟩
    simp (config := { maxSteps := 4000000, implicitDefEqProofs := false }) only [F_okI_eq, go_seq', go_reg, go_draw, rest_n, rest_r, rest_e, go_cond, go_block, go_ret_, go_skip, go_exit, blockK_n, blockK_r, blockK_e, ops_nil, ops_gate, ops_move, ops_assign, ops_pick, ops_box, ops_load, ops_store, ops_bin, ops_un, ops_conv, ops_fieldAddr, ops_extract, ops_builtin, ops_call, ops_alloc, ops_build, st1_some, stH_some, stC_nil, reqO_some, cndO_some, putE_some, putE_none, tell_some, look_hit, look_miss, opd_tmp, opd_int, opd_bool, opd_func, opdA_eq, opdP_eq, toA_v, toP_v, sp_eq, cells_p, cells_agg, cellsOf_p, cellsOf_agg, boxO_some, loadO_own, loadC_int, loadC_bool, loadC_pair, storeO_own, storeC_0, storeC_1, storeC_2, storeC_c, size_int, size_bool, size_pair, faddr_0, faddr_1, conv_int, un_not, un_neg, un_xor, ext_0, ext_1, ext_2, max_v, min_v, bin_add, bin_sub, bin_mul, bin_and, bin_or, bin_xor, bin_eql, bin_neq, bin_lss, bin_leq, bin_gtr, bin_geq, grd_b, grd_u, slotV_some, gateP_eq, gateO_some, asBoolS_b, slotOf_tmp, gslot_0, gslot_s, beq_t, beq_f, ↓cnd_t, ↓cnd_f, cnd_not, callR_eq, calleeO_fn, argsO_eq, pairT_some, capsA_nil, capsA_cons, trArgs_nil, trArgs_agg, trArgs_p, trArgs_ptr, ptrT_some, trArgs_clo, cloT_some, consT_some, trPts_nil, trPts_cons, ptsT_some, consP_some, loadCell_own, loadCell_giv, calleeO_clo, tellO_some, argsA_nil, argsA_cons, consO_some, orc_cons, ends_r, ends_n, resAll_nil, resAll_cons, resV_tmp, resV_cell, resC_own, cellV_pair, cellV_int, startEnv, Option.map_some, List.length_nil, List.length_cons, List.nil_append, List.cons_append, List.getElem?_cons_zero, List.getElem?_cons_succ, List.set_cons_zero, List.set_cons_succ, Bool.not_true, Bool.not_false, reduceIte, Nat.reduceEqDiff, Nat.reduceAdd, Nat.reduceLT, partsP_cons, partsP_nil, conP_some, T5, T9, T2, T3, T51, T67, T4, T24, T23, T53, dr_nil, dr_move, dr_assign, dr_box, dr_load, dr_bin, dr_un, dr_conv, dr_fieldAddr, dr_extract, dr_builtin, dr_call, dr_alloc, dr_index, dr_indexAddr, dr_build, dr_buildSlice, dr_makeFunc, dr_store, drawN_p, drawN_g, drawE_s, ifS_t, isW_nil, isW_cons, boxOf_own, boxOf_giv, otherB_s, otherB_n, spares_s, spares_n, ldAt_0, ldAt_s, pure_fieldAddr, pure_field, pure_indexAddr, pure_index, pure_load, pure_call, pure_store, pure_alloc, pure_box, pure_build, dr_field, dr_pick, ops_field, field_0, field_1, okA_nil, okA_cons, headW_nil, headW_cons, headH_nil, headH_cons, bindsA_nil, bindsA_cons, waitsA_nil, waitsA_cons, allWait_0, allWait_s, pure_0, pure_s, pure_move, pure_assign, pure_bin, pure_un, pure_conv, pure_ext, binds_data, binds_chain, binds_guard, binds_phase, binds_text, binds_gc, heapA_nil, heapA_cons, sameLen_self, sameLen_nil, sameLen_cons, sameLen_l, sameLen_set, entries_nil, entries_cons, entC_f, entC_t, entC_n, dstsOf_nil, dstsOf_some, dstsOf_no, valsEnv_nil, valsEnv_some, valsEnv_none, ops_index, ops_indexAddr, ops_buildSlice, blt_lit, beq_lit, Bool.or_true, Bool.true_or, Bool.or_false, Bool.false_or, Bool.and_true, Bool.true_and, Bool.and_self, cond_true, cond_false, List.append_nil, Iv.eta, Option.map_none, T43, T58, alloc_eq, alloc_pair', alloc_int, alloc_bool, build_eq, buildO_01, buildO_0, buildO_1, buildO_n, buildO_a, bsl_eq, bslO_2, idx_eq, idxO_l0, idxO_l1, iad_eq, iadO_l0, iadO_l1, binP_eql', binP_neq', binB_eql', binB_neq', eqT_pt, eqT_pf, eqT_bt, eqT_bf, decide_true, decide_false, seqK_n, seqK_r, seqK_e, loopK_n, loopK_r, loopK_e, reqs_true, Int.zero_sub, wrap_lit, wrapu_lit, Int.reduceLE, Int.reduceLT, Int.reduceAdd, Int.reduceSub, Int.reduceMul, Int.reduceNeg, Int.reduceEq, ops_makeFunc, makeFunc_eq, ptrsO_some, ptrsOf_nil, ptrsOf_cons, consQ_some, funcV_nil, funcV_cons, Option.bind_some, loadO_giv, bin_shr_u64, bin_shl_u64, bin_shr_i64, bin_shl_i64, and_m32', Int.reduceToNat, Int.reducePow, Int.reduceMod, Int.reduceDiv, wrap_u64s, true_or, or_true, true_and, and_true]
    repeat' (first | with_reducible refine cnd_split (fun hc => ?_) (fun hc => ?_) | with_reducible refine Reqs.mk ?_ ?_)
    all_goals (first | trivial | refine endS_b (t := (!okI (Iv.mk a1 a2))) hr ?_; simp_all)
  · cases hF

-- radians
def radP (u : Int) : Iv := if u = 0 then ⟨0, 0⟩ else ⟨u * 7244019458077122842 / 966367641600000000, u * 7244019458077122843 / 966367641600000000 + 1⟩
def radI (u : Int) : Iv := if within u (-36000000000) 36000000000 then (if u < 0 then ⟨-(radP (-u)).hi, -(radP (-u)).lo⟩ else radP u) else whole
def F_radP : FT
  | [.c (.p (.int .i64 u))], _ => some (0 ≤ u ∧ u ≤ 36000000000, .v (.agg [.int .i64 ((radP u)).lo, .int .i64 ((radP u)).hi]), [])
  | _, _ => none
theorem F_radP_eq {u : Int} {g : List PC} : F_radP [.c (.p (.int .i64 u))] g = some (0 ≤ u ∧ u ≤ 36000000000, .v (.agg [.int .i64 ((radP u)).lo, .int .i64 ((radP u)).hi]), []) := rfl
def F_radI : FT
  | [.c (.p (.int .i64 u))], _ => some (True, .v (.agg [.int .i64 ((radI u)).lo, .int .i64 ((radI u)).hi]), [])
  | _, _ => none
theorem F_radI_eq {u : Int} {g : List PC} : F_radI [.c (.p (.int .i64 u))] g = some (True, .v (.agg [.int .i64 ((radI u)).lo, .int .i64 ((radI u)).hi]), []) := rfl
theorem rad_fl {u : Int} (h : 0 ≤ u ∧ u ≤ 36000000000) : mulDiv u 7244019458077122842 966367641600000000 = (u * 7244019458077122842 / 966367641600000000, true) ∧ mulDiv u 7244019458077122843 966367641600000000 = (u * 7244019458077122843 / 966367641600000000, true) := by
  unfold mulDiv
  rw [if_pos (by omega), wideInt_ok (by omega) (by omega), wideInt_ok (by omega) (by omega)]; exact ⟨rfl, rfl⟩
theorem rad_in {u : Int} (h : 0 ≤ u ∧ u ≤ 36000000000) : 0 ≤ (radP u).lo ∧ (radP u).lo ≤ (radP u).hi ∧ (radP u).hi ≤ 269861063104 := by
  unfold radP
  split <;> simp only <;> omega
theorem radP_0 {u : Int} (h : u = 0) : radP u = ⟨0, 0⟩ := by unfold radP; rw [if_pos h]
theorem radP_pos {u : Int} (h : ¬ u = 0) (hb : 0 ≤ u ∧ u ≤ 36000000000) : radP u = ⟨u * 7244019458077122842 / 966367641600000000, u * 7244019458077122843 / 966367641600000000 + 1⟩ ∧ IntKind.i64.wrap (u * 7244019458077122843 / 966367641600000000 + 1) = u * 7244019458077122843 / 966367641600000000 + 1 := by
  refine ⟨by unfold radP; rw [if_neg h], wrap_om (by omega) (by omega)⟩
theorem rad_ok {u : Int} (h : 0 ≤ u ∧ u ≤ 36000000000) : okI (radP u) = true := by
  have := rad_in h
  rw [okI_iff]; omega

-- degrees
def degI (a : Iv) : Iv := divI (mulI a (intI 180)) (turnI 2)
def F_degI : FT
  | [.agg [.int .i64 a1, .int .i64 a2]], _ => some (True, .v (.agg [.int .i64 ((degI (Iv.mk a1 a2))).lo, .int .i64 ((degI (Iv.mk a1 a2))).hi]), [])
  | _, _ => none
theorem F_degI_eq {a1 : Int} {a2 : Int} {g : List PC} : F_degI [.agg [.int .i64 a1, .int .i64 a2]] g = some (True, .v (.agg [.int .i64 ((degI (Iv.mk a1 a2))).lo, .int .i64 ((degI (Iv.mk a1 a2))).hi]), []) := rfl

end Go.Proofs.YtnkdmdjnnbkfgaaGreat.Eng
