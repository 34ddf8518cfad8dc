/- What functions of the program compute, and that the program computes it: part 3. -/
import Derived.Test.YtpffelclaabijaaTab
import Derived.Test.YtpffelclaabijaaEng15
import Derived.Laws.BitsLemmas
import Derived.Laws.Bits64
import Derived.Laws.Bits64b
import Derived.Lib.Mul64
import Derived.Test.YtpffelclaabijaaL1
import Derived.Test.YtpffelclaabijaaL2
namespace Go.Proofs.Ytpffelclaabijaa.Eng
open Go Go.RowKit
set_option linter.unusedVariables false
set_option linter.unusedSimpArgs false
set_option maxRecDepth 100000
set_option maxHeartbeats 4000000
-- impl.at
theorem impl_at_atI_ok : Fn Try.prog 68 F_atI := by
  refine fn_of_go (O := orc []) mixed T_ok (orc_sound _) Try.func68 (by kernel_rfl) rfl Try.ntmps68 (by kernel_rfl) Try.results68 ?_
  intro args g pre r new hF hpre
  unfold F_atI at hF
  split at hF
  · rename_i n
    simp only [Option.some.injEq, Prod.mk.injEq] at hF
    obtain ⟨rfl, hr, rfl⟩ := hF
    refine ⟨by simp, ?_⟩
    simp (config := { maxSteps := 4000000, implicitDefEqProofs := false }) only [go_seq', go_reg, go_draw, rest_n, rest_r, rest_e, go_cond, go_block, go_ret_, go_skip, go_exit, blockK_n, blockK_r, blockK_e, ops_nil, ops_gate, ops_move, ops_assign, ops_pick, ops_box, ops_load, ops_store, ops_bin, ops_un, ops_conv, ops_fieldAddr, ops_extract, ops_builtin, ops_call, ops_alloc, ops_build, st1_some, stH_some, stC_nil, reqO_some, cndO_some, putE_some, putE_none, tell_some, look_hit, look_miss, opd_tmp, opd_int, opd_bool, opd_func, opdA_eq, opdP_eq, toA_v, toP_v, sp_eq, cells_p, cells_agg, cellsOf_p, cellsOf_agg, boxO_some, loadO_own, loadC_int, loadC_bool, loadC_pair, storeO_own, storeC_0, storeC_1, storeC_2, storeC_c, size_int, size_bool, size_pair, faddr_0, faddr_1, conv_int, un_not, un_neg, un_xor, ext_0, ext_1, ext_2, max_v, min_v, bin_add, bin_sub, bin_mul, bin_and, bin_or, bin_xor, bin_eql, bin_neq, bin_lss, bin_leq, bin_gtr, bin_geq, grd_b, grd_u, slotV_some, gateP_eq, gateO_some, asBoolS_b, slotOf_tmp, gslot_0, gslot_s, beq_t, beq_f, ↓cnd_t, ↓cnd_f, cnd_not, callR_eq, calleeO_fn, argsO_eq, pairT_some, capsA_nil, capsA_cons, trArgs_nil, trArgs_agg, trArgs_p, trArgs_ptr, ptrT_some, trArgs_clo, cloT_some, consT_some, trPts_nil, trPts_cons, ptsT_some, consP_some, loadCell_own, loadCell_giv, calleeO_clo, tellO_some, argsA_nil, argsA_cons, consO_some, orc_cons, ends_r, ends_n, resAll_nil, resAll_cons, resV_tmp, resV_cell, resC_own, cellV_pair, cellV_int, startEnv, Option.map_some, List.length_nil, List.length_cons, List.nil_append, List.cons_append, List.getElem?_cons_zero, List.getElem?_cons_succ, List.set_cons_zero, List.set_cons_succ, Bool.not_true, Bool.not_false, reduceIte, Nat.reduceEqDiff, Nat.reduceAdd, Nat.reduceLT, partsP_cons, partsP_nil, conP_some, T2, T3, T59, T80, T4, T27, T25, T61, dr_nil, dr_move, dr_assign, dr_box, dr_load, dr_bin, dr_un, dr_conv, dr_fieldAddr, dr_extract, dr_builtin, dr_call, dr_alloc, dr_index, dr_indexAddr, dr_build, dr_buildSlice, dr_makeFunc, dr_store, drawN_p, drawN_g, drawE_s, ifS_t, bindsA_nil, bindsA_cons, waitsA_nil, waitsA_cons, allWait_0, allWait_s, binds_data, binds_chain, binds_guard, binds_phase, binds_text, binds_gc, heapA_none, heapA_some, sameLen_self, sameLen_nil, sameLen_cons, sameLen_l, sameLen_set, entries_nil, entries_cons, entC_f, entC_t, entC_n, dstsOf_nil, dstsOf_some, dstsOf_no, valsEnv_nil, valsEnv_some, valsEnv_none, endHeap_n, endHeap_m, ops_index, ops_indexAddr, ops_buildSlice, blt_lit, beq_lit, Bool.or_true, Bool.true_or, Bool.or_false, Bool.false_or, Bool.and_true, Bool.true_and, Bool.and_self, cond_true, cond_false, List.append_nil, Iv.eta, Option.map_none, T68, T79, alloc_eq, alloc_pair', alloc_int, alloc_bool, build_eq, buildO_01, buildO_0, buildO_1, buildO_n, buildO_a, bsl_eq, bslO_2, idx_eq, idxO_l0, idxO_l1, iad_eq, iadO_l0, iadO_l1, binP_eql', binP_neq', binB_eql', binB_neq', eqT_pt, eqT_pf, eqT_bt, eqT_bf, decide_true, decide_false, seqK_n, seqK_r, seqK_e, loopK_n, loopK_r, loopK_e, reqs_true, Int.zero_sub, wrap_lit, wrapu_lit, Int.reduceLE, Int.reduceLT, Int.reduceAdd, Int.reduceSub, Int.reduceMul, Int.reduceNeg, Int.reduceEq, ops_makeFunc, makeFunc_eq, ptrsO_some, ptrsOf_nil, ptrsOf_cons, consQ_some, funcV_nil, funcV_cons, Option.bind_some, loadO_giv, bin_shr_u64, bin_shl_u64, bin_shr_i64, bin_shl_i64, and_m32', Int.reduceToNat, Int.reducePow, Int.reduceMod, Int.reduceDiv, wrap_u64s, true_or, or_true, true_and, and_true]
    exact endS_v (t := (Iv.mk n n)) hr rfl
  · cases hF

-- has
def F_has : FT
  | [.agg [.int .i64 a1, .int .i64 a2], .c (.p (.int .i64 n))], _ => some (True, .v (.c (.p (.bool (within n (Iv.mk a1 a2).lo (Iv.mk a1 a2).hi)))), [])
  | _, _ => none
theorem F_has_eq {a1 : Int} {a2 : Int} {n : Int} {g : List PC} : F_has [.agg [.int .i64 a1, .int .i64 a2], .c (.p (.int .i64 n))] g = some (True, .v (.c (.p (.bool (within n (Iv.mk a1 a2).lo (Iv.mk a1 a2).hi)))), []) := rfl
def F_hasI : FT
  | [.agg [.int .i64 a1, .int .i64 a2], .c (.p (.int .i64 n))], _ => some (True, .v (.c (.p (.bool (!okI (Iv.mk a1 a2) || within n (Iv.mk a1 a2).lo (Iv.mk a1 a2).hi)))), [])
  | _, _ => none
theorem F_hasI_eq {a1 : Int} {a2 : Int} {n : Int} {g : List PC} : F_hasI [.agg [.int .i64 a1, .int .i64 a2], .c (.p (.int .i64 n))] g = some (True, .v (.c (.p (.bool (!okI (Iv.mk a1 a2) || within n (Iv.mk a1 a2).lo (Iv.mk a1 a2).hi)))), []) := rfl

-- spec.l04Has
theorem spec_l04Has_has_ok : Fn Try.prog 94 F_has := by
  refine fn_of_go (O := orc [⟨62, F_within, spec_l00In_within_ok⟩]) mixed T_ok (orc_sound _) Try.func94 (by kernel_rfl) rfl Try.ntmps94 (by kernel_rfl) Try.results94 ?_
  intro args g pre r new hF hpre
  unfold F_has at hF
  split at hF
  · rename_i a1 a2 n
    simp only [Option.some.injEq, Prod.mk.injEq] at hF
    obtain ⟨rfl, hr, rfl⟩ := hF
    refine ⟨by simp, ?_⟩
    simp (config := { maxSteps := 4000000, implicitDefEqProofs := false }) only [F_within_eq, go_seq', go_reg, go_draw, rest_n, rest_r, rest_e, go_cond, go_block, go_ret_, go_skip, go_exit, blockK_n, blockK_r, blockK_e, ops_nil, ops_gate, ops_move, ops_assign, ops_pick, ops_box, ops_load, ops_store, ops_bin, ops_un, ops_conv, ops_fieldAddr, ops_extract, ops_builtin, ops_call, ops_alloc, ops_build, st1_some, stH_some, stC_nil, reqO_some, cndO_some, putE_some, putE_none, tell_some, look_hit, look_miss, opd_tmp, opd_int, opd_bool, opd_func, opdA_eq, opdP_eq, toA_v, toP_v, sp_eq, cells_p, cells_agg, cellsOf_p, cellsOf_agg, boxO_some, loadO_own, loadC_int, loadC_bool, loadC_pair, storeO_own, storeC_0, storeC_1, storeC_2, storeC_c, size_int, size_bool, size_pair, faddr_0, faddr_1, conv_int, un_not, un_neg, un_xor, ext_0, ext_1, ext_2, max_v, min_v, bin_add, bin_sub, bin_mul, bin_and, bin_or, bin_xor, bin_eql, bin_neq, bin_lss, bin_leq, bin_gtr, bin_geq, grd_b, grd_u, slotV_some, gateP_eq, gateO_some, asBoolS_b, slotOf_tmp, gslot_0, gslot_s, beq_t, beq_f, ↓cnd_t, ↓cnd_f, cnd_not, callR_eq, calleeO_fn, argsO_eq, pairT_some, capsA_nil, capsA_cons, trArgs_nil, trArgs_agg, trArgs_p, trArgs_ptr, ptrT_some, trArgs_clo, cloT_some, consT_some, trPts_nil, trPts_cons, ptsT_some, consP_some, loadCell_own, loadCell_giv, calleeO_clo, tellO_some, argsA_nil, argsA_cons, consO_some, orc_cons, ends_r, ends_n, resAll_nil, resAll_cons, resV_tmp, resV_cell, resC_own, cellV_pair, cellV_int, startEnv, Option.map_some, List.length_nil, List.length_cons, List.nil_append, List.cons_append, List.getElem?_cons_zero, List.getElem?_cons_succ, List.set_cons_zero, List.set_cons_succ, Bool.not_true, Bool.not_false, reduceIte, Nat.reduceEqDiff, Nat.reduceAdd, Nat.reduceLT, partsP_cons, partsP_nil, conP_some, T2, T3, T59, T80, T4, T27, T25, T61, dr_nil, dr_move, dr_assign, dr_box, dr_load, dr_bin, dr_un, dr_conv, dr_fieldAddr, dr_extract, dr_builtin, dr_call, dr_alloc, dr_index, dr_indexAddr, dr_build, dr_buildSlice, dr_makeFunc, dr_store, drawN_p, drawN_g, drawE_s, ifS_t, bindsA_nil, bindsA_cons, waitsA_nil, waitsA_cons, allWait_0, allWait_s, binds_data, binds_chain, binds_guard, binds_phase, binds_text, binds_gc, heapA_none, heapA_some, sameLen_self, sameLen_nil, sameLen_cons, sameLen_l, sameLen_set, entries_nil, entries_cons, entC_f, entC_t, entC_n, dstsOf_nil, dstsOf_some, dstsOf_no, valsEnv_nil, valsEnv_some, valsEnv_none, endHeap_n, endHeap_m, ops_index, ops_indexAddr, ops_buildSlice, blt_lit, beq_lit, Bool.or_true, Bool.true_or, Bool.or_false, Bool.false_or, Bool.and_true, Bool.true_and, Bool.and_self, cond_true, cond_false, List.append_nil, Iv.eta, Option.map_none, T68, T79, alloc_eq, alloc_pair', alloc_int, alloc_bool, build_eq, buildO_01, buildO_0, buildO_1, buildO_n, buildO_a, bsl_eq, bslO_2, idx_eq, idxO_l0, idxO_l1, iad_eq, iadO_l0, iadO_l1, binP_eql', binP_neq', binB_eql', binB_neq', eqT_pt, eqT_pf, eqT_bt, eqT_bf, decide_true, decide_false, seqK_n, seqK_r, seqK_e, loopK_n, loopK_r, loopK_e, reqs_true, Int.zero_sub, wrap_lit, wrapu_lit, Int.reduceLE, Int.reduceLT, Int.reduceAdd, Int.reduceSub, Int.reduceMul, Int.reduceNeg, Int.reduceEq, ops_makeFunc, makeFunc_eq, ptrsO_some, ptrsOf_nil, ptrsOf_cons, consQ_some, funcV_nil, funcV_cons, Option.bind_some, loadO_giv, bin_shr_u64, bin_shl_u64, bin_shr_i64, bin_shl_i64, and_m32', Int.reduceToNat, Int.reducePow, Int.reduceMod, Int.reduceDiv, wrap_u64s, true_or, or_true, true_and, and_true]
    repeat' (first | with_reducible refine cnd_split (fun hc => ?_) (fun hc => ?_) | with_reducible refine Reqs.mk ?_ ?_)
    all_goals (first | trivial | exact endS_b (t := (within n (Iv.mk a1 a2).lo (Iv.mk a1 a2).hi)) hr rfl)
  · cases hF

-- impl.HasI
theorem impl_HasI_hasI_ok : Fn Try.prog 61 F_hasI := by
  refine fn_of_go (O := orc [⟨50, F_notOk, impl_IsWhole_notOk_ok⟩, ⟨52, F_within, impl_within_within_ok⟩]) mixed T_ok (orc_sound _) Try.func61 (by kernel_rfl) rfl Try.ntmps61 (by kernel_rfl) Try.results61 ?_
  intro args g pre r new hF hpre
  unfold F_hasI at hF
  split at hF
  · rename_i a1 a2 n
    simp only [Option.some.injEq, Prod.mk.injEq] at hF
    obtain ⟨rfl, hr, rfl⟩ := hF
    refine ⟨by simp, ?_⟩
    simp (config := { maxSteps := 4000000, implicitDefEqProofs := false }) only [F_notOk_eq, F_within_eq, go_seq', go_reg, go_draw, rest_n, rest_r, rest_e, go_cond, go_block, go_ret_, go_skip, go_exit, blockK_n, blockK_r, blockK_e, ops_nil, ops_gate, ops_move, ops_assign, ops_pick, ops_box, ops_load, ops_store, ops_bin, ops_un, ops_conv, ops_fieldAddr, ops_extract, ops_builtin, ops_call, ops_alloc, ops_build, st1_some, stH_some, stC_nil, reqO_some, cndO_some, putE_some, putE_none, tell_some, look_hit, look_miss, opd_tmp, opd_int, opd_bool, opd_func, opdA_eq, opdP_eq, toA_v, toP_v, sp_eq, cells_p, cells_agg, cellsOf_p, cellsOf_agg, boxO_some, loadO_own, loadC_int, loadC_bool, loadC_pair, storeO_own, storeC_0, storeC_1, storeC_2, storeC_c, size_int, size_bool, size_pair, faddr_0, faddr_1, conv_int, un_not, un_neg, un_xor, ext_0, ext_1, ext_2, max_v, min_v, bin_add, bin_sub, bin_mul, bin_and, bin_or, bin_xor, bin_eql, bin_neq, bin_lss, bin_leq, bin_gtr, bin_geq, grd_b, grd_u, slotV_some, gateP_eq, gateO_some, asBoolS_b, slotOf_tmp, gslot_0, gslot_s, beq_t, beq_f, ↓cnd_t, ↓cnd_f, cnd_not, callR_eq, calleeO_fn, argsO_eq, pairT_some, capsA_nil, capsA_cons, trArgs_nil, trArgs_agg, trArgs_p, trArgs_ptr, ptrT_some, trArgs_clo, cloT_some, consT_some, trPts_nil, trPts_cons, ptsT_some, consP_some, loadCell_own, loadCell_giv, calleeO_clo, tellO_some, argsA_nil, argsA_cons, consO_some, orc_cons, ends_r, ends_n, resAll_nil, resAll_cons, resV_tmp, resV_cell, resC_own, cellV_pair, cellV_int, startEnv, Option.map_some, List.length_nil, List.length_cons, List.nil_append, List.cons_append, List.getElem?_cons_zero, List.getElem?_cons_succ, List.set_cons_zero, List.set_cons_succ, Bool.not_true, Bool.not_false, reduceIte, Nat.reduceEqDiff, Nat.reduceAdd, Nat.reduceLT, partsP_cons, partsP_nil, conP_some, T2, T3, T59, T80, T4, T27, T25, T61, dr_nil, dr_move, dr_assign, dr_box, dr_load, dr_bin, dr_un, dr_conv, dr_fieldAddr, dr_extract, dr_builtin, dr_call, dr_alloc, dr_index, dr_indexAddr, dr_build, dr_buildSlice, dr_makeFunc, dr_store, drawN_p, drawN_g, drawE_s, ifS_t, bindsA_nil, bindsA_cons, waitsA_nil, waitsA_cons, allWait_0, allWait_s, binds_data, binds_chain, binds_guard, binds_phase, binds_text, binds_gc, heapA_none, heapA_some, sameLen_self, sameLen_nil, sameLen_cons, sameLen_l, sameLen_set, entries_nil, entries_cons, entC_f, entC_t, entC_n, dstsOf_nil, dstsOf_some, dstsOf_no, valsEnv_nil, valsEnv_some, valsEnv_none, endHeap_n, endHeap_m, ops_index, ops_indexAddr, ops_buildSlice, blt_lit, beq_lit, Bool.or_true, Bool.true_or, Bool.or_false, Bool.false_or, Bool.and_true, Bool.true_and, Bool.and_self, cond_true, cond_false, List.append_nil, Iv.eta, Option.map_none, T68, T79, alloc_eq, alloc_pair', alloc_int, alloc_bool, build_eq, buildO_01, buildO_0, buildO_1, buildO_n, buildO_a, bsl_eq, bslO_2, idx_eq, idxO_l0, idxO_l1, iad_eq, iadO_l0, iadO_l1, binP_eql', binP_neq', binB_eql', binB_neq', eqT_pt, eqT_pf, eqT_bt, eqT_bf, decide_true, decide_false, seqK_n, seqK_r, seqK_e, loopK_n, loopK_r, loopK_e, reqs_true, Int.zero_sub, wrap_lit, wrapu_lit, Int.reduceLE, Int.reduceLT, Int.reduceAdd, Int.reduceSub, Int.reduceMul, Int.reduceNeg, Int.reduceEq, ops_makeFunc, makeFunc_eq, ptrsO_some, ptrsOf_nil, ptrsOf_cons, consQ_some, funcV_nil, funcV_cons, Option.bind_some, loadO_giv, bin_shr_u64, bin_shl_u64, bin_shr_i64, bin_shl_i64, and_m32', Int.reduceToNat, Int.reducePow, Int.reduceMod, Int.reduceDiv, wrap_u64s, true_or, or_true, true_and, and_true]
    repeat' (first | with_reducible refine cnd_split (fun hc => ?_) (fun hc => ?_) | with_reducible refine Reqs.mk ?_ ?_)
    all_goals (first | trivial | refine endS_b (t := (!okI (Iv.mk a1 a2) || within n (Iv.mk a1 a2).lo (Iv.mk a1 a2).hi)) hr ?_; simp_all)
  · cases hF

-- areOk
def F_areOk : FT
  | [.agg [.int .i64 a1, .int .i64 a2], .agg [.int .i64 b1, .int .i64 b2]], _ => some (True, .v (.c (.p (.bool (okI (Iv.mk a1 a2) && okI (Iv.mk b1 b2))))), [])
  | _, _ => none
theorem F_areOk_eq {a1 : Int} {a2 : Int} {b1 : Int} {b2 : Int} {g : List PC} : F_areOk [.agg [.int .i64 a1, .int .i64 a2], .agg [.int .i64 b1, .int .i64 b2]] g = some (True, .v (.c (.p (.bool (okI (Iv.mk a1 a2) && okI (Iv.mk b1 b2))))), []) := rfl

-- impl.areBounded
theorem impl_areBounded_areOk_ok : Fn Try.prog 90 F_areOk := by
  refine fn_of_go (O := orc [⟨92, F_okI, impl_ValidInterval_okI_ok⟩]) mixed T_ok (orc_sound _) Try.func90 (by kernel_rfl) rfl Try.ntmps90 (by kernel_rfl) Try.results90 ?_
  intro args g pre r new hF hpre
  unfold F_areOk at hF
  split at hF
  · rename_i a1 a2 b1 b2
    simp only [Option.some.injEq, Prod.mk.injEq] at hF
    obtain ⟨rfl, hr, rfl⟩ := hF
    refine ⟨by simp, ?_⟩
    simp (config := { maxSteps := 4000000, implicitDefEqProofs := false }) only [F_okI_eq, go_seq', go_reg, go_draw, rest_n, rest_r, rest_e, go_cond, go_block, go_ret_, go_skip, go_exit, blockK_n, blockK_r, blockK_e, ops_nil, ops_gate, ops_move, ops_assign, ops_pick, ops_box, ops_load, ops_store, ops_bin, ops_un, ops_conv, ops_fieldAddr, ops_extract, ops_builtin, ops_call, ops_alloc, ops_build, st1_some, stH_some, stC_nil, reqO_some, cndO_some, putE_some, putE_none, tell_some, look_hit, look_miss, opd_tmp, opd_int, opd_bool, opd_func, opdA_eq, opdP_eq, toA_v, toP_v, sp_eq, cells_p, cells_agg, cellsOf_p, cellsOf_agg, boxO_some, loadO_own, loadC_int, loadC_bool, loadC_pair, storeO_own, storeC_0, storeC_1, storeC_2, storeC_c, size_int, size_bool, size_pair, faddr_0, faddr_1, conv_int, un_not, un_neg, un_xor, ext_0, ext_1, ext_2, max_v, min_v, bin_add, bin_sub, bin_mul, bin_and, bin_or, bin_xor, bin_eql, bin_neq, bin_lss, bin_leq, bin_gtr, bin_geq, grd_b, grd_u, slotV_some, gateP_eq, gateO_some, asBoolS_b, slotOf_tmp, gslot_0, gslot_s, beq_t, beq_f, ↓cnd_t, ↓cnd_f, cnd_not, callR_eq, calleeO_fn, argsO_eq, pairT_some, capsA_nil, capsA_cons, trArgs_nil, trArgs_agg, trArgs_p, trArgs_ptr, ptrT_some, trArgs_clo, cloT_some, consT_some, trPts_nil, trPts_cons, ptsT_some, consP_some, loadCell_own, loadCell_giv, calleeO_clo, tellO_some, argsA_nil, argsA_cons, consO_some, orc_cons, ends_r, ends_n, resAll_nil, resAll_cons, resV_tmp, resV_cell, resC_own, cellV_pair, cellV_int, startEnv, Option.map_some, List.length_nil, List.length_cons, List.nil_append, List.cons_append, List.getElem?_cons_zero, List.getElem?_cons_succ, List.set_cons_zero, List.set_cons_succ, Bool.not_true, Bool.not_false, reduceIte, Nat.reduceEqDiff, Nat.reduceAdd, Nat.reduceLT, partsP_cons, partsP_nil, conP_some, T2, T3, T59, T80, T4, T27, T25, T61, dr_nil, dr_move, dr_assign, dr_box, dr_load, dr_bin, dr_un, dr_conv, dr_fieldAddr, dr_extract, dr_builtin, dr_call, dr_alloc, dr_index, dr_indexAddr, dr_build, dr_buildSlice, dr_makeFunc, dr_store, drawN_p, drawN_g, drawE_s, ifS_t, bindsA_nil, bindsA_cons, waitsA_nil, waitsA_cons, allWait_0, allWait_s, binds_data, binds_chain, binds_guard, binds_phase, binds_text, binds_gc, heapA_none, heapA_some, sameLen_self, sameLen_nil, sameLen_cons, sameLen_l, sameLen_set, entries_nil, entries_cons, entC_f, entC_t, entC_n, dstsOf_nil, dstsOf_some, dstsOf_no, valsEnv_nil, valsEnv_some, valsEnv_none, endHeap_n, endHeap_m, ops_index, ops_indexAddr, ops_buildSlice, blt_lit, beq_lit, Bool.or_true, Bool.true_or, Bool.or_false, Bool.false_or, Bool.and_true, Bool.true_and, Bool.and_self, cond_true, cond_false, List.append_nil, Iv.eta, Option.map_none, T68, T79, alloc_eq, alloc_pair', alloc_int, alloc_bool, build_eq, buildO_01, buildO_0, buildO_1, buildO_n, buildO_a, bsl_eq, bslO_2, idx_eq, idxO_l0, idxO_l1, iad_eq, iadO_l0, iadO_l1, binP_eql', binP_neq', binB_eql', binB_neq', eqT_pt, eqT_pf, eqT_bt, eqT_bf, decide_true, decide_false, seqK_n, seqK_r, seqK_e, loopK_n, loopK_r, loopK_e, reqs_true, Int.zero_sub, wrap_lit, wrapu_lit, Int.reduceLE, Int.reduceLT, Int.reduceAdd, Int.reduceSub, Int.reduceMul, Int.reduceNeg, Int.reduceEq, ops_makeFunc, makeFunc_eq, ptrsO_some, ptrsOf_nil, ptrsOf_cons, consQ_some, funcV_nil, funcV_cons, Option.bind_some, loadO_giv, bin_shr_u64, bin_shl_u64, bin_shr_i64, bin_shl_i64, and_m32', Int.reduceToNat, Int.reducePow, Int.reduceMod, Int.reduceDiv, wrap_u64s, true_or, or_true, true_and, and_true]
    repeat' (first | with_reducible refine cnd_split (fun hc => ?_) (fun hc => ?_) | with_reducible refine Reqs.mk ?_ ?_)
    all_goals (first | trivial | refine endS_b (t := (okI (Iv.mk a1 a2) && okI (Iv.mk b1 b2))) hr ?_; simp_all)
  · cases hF

-- absI
def nearI (a : Iv) : Int := if within 0 a.lo a.hi then 0 else min (absZ a.lo) (absZ a.hi)
def farI (a : Iv) : Int := max (absZ a.lo) (absZ a.hi)
def absI (a : Iv) : Iv := if okI a then ⟨nearI a, farI a⟩ else whole
def F_ends : FT
  | [.agg [.int .i64 a1, .int .i64 a2]], _ => some (okI (Iv.mk a1 a2) = true, .tup [.c (.p (.int .i64 (((nearI (Iv.mk a1 a2), farI (Iv.mk a1 a2))).1))), .c (.p (.int .i64 (((nearI (Iv.mk a1 a2), farI (Iv.mk a1 a2))).2)))], [])
  | _, _ => none
theorem F_ends_eq {a1 : Int} {a2 : Int} {g : List PC} : F_ends [.agg [.int .i64 a1, .int .i64 a2]] g = some (okI (Iv.mk a1 a2) = true, .tup [.c (.p (.int .i64 (((nearI (Iv.mk a1 a2), farI (Iv.mk a1 a2))).1))), .c (.p (.int .i64 (((nearI (Iv.mk a1 a2), farI (Iv.mk a1 a2))).2)))], []) := rfl
def F_absI : FT
  | [.agg [.int .i64 a1, .int .i64 a2]], _ => some (True, .v (.agg [.int .i64 ((absI (Iv.mk a1 a2))).lo, .int .i64 ((absI (Iv.mk a1 a2))).hi]), [])
  | _, _ => none
theorem F_absI_eq {a1 : Int} {a2 : Int} {g : List PC} : F_absI [.agg [.int .i64 a1, .int .i64 a2]] g = some (True, .v (.agg [.int .i64 ((absI (Iv.mk a1 a2))).lo, .int .i64 ((absI (Iv.mk a1 a2))).hi]), []) := rfl
theorem nearI_ok {a : Iv} (h : okI a = true) : okI ⟨nearI a, farI a⟩ = true := by
  rw [okI_iff] at h ⊢
  simp only [nearI, farI, absZ, within]
  repeat' split
  all_goals simp_all
  all_goals omega

-- spec.l04Ends
theorem spec_l04Ends_ends_ok : Fn Try.prog 57 F_ends := by
  refine fn_of_go (O := orc [⟨88, F_min2, spec_l00Min_min2_ok⟩, ⟨89, F_max2, spec_l00Max_max2_ok⟩, ⟨94, F_has, spec_l04Has_has_ok⟩]) mixed T_ok (orc_sound _) Try.func57 (by kernel_rfl) rfl Try.ntmps57 (by kernel_rfl) Try.results57 ?_
  intro args g pre r new hF hpre
  unfold F_ends at hF
  split at hF
  · rename_i a1 a2
    simp only [Option.some.injEq, Prod.mk.injEq] at hF
    obtain ⟨rfl, hr, rfl⟩ := hF
    refine ⟨by simp, ?_⟩
    simp (config := { maxSteps := 4000000, implicitDefEqProofs := false }) only [F_has_eq, F_max2_eq, F_min2_eq, go_seq', go_reg, go_draw, rest_n, rest_r, rest_e, go_cond, go_block, go_ret_, go_skip, go_exit, blockK_n, blockK_r, blockK_e, ops_nil, ops_gate, ops_move, ops_assign, ops_pick, ops_box, ops_load, ops_store, ops_bin, ops_un, ops_conv, ops_fieldAddr, ops_extract, ops_builtin, ops_call, ops_alloc, ops_build, st1_some, stH_some, stC_nil, reqO_some, cndO_some, putE_some, putE_none, tell_some, look_hit, look_miss, opd_tmp, opd_int, opd_bool, opd_func, opdA_eq, opdP_eq, toA_v, toP_v, sp_eq, cells_p, cells_agg, cellsOf_p, cellsOf_agg, boxO_some, loadO_own, loadC_int, loadC_bool, loadC_pair, storeO_own, storeC_0, storeC_1, storeC_2, storeC_c, size_int, size_bool, size_pair, faddr_0, faddr_1, conv_int, un_not, un_neg, un_xor, ext_0, ext_1, ext_2, max_v, min_v, bin_add, bin_sub, bin_mul, bin_and, bin_or, bin_xor, bin_eql, bin_neq, bin_lss, bin_leq, bin_gtr, bin_geq, grd_b, grd_u, slotV_some, gateP_eq, gateO_some, asBoolS_b, slotOf_tmp, gslot_0, gslot_s, beq_t, beq_f, ↓cnd_t, ↓cnd_f, cnd_not, callR_eq, calleeO_fn, argsO_eq, pairT_some, capsA_nil, capsA_cons, trArgs_nil, trArgs_agg, trArgs_p, trArgs_ptr, ptrT_some, trArgs_clo, cloT_some, consT_some, trPts_nil, trPts_cons, ptsT_some, consP_some, loadCell_own, loadCell_giv, calleeO_clo, tellO_some, argsA_nil, argsA_cons, consO_some, orc_cons, ends_r, ends_n, resAll_nil, resAll_cons, resV_tmp, resV_cell, resC_own, cellV_pair, cellV_int, startEnv, Option.map_some, List.length_nil, List.length_cons, List.nil_append, List.cons_append, List.getElem?_cons_zero, List.getElem?_cons_succ, List.set_cons_zero, List.set_cons_succ, Bool.not_true, Bool.not_false, reduceIte, Nat.reduceEqDiff, Nat.reduceAdd, Nat.reduceLT, partsP_cons, partsP_nil, conP_some, T2, T3, T59, T80, T4, T27, T25, T61, dr_nil, dr_move, dr_assign, dr_box, dr_load, dr_bin, dr_un, dr_conv, dr_fieldAddr, dr_extract, dr_builtin, dr_call, dr_alloc, dr_index, dr_indexAddr, dr_build, dr_buildSlice, dr_makeFunc, dr_store, drawN_p, drawN_g, drawE_s, ifS_t, bindsA_nil, bindsA_cons, waitsA_nil, waitsA_cons, allWait_0, allWait_s, binds_data, binds_chain, binds_guard, binds_phase, binds_text, binds_gc, heapA_none, heapA_some, sameLen_self, sameLen_nil, sameLen_cons, sameLen_l, sameLen_set, entries_nil, entries_cons, entC_f, entC_t, entC_n, dstsOf_nil, dstsOf_some, dstsOf_no, valsEnv_nil, valsEnv_some, valsEnv_none, endHeap_n, endHeap_m, ops_index, ops_indexAddr, ops_buildSlice, blt_lit, beq_lit, Bool.or_true, Bool.true_or, Bool.or_false, Bool.false_or, Bool.and_true, Bool.true_and, Bool.and_self, cond_true, cond_false, List.append_nil, Iv.eta, Option.map_none, T68, T79, alloc_eq, alloc_pair', alloc_int, alloc_bool, build_eq, buildO_01, buildO_0, buildO_1, buildO_n, buildO_a, bsl_eq, bslO_2, idx_eq, idxO_l0, idxO_l1, iad_eq, iadO_l0, iadO_l1, binP_eql', binP_neq', binB_eql', binB_neq', eqT_pt, eqT_pf, eqT_bt, eqT_bf, decide_true, decide_false, seqK_n, seqK_r, seqK_e, loopK_n, loopK_r, loopK_e, reqs_true, Int.zero_sub, wrap_lit, wrapu_lit, Int.reduceLE, Int.reduceLT, Int.reduceAdd, Int.reduceSub, Int.reduceMul, Int.reduceNeg, Int.reduceEq, ops_makeFunc, makeFunc_eq, ptrsO_some, ptrsOf_nil, ptrsOf_cons, consQ_some, funcV_nil, funcV_cons, Option.bind_some, loadO_giv, bin_shr_u64, bin_shl_u64, bin_shr_i64, bin_shl_i64, and_m32', Int.reduceToNat, Int.reducePow, Int.reduceMod, Int.reduceDiv, wrap_u64s, true_or, or_true, true_and, and_true]
    rw [okI_iff] at hpre
    simp only at hpre
    repeat' (first | with_reducible refine cnd_split (fun hc => ?_) (fun hc => ?_) | with_reducible refine Reqs.mk ?_ ?_)
    all_goals first
      | trivial
      | (refine endS_ii (t := ((nearI (Iv.mk a1 a2), farI (Iv.mk a1 a2)))) hr ?_
         simp only [IntKind.wrap_i64, nearI, farI, absZ, hc, Prod.mk.injEq]
         refine ⟨?_, ?_⟩ <;> simp <;> repeat' split
         all_goals omega)
  · cases hF

-- spec.AbsI
theorem spec_AbsI_absI_ok : Fn Try.prog 25 F_absI := by
  refine fn_of_go (O := orc [⟨55, F_okI, spec_l04Ok_okI_ok⟩, ⟨56, F_whole, spec_l04Whole_whole_ok⟩, ⟨57, F_ends, spec_l04Ends_ends_ok⟩, ⟨58, F_mkI, spec_l04Make_mkI_ok⟩]) mixed T_ok (orc_sound _) Try.func25 (by kernel_rfl) rfl Try.ntmps25 (by kernel_rfl) Try.results25 ?_
  intro args g pre r new hF hpre
  unfold F_absI at hF
  split at hF
  · rename_i a1 a2
    simp only [Option.some.injEq, Prod.mk.injEq] at hF
    obtain ⟨rfl, hr, rfl⟩ := hF
    refine ⟨by simp, ?_⟩
    simp (config := { maxSteps := 4000000, implicitDefEqProofs := false }) only [F_ends_eq, F_mkI_eq, F_okI_eq, F_whole_eq, go_seq', go_reg, go_draw, rest_n, rest_r, rest_e, go_cond, go_block, go_ret_, go_skip, go_exit, blockK_n, blockK_r, blockK_e, ops_nil, ops_gate, ops_move, ops_assign, ops_pick, ops_box, ops_load, ops_store, ops_bin, ops_un, ops_conv, ops_fieldAddr, ops_extract, ops_builtin, ops_call, ops_alloc, ops_build, st1_some, stH_some, stC_nil, reqO_some, cndO_some, putE_some, putE_none, tell_some, look_hit, look_miss, opd_tmp, opd_int, opd_bool, opd_func, opdA_eq, opdP_eq, toA_v, toP_v, sp_eq, cells_p, cells_agg, cellsOf_p, cellsOf_agg, boxO_some, loadO_own, loadC_int, loadC_bool, loadC_pair, storeO_own, storeC_0, storeC_1, storeC_2, storeC_c, size_int, size_bool, size_pair, faddr_0, faddr_1, conv_int, un_not, un_neg, un_xor, ext_0, ext_1, ext_2, max_v, min_v, bin_add, bin_sub, bin_mul, bin_and, bin_or, bin_xor, bin_eql, bin_neq, bin_lss, bin_leq, bin_gtr, bin_geq, grd_b, grd_u, slotV_some, gateP_eq, gateO_some, asBoolS_b, slotOf_tmp, gslot_0, gslot_s, beq_t, beq_f, ↓cnd_t, ↓cnd_f, cnd_not, callR_eq, calleeO_fn, argsO_eq, pairT_some, capsA_nil, capsA_cons, trArgs_nil, trArgs_agg, trArgs_p, trArgs_ptr, ptrT_some, trArgs_clo, cloT_some, consT_some, trPts_nil, trPts_cons, ptsT_some, consP_some, loadCell_own, loadCell_giv, calleeO_clo, tellO_some, argsA_nil, argsA_cons, consO_some, orc_cons, ends_r, ends_n, resAll_nil, resAll_cons, resV_tmp, resV_cell, resC_own, cellV_pair, cellV_int, startEnv, Option.map_some, List.length_nil, List.length_cons, List.nil_append, List.cons_append, List.getElem?_cons_zero, List.getElem?_cons_succ, List.set_cons_zero, List.set_cons_succ, Bool.not_true, Bool.not_false, reduceIte, Nat.reduceEqDiff, Nat.reduceAdd, Nat.reduceLT, partsP_cons, partsP_nil, conP_some, T2, T3, T59, T80, T4, T27, T25, T61, dr_nil, dr_move, dr_assign, dr_box, dr_load, dr_bin, dr_un, dr_conv, dr_fieldAddr, dr_extract, dr_builtin, dr_call, dr_alloc, dr_index, dr_indexAddr, dr_build, dr_buildSlice, dr_makeFunc, dr_store, drawN_p, drawN_g, drawE_s, ifS_t, bindsA_nil, bindsA_cons, waitsA_nil, waitsA_cons, allWait_0, allWait_s, binds_data, binds_chain, binds_guard, binds_phase, binds_text, binds_gc, heapA_none, heapA_some, sameLen_self, sameLen_nil, sameLen_cons, sameLen_l, sameLen_set, entries_nil, entries_cons, entC_f, entC_t, entC_n, dstsOf_nil, dstsOf_some, dstsOf_no, valsEnv_nil, valsEnv_some, valsEnv_none, endHeap_n, endHeap_m, ops_index, ops_indexAddr, ops_buildSlice, blt_lit, beq_lit, Bool.or_true, Bool.true_or, Bool.or_false, Bool.false_or, Bool.and_true, Bool.true_and, Bool.and_self, cond_true, cond_false, List.append_nil, Iv.eta, Option.map_none, T68, T79, alloc_eq, alloc_pair', alloc_int, alloc_bool, build_eq, buildO_01, buildO_0, buildO_1, buildO_n, buildO_a, bsl_eq, bslO_2, idx_eq, idxO_l0, idxO_l1, iad_eq, iadO_l0, iadO_l1, binP_eql', binP_neq', binB_eql', binB_neq', eqT_pt, eqT_pf, eqT_bt, eqT_bf, decide_true, decide_false, seqK_n, seqK_r, seqK_e, loopK_n, loopK_r, loopK_e, reqs_true, Int.zero_sub, wrap_lit, wrapu_lit, Int.reduceLE, Int.reduceLT, Int.reduceAdd, Int.reduceSub, Int.reduceMul, Int.reduceNeg, Int.reduceEq, ops_makeFunc, makeFunc_eq, ptrsO_some, ptrsOf_nil, ptrsOf_cons, consQ_some, funcV_nil, funcV_cons, Option.bind_some, loadO_giv, bin_shr_u64, bin_shl_u64, bin_shr_i64, bin_shl_i64, and_m32', Int.reduceToNat, Int.reducePow, Int.reduceMod, Int.reduceDiv, wrap_u64s, true_or, or_true, true_and, and_true]
    repeat' (first | with_reducible refine cnd_split (fun hc => ?_) (fun hc => ?_) | with_reducible refine Reqs.mk ?_ ?_)
    all_goals first
      | trivial
      | (refine endS_v (t := (absI (Iv.mk a1 a2))) hr ?_; simp_all [absI, mkI, nearI_ok])
      | simp_all
  · cases hF

-- impl.AbsI
theorem impl_AbsI_absI_ok : Fn Try.prog 26 F_absI := by
  refine fn_of_go (O := orc [⟨50, F_notOk, impl_IsWhole_notOk_ok⟩, ⟨59, F_whole, impl_Whole_whole_ok⟩, ⟨60, F_absZ, impl_abs_absZ_ok⟩, ⟨61, F_hasI, impl_HasI_hasI_ok⟩]) mixed T_ok (orc_sound _) Try.func26 (by kernel_rfl) rfl Try.ntmps26 (by kernel_rfl) Try.results26 ?_
  intro args g pre r new hF hpre
  unfold F_absI at hF
  split at hF
  · rename_i a1 a2
    simp only [Option.some.injEq, Prod.mk.injEq] at hF
    obtain ⟨rfl, hr, rfl⟩ := hF
    refine ⟨by simp, ?_⟩
    simp (config := { maxSteps := 4000000, implicitDefEqProofs := false }) only [F_absZ_eq, F_hasI_eq, F_notOk_eq, F_whole_eq, go_seq', go_reg, go_draw, rest_n, rest_r, rest_e, go_cond, go_block, go_ret_, go_skip, go_exit, blockK_n, blockK_r, blockK_e, ops_nil, ops_gate, ops_move, ops_assign, ops_pick, ops_box, ops_load, ops_store, ops_bin, ops_un, ops_conv, ops_fieldAddr, ops_extract, ops_builtin, ops_call, ops_alloc, ops_build, st1_some, stH_some, stC_nil, reqO_some, cndO_some, putE_some, putE_none, tell_some, look_hit, look_miss, opd_tmp, opd_int, opd_bool, opd_func, opdA_eq, opdP_eq, toA_v, toP_v, sp_eq, cells_p, cells_agg, cellsOf_p, cellsOf_agg, boxO_some, loadO_own, loadC_int, loadC_bool, loadC_pair, storeO_own, storeC_0, storeC_1, storeC_2, storeC_c, size_int, size_bool, size_pair, faddr_0, faddr_1, conv_int, un_not, un_neg, un_xor, ext_0, ext_1, ext_2, max_v, min_v, bin_add, bin_sub, bin_mul, bin_and, bin_or, bin_xor, bin_eql, bin_neq, bin_lss, bin_leq, bin_gtr, bin_geq, grd_b, grd_u, slotV_some, gateP_eq, gateO_some, asBoolS_b, slotOf_tmp, gslot_0, gslot_s, beq_t, beq_f, ↓cnd_t, ↓cnd_f, cnd_not, callR_eq, calleeO_fn, argsO_eq, pairT_some, capsA_nil, capsA_cons, trArgs_nil, trArgs_agg, trArgs_p, trArgs_ptr, ptrT_some, trArgs_clo, cloT_some, consT_some, trPts_nil, trPts_cons, ptsT_some, consP_some, loadCell_own, loadCell_giv, calleeO_clo, tellO_some, argsA_nil, argsA_cons, consO_some, orc_cons, ends_r, ends_n, resAll_nil, resAll_cons, resV_tmp, resV_cell, resC_own, cellV_pair, cellV_int, startEnv, Option.map_some, List.length_nil, List.length_cons, List.nil_append, List.cons_append, List.getElem?_cons_zero, List.getElem?_cons_succ, List.set_cons_zero, List.set_cons_succ, Bool.not_true, Bool.not_false, reduceIte, Nat.reduceEqDiff, Nat.reduceAdd, Nat.reduceLT, partsP_cons, partsP_nil, conP_some, T2, T3, T59, T80, T4, T27, T25, T61, dr_nil, dr_move, dr_assign, dr_box, dr_load, dr_bin, dr_un, dr_conv, dr_fieldAddr, dr_extract, dr_builtin, dr_call, dr_alloc, dr_index, dr_indexAddr, dr_build, dr_buildSlice, dr_makeFunc, dr_store, drawN_p, drawN_g, drawE_s, ifS_t, bindsA_nil, bindsA_cons, waitsA_nil, waitsA_cons, allWait_0, allWait_s, binds_data, binds_chain, binds_guard, binds_phase, binds_text, binds_gc, heapA_none, heapA_some, sameLen_self, sameLen_nil, sameLen_cons, sameLen_l, sameLen_set, entries_nil, entries_cons, entC_f, entC_t, entC_n, dstsOf_nil, dstsOf_some, dstsOf_no, valsEnv_nil, valsEnv_some, valsEnv_none, endHeap_n, endHeap_m, ops_index, ops_indexAddr, ops_buildSlice, blt_lit, beq_lit, Bool.or_true, Bool.true_or, Bool.or_false, Bool.false_or, Bool.and_true, Bool.true_and, Bool.and_self, cond_true, cond_false, List.append_nil, Iv.eta, Option.map_none, T68, T79, alloc_eq, alloc_pair', alloc_int, alloc_bool, build_eq, buildO_01, buildO_0, buildO_1, buildO_n, buildO_a, bsl_eq, bslO_2, idx_eq, idxO_l0, idxO_l1, iad_eq, iadO_l0, iadO_l1, binP_eql', binP_neq', binB_eql', binB_neq', eqT_pt, eqT_pf, eqT_bt, eqT_bf, decide_true, decide_false, seqK_n, seqK_r, seqK_e, loopK_n, loopK_r, loopK_e, reqs_true, Int.zero_sub, wrap_lit, wrapu_lit, Int.reduceLE, Int.reduceLT, Int.reduceAdd, Int.reduceSub, Int.reduceMul, Int.reduceNeg, Int.reduceEq, ops_makeFunc, makeFunc_eq, ptrsO_some, ptrsOf_nil, ptrsOf_cons, consQ_some, funcV_nil, funcV_cons, Option.bind_some, loadO_giv, bin_shr_u64, bin_shl_u64, bin_shr_i64, bin_shl_i64, and_m32', Int.reduceToNat, Int.reducePow, Int.reduceMod, Int.reduceDiv, wrap_u64s, true_or, or_true, true_and, and_true]
    repeat' (first | with_reducible refine cnd_split (fun hc => ?_) (fun hc => ?_) | with_reducible refine Reqs.mk ?_ ?_)
    all_goals (have hk := hc; first | rw [okI_iff] at hk | skip)
    all_goals first
      | (simp only at hk; omega)
      | (refine endS_v (t := (absI (Iv.mk a1 a2))) hr ?_; simp_all [absI, nearI, farI])
  · cases hF

-- negI
def negI (a : Iv) : Iv := if okI a then ⟨-a.hi, -a.lo⟩ else whole
def F_negI : FT
  | [.agg [.int .i64 a1, .int .i64 a2]], _ => some (True, .v (.agg [.int .i64 ((negI (Iv.mk a1 a2))).lo, .int .i64 ((negI (Iv.mk a1 a2))).hi]), [])
  | _, _ => none
theorem F_negI_eq {a1 : Int} {a2 : Int} {g : List PC} : F_negI [.agg [.int .i64 a1, .int .i64 a2]] g = some (True, .v (.agg [.int .i64 ((negI (Iv.mk a1 a2))).lo, .int .i64 ((negI (Iv.mk a1 a2))).hi]), []) := rfl
def addI (a b : Iv) : Iv := if okI a && okI b then mkI (a.lo + b.lo) (a.hi + b.hi) else whole
def F_addI : FT
  | [.agg [.int .i64 a1, .int .i64 a2], .agg [.int .i64 b1, .int .i64 b2]], _ => some (True, .v (.agg [.int .i64 ((addI (Iv.mk a1 a2) (Iv.mk b1 b2))).lo, .int .i64 ((addI (Iv.mk a1 a2) (Iv.mk b1 b2))).hi]), [])
  | _, _ => none
theorem F_addI_eq {a1 : Int} {a2 : Int} {b1 : Int} {b2 : Int} {g : List PC} : F_addI [.agg [.int .i64 a1, .int .i64 a2], .agg [.int .i64 b1, .int .i64 b2]] g = some (True, .v (.agg [.int .i64 ((addI (Iv.mk a1 a2) (Iv.mk b1 b2))).lo, .int .i64 ((addI (Iv.mk a1 a2) (Iv.mk b1 b2))).hi]), []) := rfl
def subI (a b : Iv) : Iv := if okI a && okI b then mkI (a.lo - b.hi) (a.hi - b.lo) else whole
def F_subI : FT
  | [.agg [.int .i64 a1, .int .i64 a2], .agg [.int .i64 b1, .int .i64 b2]], _ => some (True, .v (.agg [.int .i64 ((subI (Iv.mk a1 a2) (Iv.mk b1 b2))).lo, .int .i64 ((subI (Iv.mk a1 a2) (Iv.mk b1 b2))).hi]), [])
  | _, _ => none
theorem F_subI_eq {a1 : Int} {a2 : Int} {b1 : Int} {b2 : Int} {g : List PC} : F_subI [.agg [.int .i64 a1, .int .i64 a2], .agg [.int .i64 b1, .int .i64 b2]] g = some (True, .v (.agg [.int .i64 ((subI (Iv.mk a1 a2) (Iv.mk b1 b2))).lo, .int .i64 ((subI (Iv.mk a1 a2) (Iv.mk b1 b2))).hi]), []) := rfl
theorem negI_ok {a : Iv} (h : okI a = true) : okI ⟨-a.hi, -a.lo⟩ = true := by
  rw [okI_iff] at h ⊢; simp only; omega
theorem neg_ok {a b : Int} (h : okI ⟨a, b⟩ = true) : okI ⟨-b, -a⟩ = true := by
  rw [okI_mk] at *; omega
theorem okI_whole : okI whole = false := rfl
theorem sub_neg (a b : Iv) : addI a (negI b) = subI a b := by
  unfold addI subI negI
  cases hb : okI b with
  | false => simp [okI_whole]
  | true => simp [negI_ok hb, Int.sub_eq_add_neg]

-- impl.NegI
theorem impl_NegI_negI_ok : Fn Try.prog 70 F_negI := by
  refine fn_of_go (O := orc [⟨50, F_notOk, impl_IsWhole_notOk_ok⟩, ⟨59, F_whole, impl_Whole_whole_ok⟩]) mixed T_ok (orc_sound _) Try.func70 (by kernel_rfl) rfl Try.ntmps70 (by kernel_rfl) Try.results70 ?_
  intro args g pre r new hF hpre
  unfold F_negI at hF
  split at hF
  · rename_i a1 a2
    simp only [Option.some.injEq, Prod.mk.injEq] at hF
    obtain ⟨rfl, hr, rfl⟩ := hF
    refine ⟨by simp, ?_⟩
    simp (config := { maxSteps := 4000000, implicitDefEqProofs := false }) only [F_notOk_eq, F_whole_eq, go_seq', go_reg, go_draw, rest_n, rest_r, rest_e, go_cond, go_block, go_ret_, go_skip, go_exit, blockK_n, blockK_r, blockK_e, ops_nil, ops_gate, ops_move, ops_assign, ops_pick, ops_box, ops_load, ops_store, ops_bin, ops_un, ops_conv, ops_fieldAddr, ops_extract, ops_builtin, ops_call, ops_alloc, ops_build, st1_some, stH_some, stC_nil, reqO_some, cndO_some, putE_some, putE_none, tell_some, look_hit, look_miss, opd_tmp, opd_int, opd_bool, opd_func, opdA_eq, opdP_eq, toA_v, toP_v, sp_eq, cells_p, cells_agg, cellsOf_p, cellsOf_agg, boxO_some, loadO_own, loadC_int, loadC_bool, loadC_pair, storeO_own, storeC_0, storeC_1, storeC_2, storeC_c, size_int, size_bool, size_pair, faddr_0, faddr_1, conv_int, un_not, un_neg, un_xor, ext_0, ext_1, ext_2, max_v, min_v, bin_add, bin_sub, bin_mul, bin_and, bin_or, bin_xor, bin_eql, bin_neq, bin_lss, bin_leq, bin_gtr, bin_geq, grd_b, grd_u, slotV_some, gateP_eq, gateO_some, asBoolS_b, slotOf_tmp, gslot_0, gslot_s, beq_t, beq_f, ↓cnd_t, ↓cnd_f, cnd_not, callR_eq, calleeO_fn, argsO_eq, pairT_some, capsA_nil, capsA_cons, trArgs_nil, trArgs_agg, trArgs_p, trArgs_ptr, ptrT_some, trArgs_clo, cloT_some, consT_some, trPts_nil, trPts_cons, ptsT_some, consP_some, loadCell_own, loadCell_giv, calleeO_clo, tellO_some, argsA_nil, argsA_cons, consO_some, orc_cons, ends_r, ends_n, resAll_nil, resAll_cons, resV_tmp, resV_cell, resC_own, cellV_pair, cellV_int, startEnv, Option.map_some, List.length_nil, List.length_cons, List.nil_append, List.cons_append, List.getElem?_cons_zero, List.getElem?_cons_succ, List.set_cons_zero, List.set_cons_succ, Bool.not_true, Bool.not_false, reduceIte, Nat.reduceEqDiff, Nat.reduceAdd, Nat.reduceLT, partsP_cons, partsP_nil, conP_some, T2, T3, T59, T80, T4, T27, T25, T61, dr_nil, dr_move, dr_assign, dr_box, dr_load, dr_bin, dr_un, dr_conv, dr_fieldAddr, dr_extract, dr_builtin, dr_call, dr_alloc, dr_index, dr_indexAddr, dr_build, dr_buildSlice, dr_makeFunc, dr_store, drawN_p, drawN_g, drawE_s, ifS_t, bindsA_nil, bindsA_cons, waitsA_nil, waitsA_cons, allWait_0, allWait_s, binds_data, binds_chain, binds_guard, binds_phase, binds_text, binds_gc, heapA_none, heapA_some, sameLen_self, sameLen_nil, sameLen_cons, sameLen_l, sameLen_set, entries_nil, entries_cons, entC_f, entC_t, entC_n, dstsOf_nil, dstsOf_some, dstsOf_no, valsEnv_nil, valsEnv_some, valsEnv_none, endHeap_n, endHeap_m, ops_index, ops_indexAddr, ops_buildSlice, blt_lit, beq_lit, Bool.or_true, Bool.true_or, Bool.or_false, Bool.false_or, Bool.and_true, Bool.true_and, Bool.and_self, cond_true, cond_false, List.append_nil, Iv.eta, Option.map_none, T68, T79, alloc_eq, alloc_pair', alloc_int, alloc_bool, build_eq, buildO_01, buildO_0, buildO_1, buildO_n, buildO_a, bsl_eq, bslO_2, idx_eq, idxO_l0, idxO_l1, iad_eq, iadO_l0, iadO_l1, binP_eql', binP_neq', binB_eql', binB_neq', eqT_pt, eqT_pf, eqT_bt, eqT_bf, decide_true, decide_false, seqK_n, seqK_r, seqK_e, loopK_n, loopK_r, loopK_e, reqs_true, Int.zero_sub, wrap_lit, wrapu_lit, Int.reduceLE, Int.reduceLT, Int.reduceAdd, Int.reduceSub, Int.reduceMul, Int.reduceNeg, Int.reduceEq, ops_makeFunc, makeFunc_eq, ptrsO_some, ptrsOf_nil, ptrsOf_cons, consQ_some, funcV_nil, funcV_cons, Option.bind_some, loadO_giv, bin_shr_u64, bin_shl_u64, bin_shr_i64, bin_shl_i64, and_m32', Int.reduceToNat, Int.reducePow, Int.reduceMod, Int.reduceDiv, wrap_u64s, true_or, or_true, true_and, and_true]
    repeat' (first | with_reducible refine cnd_split (fun hc => ?_) (fun hc => ?_) | with_reducible refine Reqs.mk ?_ ?_)
    all_goals (first | trivial | (refine endS_v (t := (negI (Iv.mk a1 a2))) hr ?_; try simp_all [negI]))
    all_goals (try simp only [okI_mk, within_iff] at *)
    all_goals (try simp (disch := omega) only [wrap_om, wrapu_om, mkI_lin])
    all_goals (try simp_all [negI])
    all_goals (try omega)
  · cases hF

-- spec.NegI
theorem spec_NegI_negI_ok : Fn Try.prog 72 F_negI := by
  refine fn_of_go (O := orc [⟨55, F_okI, spec_l04Ok_okI_ok⟩, ⟨56, F_whole, spec_l04Whole_whole_ok⟩, ⟨58, F_mkI, spec_l04Make_mkI_ok⟩]) mixed T_ok (orc_sound _) Try.func72 (by kernel_rfl) rfl Try.ntmps72 (by kernel_rfl) Try.results72 ?_
  intro args g pre r new hF hpre
  unfold F_negI at hF
  split at hF
  · rename_i a1 a2
    simp only [Option.some.injEq, Prod.mk.injEq] at hF
    obtain ⟨rfl, hr, rfl⟩ := hF
    refine ⟨by simp, ?_⟩
    simp (config := { maxSteps := 4000000, implicitDefEqProofs := false }) only [F_mkI_eq, F_okI_eq, F_whole_eq, go_seq', go_reg, go_draw, rest_n, rest_r, rest_e, go_cond, go_block, go_ret_, go_skip, go_exit, blockK_n, blockK_r, blockK_e, ops_nil, ops_gate, ops_move, ops_assign, ops_pick, ops_box, ops_load, ops_store, ops_bin, ops_un, ops_conv, ops_fieldAddr, ops_extract, ops_builtin, ops_call, ops_alloc, ops_build, st1_some, stH_some, stC_nil, reqO_some, cndO_some, putE_some, putE_none, tell_some, look_hit, look_miss, opd_tmp, opd_int, opd_bool, opd_func, opdA_eq, opdP_eq, toA_v, toP_v, sp_eq, cells_p, cells_agg, cellsOf_p, cellsOf_agg, boxO_some, loadO_own, loadC_int, loadC_bool, loadC_pair, storeO_own, storeC_0, storeC_1, storeC_2, storeC_c, size_int, size_bool, size_pair, faddr_0, faddr_1, conv_int, un_not, un_neg, un_xor, ext_0, ext_1, ext_2, max_v, min_v, bin_add, bin_sub, bin_mul, bin_and, bin_or, bin_xor, bin_eql, bin_neq, bin_lss, bin_leq, bin_gtr, bin_geq, grd_b, grd_u, slotV_some, gateP_eq, gateO_some, asBoolS_b, slotOf_tmp, gslot_0, gslot_s, beq_t, beq_f, ↓cnd_t, ↓cnd_f, cnd_not, callR_eq, calleeO_fn, argsO_eq, pairT_some, capsA_nil, capsA_cons, trArgs_nil, trArgs_agg, trArgs_p, trArgs_ptr, ptrT_some, trArgs_clo, cloT_some, consT_some, trPts_nil, trPts_cons, ptsT_some, consP_some, loadCell_own, loadCell_giv, calleeO_clo, tellO_some, argsA_nil, argsA_cons, consO_some, orc_cons, ends_r, ends_n, resAll_nil, resAll_cons, resV_tmp, resV_cell, resC_own, cellV_pair, cellV_int, startEnv, Option.map_some, List.length_nil, List.length_cons, List.nil_append, List.cons_append, List.getElem?_cons_zero, List.getElem?_cons_succ, List.set_cons_zero, List.set_cons_succ, Bool.not_true, Bool.not_false, reduceIte, Nat.reduceEqDiff, Nat.reduceAdd, Nat.reduceLT, partsP_cons, partsP_nil, conP_some, T2, T3, T59, T80, T4, T27, T25, T61, dr_nil, dr_move, dr_assign, dr_box, dr_load, dr_bin, dr_un, dr_conv, dr_fieldAddr, dr_extract, dr_builtin, dr_call, dr_alloc, dr_index, dr_indexAddr, dr_build, dr_buildSlice, dr_makeFunc, dr_store, drawN_p, drawN_g, drawE_s, ifS_t, bindsA_nil, bindsA_cons, waitsA_nil, waitsA_cons, allWait_0, allWait_s, binds_data, binds_chain, binds_guard, binds_phase, binds_text, binds_gc, heapA_none, heapA_some, sameLen_self, sameLen_nil, sameLen_cons, sameLen_l, sameLen_set, entries_nil, entries_cons, entC_f, entC_t, entC_n, dstsOf_nil, dstsOf_some, dstsOf_no, valsEnv_nil, valsEnv_some, valsEnv_none, endHeap_n, endHeap_m, ops_index, ops_indexAddr, ops_buildSlice, blt_lit, beq_lit, Bool.or_true, Bool.true_or, Bool.or_false, Bool.false_or, Bool.and_true, Bool.true_and, Bool.and_self, cond_true, cond_false, List.append_nil, Iv.eta, Option.map_none, T68, T79, alloc_eq, alloc_pair', alloc_int, alloc_bool, build_eq, buildO_01, buildO_0, buildO_1, buildO_n, buildO_a, bsl_eq, bslO_2, idx_eq, idxO_l0, idxO_l1, iad_eq, iadO_l0, iadO_l1, binP_eql', binP_neq', binB_eql', binB_neq', eqT_pt, eqT_pf, eqT_bt, eqT_bf, decide_true, decide_false, seqK_n, seqK_r, seqK_e, loopK_n, loopK_r, loopK_e, reqs_true, Int.zero_sub, wrap_lit, wrapu_lit, Int.reduceLE, Int.reduceLT, Int.reduceAdd, Int.reduceSub, Int.reduceMul, Int.reduceNeg, Int.reduceEq, ops_makeFunc, makeFunc_eq, ptrsO_some, ptrsOf_nil, ptrsOf_cons, consQ_some, funcV_nil, funcV_cons, Option.bind_some, loadO_giv, bin_shr_u64, bin_shl_u64, bin_shr_i64, bin_shl_i64, and_m32', Int.reduceToNat, Int.reducePow, Int.reduceMod, Int.reduceDiv, wrap_u64s, true_or, or_true, true_and, and_true]
    repeat' (first | with_reducible refine cnd_split (fun hc => ?_) (fun hc => ?_) | with_reducible refine Reqs.mk ?_ ?_)
    all_goals (first | trivial | (refine endS_v (t := (negI (Iv.mk a1 a2))) hr ?_; try simp_all [negI, mkI_ok, neg_ok, Iv.eta]))
    all_goals (try simp only [okI_mk, within_iff] at *)
    all_goals (try simp (disch := omega) only [wrap_om, wrapu_om, mkI_lin])
    all_goals (try simp_all [negI, mkI_ok, neg_ok, Iv.eta])
    all_goals (try omega)
  · cases hF

-- impl.AddI
theorem impl_AddI_addI_ok : Fn Try.prog 77 F_addI := by
  refine fn_of_go (O := orc [⟨59, F_whole, impl_Whole_whole_ok⟩, ⟨83, F_bounded, impl_bounded_bounded_ok⟩, ⟨90, F_areOk, impl_areBounded_areOk_ok⟩]) mixed T_ok (orc_sound _) Try.func77 (by kernel_rfl) rfl Try.ntmps77 (by kernel_rfl) Try.results77 ?_
  intro args g pre r new hF hpre
  unfold F_addI at hF
  split at hF
  · rename_i a1 a2 b1 b2
    simp only [Option.some.injEq, Prod.mk.injEq] at hF
    obtain ⟨rfl, hr, rfl⟩ := hF
    refine ⟨by simp, ?_⟩
    simp (config := { maxSteps := 4000000, implicitDefEqProofs := false }) only [F_areOk_eq, F_bounded_eq, F_whole_eq, go_seq', go_reg, go_draw, rest_n, rest_r, rest_e, go_cond, go_block, go_ret_, go_skip, go_exit, blockK_n, blockK_r, blockK_e, ops_nil, ops_gate, ops_move, ops_assign, ops_pick, ops_box, ops_load, ops_store, ops_bin, ops_un, ops_conv, ops_fieldAddr, ops_extract, ops_builtin, ops_call, ops_alloc, ops_build, st1_some, stH_some, stC_nil, reqO_some, cndO_some, putE_some, putE_none, tell_some, look_hit, look_miss, opd_tmp, opd_int, opd_bool, opd_func, opdA_eq, opdP_eq, toA_v, toP_v, sp_eq, cells_p, cells_agg, cellsOf_p, cellsOf_agg, boxO_some, loadO_own, loadC_int, loadC_bool, loadC_pair, storeO_own, storeC_0, storeC_1, storeC_2, storeC_c, size_int, size_bool, size_pair, faddr_0, faddr_1, conv_int, un_not, un_neg, un_xor, ext_0, ext_1, ext_2, max_v, min_v, bin_add, bin_sub, bin_mul, bin_and, bin_or, bin_xor, bin_eql, bin_neq, bin_lss, bin_leq, bin_gtr, bin_geq, grd_b, grd_u, slotV_some, gateP_eq, gateO_some, asBoolS_b, slotOf_tmp, gslot_0, gslot_s, beq_t, beq_f, ↓cnd_t, ↓cnd_f, cnd_not, callR_eq, calleeO_fn, argsO_eq, pairT_some, capsA_nil, capsA_cons, trArgs_nil, trArgs_agg, trArgs_p, trArgs_ptr, ptrT_some, trArgs_clo, cloT_some, consT_some, trPts_nil, trPts_cons, ptsT_some, consP_some, loadCell_own, loadCell_giv, calleeO_clo, tellO_some, argsA_nil, argsA_cons, consO_some, orc_cons, ends_r, ends_n, resAll_nil, resAll_cons, resV_tmp, resV_cell, resC_own, cellV_pair, cellV_int, startEnv, Option.map_some, List.length_nil, List.length_cons, List.nil_append, List.cons_append, List.getElem?_cons_zero, List.getElem?_cons_succ, List.set_cons_zero, List.set_cons_succ, Bool.not_true, Bool.not_false, reduceIte, Nat.reduceEqDiff, Nat.reduceAdd, Nat.reduceLT, partsP_cons, partsP_nil, conP_some, T2, T3, T59, T80, T4, T27, T25, T61, dr_nil, dr_move, dr_assign, dr_box, dr_load, dr_bin, dr_un, dr_conv, dr_fieldAddr, dr_extract, dr_builtin, dr_call, dr_alloc, dr_index, dr_indexAddr, dr_build, dr_buildSlice, dr_makeFunc, dr_store, drawN_p, drawN_g, drawE_s, ifS_t, bindsA_nil, bindsA_cons, waitsA_nil, waitsA_cons, allWait_0, allWait_s, binds_data, binds_chain, binds_guard, binds_phase, binds_text, binds_gc, heapA_none, heapA_some, sameLen_self, sameLen_nil, sameLen_cons, sameLen_l, sameLen_set, entries_nil, entries_cons, entC_f, entC_t, entC_n, dstsOf_nil, dstsOf_some, dstsOf_no, valsEnv_nil, valsEnv_some, valsEnv_none, endHeap_n, endHeap_m, ops_index, ops_indexAddr, ops_buildSlice, blt_lit, beq_lit, Bool.or_true, Bool.true_or, Bool.or_false, Bool.false_or, Bool.and_true, Bool.true_and, Bool.and_self, cond_true, cond_false, List.append_nil, Iv.eta, Option.map_none, T68, T79, alloc_eq, alloc_pair', alloc_int, alloc_bool, build_eq, buildO_01, buildO_0, buildO_1, buildO_n, buildO_a, bsl_eq, bslO_2, idx_eq, idxO_l0, idxO_l1, iad_eq, iadO_l0, iadO_l1, binP_eql', binP_neq', binB_eql', binB_neq', eqT_pt, eqT_pf, eqT_bt, eqT_bf, decide_true, decide_false, seqK_n, seqK_r, seqK_e, loopK_n, loopK_r, loopK_e, reqs_true, Int.zero_sub, wrap_lit, wrapu_lit, Int.reduceLE, Int.reduceLT, Int.reduceAdd, Int.reduceSub, Int.reduceMul, Int.reduceNeg, Int.reduceEq, ops_makeFunc, makeFunc_eq, ptrsO_some, ptrsOf_nil, ptrsOf_cons, consQ_some, funcV_nil, funcV_cons, Option.bind_some, loadO_giv, bin_shr_u64, bin_shl_u64, bin_shr_i64, bin_shl_i64, and_m32', Int.reduceToNat, Int.reducePow, Int.reduceMod, Int.reduceDiv, wrap_u64s, true_or, or_true, true_and, and_true]
    repeat' (first | with_reducible refine cnd_split (fun hc => ?_) (fun hc => ?_) | with_reducible refine Reqs.mk ?_ ?_)
    all_goals (first | trivial | (refine endS_v (t := (addI (Iv.mk a1 a2) (Iv.mk b1 b2))) hr ?_; try simp_all [addI]))
    all_goals (try simp only [okI_mk, within_iff] at *)
    all_goals (try simp (disch := omega) only [wrap_om, wrapu_om, mkI_lin])
    all_goals (try simp_all [addI])
    all_goals (try omega)
  · cases hF

-- spec.AddI
theorem spec_AddI_addI_ok : Fn Try.prog 74 F_addI := by
  refine fn_of_go (O := orc [⟨55, F_okI, spec_l04Ok_okI_ok⟩, ⟨56, F_whole, spec_l04Whole_whole_ok⟩, ⟨58, F_mkI, spec_l04Make_mkI_ok⟩]) mixed T_ok (orc_sound _) Try.func74 (by kernel_rfl) rfl Try.ntmps74 (by kernel_rfl) Try.results74 ?_
  intro args g pre r new hF hpre
  unfold F_addI at hF
  split at hF
  · rename_i a1 a2 b1 b2
    simp only [Option.some.injEq, Prod.mk.injEq] at hF
    obtain ⟨rfl, hr, rfl⟩ := hF
    refine ⟨by simp, ?_⟩
    simp (config := { maxSteps := 4000000, implicitDefEqProofs := false }) only [F_mkI_eq, F_okI_eq, F_whole_eq, go_seq', go_reg, go_draw, rest_n, rest_r, rest_e, go_cond, go_block, go_ret_, go_skip, go_exit, blockK_n, blockK_r, blockK_e, ops_nil, ops_gate, ops_move, ops_assign, ops_pick, ops_box, ops_load, ops_store, ops_bin, ops_un, ops_conv, ops_fieldAddr, ops_extract, ops_builtin, ops_call, ops_alloc, ops_build, st1_some, stH_some, stC_nil, reqO_some, cndO_some, putE_some, putE_none, tell_some, look_hit, look_miss, opd_tmp, opd_int, opd_bool, opd_func, opdA_eq, opdP_eq, toA_v, toP_v, sp_eq, cells_p, cells_agg, cellsOf_p, cellsOf_agg, boxO_some, loadO_own, loadC_int, loadC_bool, loadC_pair, storeO_own, storeC_0, storeC_1, storeC_2, storeC_c, size_int, size_bool, size_pair, faddr_0, faddr_1, conv_int, un_not, un_neg, un_xor, ext_0, ext_1, ext_2, max_v, min_v, bin_add, bin_sub, bin_mul, bin_and, bin_or, bin_xor, bin_eql, bin_neq, bin_lss, bin_leq, bin_gtr, bin_geq, grd_b, grd_u, slotV_some, gateP_eq, gateO_some, asBoolS_b, slotOf_tmp, gslot_0, gslot_s, beq_t, beq_f, ↓cnd_t, ↓cnd_f, cnd_not, callR_eq, calleeO_fn, argsO_eq, pairT_some, capsA_nil, capsA_cons, trArgs_nil, trArgs_agg, trArgs_p, trArgs_ptr, ptrT_some, trArgs_clo, cloT_some, consT_some, trPts_nil, trPts_cons, ptsT_some, consP_some, loadCell_own, loadCell_giv, calleeO_clo, tellO_some, argsA_nil, argsA_cons, consO_some, orc_cons, ends_r, ends_n, resAll_nil, resAll_cons, resV_tmp, resV_cell, resC_own, cellV_pair, cellV_int, startEnv, Option.map_some, List.length_nil, List.length_cons, List.nil_append, List.cons_append, List.getElem?_cons_zero, List.getElem?_cons_succ, List.set_cons_zero, List.set_cons_succ, Bool.not_true, Bool.not_false, reduceIte, Nat.reduceEqDiff, Nat.reduceAdd, Nat.reduceLT, partsP_cons, partsP_nil, conP_some, T2, T3, T59, T80, T4, T27, T25, T61, dr_nil, dr_move, dr_assign, dr_box, dr_load, dr_bin, dr_un, dr_conv, dr_fieldAddr, dr_extract, dr_builtin, dr_call, dr_alloc, dr_index, dr_indexAddr, dr_build, dr_buildSlice, dr_makeFunc, dr_store, drawN_p, drawN_g, drawE_s, ifS_t, bindsA_nil, bindsA_cons, waitsA_nil, waitsA_cons, allWait_0, allWait_s, binds_data, binds_chain, binds_guard, binds_phase, binds_text, binds_gc, heapA_none, heapA_some, sameLen_self, sameLen_nil, sameLen_cons, sameLen_l, sameLen_set, entries_nil, entries_cons, entC_f, entC_t, entC_n, dstsOf_nil, dstsOf_some, dstsOf_no, valsEnv_nil, valsEnv_some, valsEnv_none, endHeap_n, endHeap_m, ops_index, ops_indexAddr, ops_buildSlice, blt_lit, beq_lit, Bool.or_true, Bool.true_or, Bool.or_false, Bool.false_or, Bool.and_true, Bool.true_and, Bool.and_self, cond_true, cond_false, List.append_nil, Iv.eta, Option.map_none, T68, T79, alloc_eq, alloc_pair', alloc_int, alloc_bool, build_eq, buildO_01, buildO_0, buildO_1, buildO_n, buildO_a, bsl_eq, bslO_2, idx_eq, idxO_l0, idxO_l1, iad_eq, iadO_l0, iadO_l1, binP_eql', binP_neq', binB_eql', binB_neq', eqT_pt, eqT_pf, eqT_bt, eqT_bf, decide_true, decide_false, seqK_n, seqK_r, seqK_e, loopK_n, loopK_r, loopK_e, reqs_true, Int.zero_sub, wrap_lit, wrapu_lit, Int.reduceLE, Int.reduceLT, Int.reduceAdd, Int.reduceSub, Int.reduceMul, Int.reduceNeg, Int.reduceEq, ops_makeFunc, makeFunc_eq, ptrsO_some, ptrsOf_nil, ptrsOf_cons, consQ_some, funcV_nil, funcV_cons, Option.bind_some, loadO_giv, bin_shr_u64, bin_shl_u64, bin_shr_i64, bin_shl_i64, and_m32', Int.reduceToNat, Int.reducePow, Int.reduceMod, Int.reduceDiv, wrap_u64s, true_or, or_true, true_and, and_true]
    repeat' (first | with_reducible refine cnd_split (fun hc => ?_) (fun hc => ?_) | with_reducible refine Reqs.mk ?_ ?_)
    all_goals (first | trivial | (refine endS_v (t := (addI (Iv.mk a1 a2) (Iv.mk b1 b2))) hr ?_; try simp_all [addI]))
    all_goals (try simp only [okI_mk, within_iff] at *)
    all_goals (try simp (disch := omega) only [wrap_om, wrapu_om, mkI_lin])
    all_goals (try simp_all [addI])
    all_goals (try omega)
  · cases hF

-- halfI
def halfI (a : Iv) : Iv := if okI a then ⟨a.lo / 2, (a.hi + 1) / 2⟩ else whole
def F_halfI : FT
  | [.agg [.int .i64 a1, .int .i64 a2]], _ => some (True, .v (.agg [.int .i64 ((halfI (Iv.mk a1 a2))).lo, .int .i64 ((halfI (Iv.mk a1 a2))).hi]), [])
  | _, _ => none
theorem F_halfI_eq {a1 : Int} {a2 : Int} {g : List PC} : F_halfI [.agg [.int .i64 a1, .int .i64 a2]] g = some (True, .v (.agg [.int .i64 ((halfI (Iv.mk a1 a2))).lo, .int .i64 ((halfI (Iv.mk a1 a2))).hi]), []) := rfl
def dblI (a : Iv) : Iv := addI a a
def F_dblI : FT
  | [.agg [.int .i64 a1, .int .i64 a2]], _ => some (True, .v (.agg [.int .i64 ((dblI (Iv.mk a1 a2))).lo, .int .i64 ((dblI (Iv.mk a1 a2))).hi]), [])
  | _, _ => none
theorem F_dblI_eq {a1 : Int} {a2 : Int} {g : List PC} : F_dblI [.agg [.int .i64 a1, .int .i64 a2]] g = some (True, .v (.agg [.int .i64 ((dblI (Iv.mk a1 a2))).lo, .int .i64 ((dblI (Iv.mk a1 a2))).hi]), []) := rfl
def hullI (a b : Iv) : Iv := if okI a && okI b then ⟨min a.lo b.lo, max a.hi b.hi⟩ else whole
def F_hullI : FT
  | [.agg [.int .i64 a1, .int .i64 a2], .agg [.int .i64 b1, .int .i64 b2]], _ => some (True, .v (.agg [.int .i64 ((hullI (Iv.mk a1 a2) (Iv.mk b1 b2))).lo, .int .i64 ((hullI (Iv.mk a1 a2) (Iv.mk b1 b2))).hi]), [])
  | _, _ => none
theorem F_hullI_eq {a1 : Int} {a2 : Int} {b1 : Int} {b2 : Int} {g : List PC} : F_hullI [.agg [.int .i64 a1, .int .i64 a2], .agg [.int .i64 b1, .int .i64 b2]] g = some (True, .v (.agg [.int .i64 ((hullI (Iv.mk a1 a2) (Iv.mk b1 b2))).lo, .int .i64 ((hullI (Iv.mk a1 a2) (Iv.mk b1 b2))).hi]), []) := rfl
def insideI (a b : Iv) : Bool := !okI b || (okI a && (decide (b.lo ≤ a.lo) && decide (a.hi ≤ b.hi)))
def F_insideI : FT
  | [.agg [.int .i64 a1, .int .i64 a2], .agg [.int .i64 b1, .int .i64 b2]], _ => some (True, .v (.c (.p (.bool (insideI (Iv.mk a1 a2) (Iv.mk b1 b2))))), [])
  | _, _ => none
theorem F_insideI_eq {a1 : Int} {a2 : Int} {b1 : Int} {b2 : Int} {g : List PC} : F_insideI [.agg [.int .i64 a1, .int .i64 a2], .agg [.int .i64 b1, .int .i64 b2]] g = some (True, .v (.c (.p (.bool (insideI (Iv.mk a1 a2) (Iv.mk b1 b2))))), []) := rfl
def meetI (a b : Iv) : Iv × Bool := if okI a then (if okI b then (if min a.hi b.hi < max a.lo b.lo then (⟨0, 0⟩, false) else (⟨max a.lo b.lo, min a.hi b.hi⟩, true)) else (a, true)) else if okI b then (b, true) else (whole, true)
def F_meetI : FT
  | [.agg [.int .i64 a1, .int .i64 a2], .agg [.int .i64 b1, .int .i64 b2]], _ => some (True, .tup [.agg [.int .i64 (((meetI (Iv.mk a1 a2) (Iv.mk b1 b2)).1)).lo, .int .i64 (((meetI (Iv.mk a1 a2) (Iv.mk b1 b2)).1)).hi], .c (.p (.bool ((meetI (Iv.mk a1 a2) (Iv.mk b1 b2)).2)))], [])
  | _, _ => none
theorem F_meetI_eq {a1 : Int} {a2 : Int} {b1 : Int} {b2 : Int} {g : List PC} : F_meetI [.agg [.int .i64 a1, .int .i64 a2], .agg [.int .i64 b1, .int .i64 b2]] g = some (True, .tup [.agg [.int .i64 (((meetI (Iv.mk a1 a2) (Iv.mk b1 b2)).1)).lo, .int .i64 (((meetI (Iv.mk a1 a2) (Iv.mk b1 b2)).1)).hi], .c (.p (.bool ((meetI (Iv.mk a1 a2) (Iv.mk b1 b2)).2)))], []) := rfl
def F_overI : FT
  | [.agg [.int .i64 a1, .int .i64 a2], .agg [.int .i64 b1, .int .i64 b2]], _ => some (True, .v (.c (.p (.bool ((meetI (Iv.mk a1 a2) (Iv.mk b1 b2)).2)))), [])
  | _, _ => none
theorem F_overI_eq {a1 : Int} {a2 : Int} {b1 : Int} {b2 : Int} {g : List PC} : F_overI [.agg [.int .i64 a1, .int .i64 a2], .agg [.int .i64 b1, .int .i64 b2]] g = some (True, .v (.c (.p (.bool ((meetI (Iv.mk a1 a2) (Iv.mk b1 b2)).2)))), []) := rfl
def intI (n : Int) : Iv := if within n (-268435456) 268435456 then mkI (n * 4294967296) (n * 4294967296) else whole
def F_intI : FT
  | [.c (.p (.int .i64 n))], _ => some (True, .v (.agg [.int .i64 ((intI n)).lo, .int .i64 ((intI n)).hi]), [])
  | _, _ => none
theorem F_intI_eq {n : Int} {g : List PC} : F_intI [.c (.p (.int .i64 n))] g = some (True, .v (.agg [.int .i64 ((intI n)).lo, .int .i64 ((intI n)).hi]), []) := rfl
def signI (a : Iv) : Int := if okI a then (if 0 < a.lo then 1 else if a.hi < 0 then -1 else 0) else 0
def F_signI : FT
  | [.agg [.int .i64 a1, .int .i64 a2]], _ => some (True, .v (.c (.p (.int .i64 (signI (Iv.mk a1 a2))))), [])
  | _, _ => none
theorem F_signI_eq {a1 : Int} {a2 : Int} {g : List PC} : F_signI [.agg [.int .i64 a1, .int .i64 a2]] g = some (True, .v (.c (.p (.int .i64 (signI (Iv.mk a1 a2))))), []) := rfl
theorem hull_ok {a b c d : Int} (h1 : okI ⟨a, b⟩ = true) (h2 : okI ⟨c, d⟩ = true) : okI ⟨min a c, max b d⟩ = true := by
  rw [okI_mk] at *; omega
theorem dbl_eq (a : Iv) : dblI a = if okI a then mkI (2 * a.lo) (2 * a.hi) else whole := by
  unfold dblI addI
  cases okI a with
  | false => rfl
  | true => simp only [Bool.and_self, if_true]; rw [← Int.two_mul, ← Int.two_mul]

end Go.Proofs.Ytpffelclaabijaa.Eng
