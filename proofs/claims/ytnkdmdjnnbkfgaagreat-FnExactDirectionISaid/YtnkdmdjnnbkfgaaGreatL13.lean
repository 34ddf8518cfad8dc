/- What functions of the program compute, and that the program computes it: part 13. -/
import Derived.Test.YtnkdmdjnnbkfgaaGreatTab
import Derived.Test.YtnkdmdjnnbkfgaaGreatEng15
import Derived.Laws.BitsLemmas
import Derived.Laws.Bits64
import Derived.Laws.Bits64b
import Derived.Lib.Mul64
import Derived.Lib.BitFns
import Derived.Laws.Externs
import Derived.Test.YtnkdmdjnnbkfgaaGreatL1
import Derived.Test.YtnkdmdjnnbkfgaaGreatL2
import Derived.Test.YtnkdmdjnnbkfgaaGreatL3
import Derived.Test.YtnkdmdjnnbkfgaaGreatL6
import Derived.Test.YtnkdmdjnnbkfgaaGreatL7
import Derived.Test.YtnkdmdjnnbkfgaaGreatL8
import Derived.Test.YtnkdmdjnnbkfgaaGreatL11
import Derived.Test.YtnkdmdjnnbkfgaaGreatL12
namespace Go.Proofs.YtnkdmdjnnbkfgaaGreat.Eng
open Go Go.RowKit
set_option linter.unusedVariables false
set_option linter.unusedSimpArgs false
set_option maxRecDepth 100000
set_option maxHeartbeats 1000000
-- impl.CircleAt
theorem impl_CircleAt_circleI_ok : Fn Tryz.prog 67 F_circleI := by
  refine fn_of_go (O := orc [⟨48, F_whole, .inl impl_Whole_whole_ok⟩, ⟨53, F_atI, .inl impl_at_atI_ok⟩, ⟨63, F_within, .inl impl_within_within_ok⟩, ⟨102, F_sqrtFloor, .inl impl_SqrtFloor_sqrtFloor_ok⟩, ⟨103, F_wideMul, .inl impl_WideMul_wideMul_ok⟩]) mixed T_ok (orc_sound _) Tryz.func67 (by kernel_rfl) rfl Tryz.ntmps67 (by kernel_rfl) Tryz.results67 ?_
  intro args g pre r new hF hpre
  unfold F_circleI at hF
  split at hF
  · rename_i n
    simp only [Option.some.injEq, Prod.mk.injEq] at hF
    obtain ⟨rfl, hr, rfl⟩ := hF
    refine ⟨by simp, ?_⟩
    simp (config := { maxSteps := 4000000, implicitDefEqProofs := false }) only [F_atI_eq, F_sqrtFloor_eq, F_whole_eq, F_wideMul_eq, F_within_eq, go_seq', go_reg, go_draw, rest_n, rest_r, rest_e, go_cond, go_block, go_ret_, go_skip, go_exit, blockK_n, blockK_r, blockK_e, ops_nil, ops_gate, ops_move, ops_assign, ops_pick, ops_box, ops_load, ops_store, ops_bin, ops_un, ops_conv, ops_fieldAddr, ops_extract, ops_builtin, ops_call, ops_alloc, ops_build, st1_some, stH_some, stC_nil, reqO_some, cndO_some, putE_some, putE_none, tell_some, look_hit, look_miss, opd_tmp, opd_int, opd_bool, opd_func, opdA_eq, opdP_eq, toA_v, toP_v, sp_eq, cells_p, cells_agg, cellsOf_p, cellsOf_agg, boxO_some, loadO_own, loadC_int, loadC_bool, loadC_pair, storeO_own, storeC_0, storeC_1, storeC_2, storeC_c, size_int, size_bool, size_pair, faddr_0, faddr_1, conv_int, un_not, un_neg, un_xor, ext_0, ext_1, ext_2, max_v, min_v, bin_add, bin_sub, bin_mul, bin_and, bin_or, bin_xor, bin_eql, bin_neq, bin_lss, bin_leq, bin_gtr, bin_geq, grd_b, grd_u, slotV_some, gateP_eq, gateO_some, asBoolS_b, slotOf_tmp, gslot_0, gslot_s, beq_t, beq_f, ↓cnd_t, ↓cnd_f, cnd_not, callR_eq, calleeO_fn, argsO_eq, pairT_some, capsA_nil, capsA_cons, trArgs_nil, trArgs_agg, trArgs_p, trArgs_ptr, ptrT_some, trArgs_clo, cloT_some, consT_some, trPts_nil, trPts_cons, ptsT_some, consP_some, loadCell_own, loadCell_giv, calleeO_clo, tellO_some, argsA_nil, argsA_cons, consO_some, orc_cons, ends_r, ends_n, resAll_nil, resAll_cons, resV_tmp, resV_cell, resC_own, cellV_pair, cellV_int, startEnv, Option.map_some, List.length_nil, List.length_cons, List.nil_append, List.cons_append, List.getElem?_cons_zero, List.getElem?_cons_succ, List.set_cons_zero, List.set_cons_succ, Bool.not_true, Bool.not_false, reduceIte, Nat.reduceEqDiff, Nat.reduceAdd, Nat.reduceLT, partsP_cons, partsP_nil, conP_some, T5, T9, T2, T3, T51, T67, T4, T24, T23, T53, dr_nil, dr_move, dr_assign, dr_box, dr_load, dr_bin, dr_un, dr_conv, dr_fieldAddr, dr_extract, dr_builtin, dr_call, dr_alloc, dr_index, dr_indexAddr, dr_build, dr_buildSlice, dr_makeFunc, dr_store, drawN_p, drawN_g, drawE_s, ifS_t, isW_nil, isW_cons, boxOf_own, boxOf_giv, otherB_s, otherB_n, spares_s, spares_n, ldAt_0, ldAt_s, pure_fieldAddr, pure_field, pure_indexAddr, pure_index, pure_load, pure_call, pure_store, pure_alloc, pure_box, pure_build, dr_field, dr_pick, ops_field, field_0, field_1, okA_nil, okA_cons, headW_nil, headW_cons, headH_nil, headH_cons, bindsA_nil, bindsA_cons, waitsA_nil, waitsA_cons, allWait_0, allWait_s, pure_0, pure_s, pure_move, pure_assign, pure_bin, pure_un, pure_conv, pure_ext, binds_data, binds_chain, binds_guard, binds_phase, binds_text, binds_gc, heapA_nil, heapA_cons, sameLen_self, sameLen_nil, sameLen_cons, sameLen_l, sameLen_set, entries_nil, entries_cons, entC_f, entC_t, entC_n, dstsOf_nil, dstsOf_some, dstsOf_no, valsEnv_nil, valsEnv_some, valsEnv_none, ops_index, ops_indexAddr, ops_buildSlice, blt_lit, beq_lit, Bool.or_true, Bool.true_or, Bool.or_false, Bool.false_or, Bool.and_true, Bool.true_and, Bool.and_self, cond_true, cond_false, List.append_nil, Iv.eta, Option.map_none, T43, T58, alloc_eq, alloc_pair', alloc_int, alloc_bool, build_eq, buildO_01, buildO_0, buildO_1, buildO_n, buildO_a, bsl_eq, bslO_2, idx_eq, idxO_l0, idxO_l1, iad_eq, iadO_l0, iadO_l1, binP_eql', binP_neq', binB_eql', binB_neq', eqT_pt, eqT_pf, eqT_bt, eqT_bf, decide_true, decide_false, seqK_n, seqK_r, seqK_e, loopK_n, loopK_r, loopK_e, reqs_true, Int.zero_sub, wrap_lit, wrapu_lit, Int.reduceLE, Int.reduceLT, Int.reduceAdd, Int.reduceSub, Int.reduceMul, Int.reduceNeg, Int.reduceEq, ops_makeFunc, makeFunc_eq, ptrsO_some, ptrsOf_nil, ptrsOf_cons, consQ_some, funcV_nil, funcV_cons, Option.bind_some, loadO_giv, bin_shr_u64, bin_shl_u64, bin_shr_i64, bin_shl_i64, and_m32', Int.reduceToNat, Int.reducePow, Int.reduceMod, Int.reduceDiv, wrap_u64s, true_or, or_true, true_and, and_true, wide_eq]
    repeat' (first | with_reducible refine cnd_split (fun hc => ?_) (fun hc => ?_) | with_reducible refine Reqs.mk ?_ ?_)
    all_goals (try simp only [decide_eq_true_eq, decide_eq_false_iff_not] at *)
    all_goals first
      | (refine endS_v (t := (circleI n)) hr ?_; simp_all [circleI]; done)
      | (have hw := circ_in (by assumption)
         have h3 := within_iff.1 (by assumption : within n (-4294967296) 4294967296 = true)
         have e1 : IntKind.i64.wrap (4294967296 - n) = 4294967296 - n := wrap_om (by omega) (by omega)
         have e2 : IntKind.i64.wrap (4294967296 + n) = 4294967296 + n := wrap_om (by omega) (by omega)
         have e3 : IntKind.i64.wrap (rootW ((4294967296 - n) * (4294967296 + n)) + 1) = rootW ((4294967296 - n) * (4294967296 + n)) + 1 := wrap_om (by omega) (by omega)
         simp only [e1, e2, e3, hw.1] at *
         first
         | (unfold inR; omega)
         | (refine endS_v (t := (circleI n)) hr ?_; rw [circleI, if_pos (by assumption)]; simp_all))
  · cases hF

-- spec.CircleAt
theorem spec_CircleAt_circleI_ok : Fn Tryz.prog 61 F_circleI := by
  refine fn_of_go (O := orc [⟨41, F_whole, .inl spec_Whole_whole_ok⟩, ⟨58, F_within, .inl spec_l00In_within_ok⟩, ⟨100, F_sqrtFloor, .inl spec_SqrtFloor_sqrtFloor_ok⟩, ⟨101, F_wideMul, .inl spec_WideMul_wideMul_ok⟩]) mixed T_ok (orc_sound _) Tryz.func61 (by kernel_rfl) rfl Tryz.ntmps61 (by kernel_rfl) Tryz.results61 ?_
  intro args g pre r new hF hpre
  unfold F_circleI at hF
  split at hF
  · rename_i n
    simp only [Option.some.injEq, Prod.mk.injEq] at hF
    obtain ⟨rfl, hr, rfl⟩ := hF
    refine ⟨by simp, ?_⟩
    simp (config := { maxSteps := 4000000, implicitDefEqProofs := false }) only [F_sqrtFloor_eq, F_whole_eq, F_wideMul_eq, F_within_eq, go_seq', go_reg, go_draw, rest_n, rest_r, rest_e, go_cond, go_block, go_ret_, go_skip, go_exit, blockK_n, blockK_r, blockK_e, ops_nil, ops_gate, ops_move, ops_assign, ops_pick, ops_box, ops_load, ops_store, ops_bin, ops_un, ops_conv, ops_fieldAddr, ops_extract, ops_builtin, ops_call, ops_alloc, ops_build, st1_some, stH_some, stC_nil, reqO_some, cndO_some, putE_some, putE_none, tell_some, look_hit, look_miss, opd_tmp, opd_int, opd_bool, opd_func, opdA_eq, opdP_eq, toA_v, toP_v, sp_eq, cells_p, cells_agg, cellsOf_p, cellsOf_agg, boxO_some, loadO_own, loadC_int, loadC_bool, loadC_pair, storeO_own, storeC_0, storeC_1, storeC_2, storeC_c, size_int, size_bool, size_pair, faddr_0, faddr_1, conv_int, un_not, un_neg, un_xor, ext_0, ext_1, ext_2, max_v, min_v, bin_add, bin_sub, bin_mul, bin_and, bin_or, bin_xor, bin_eql, bin_neq, bin_lss, bin_leq, bin_gtr, bin_geq, grd_b, grd_u, slotV_some, gateP_eq, gateO_some, asBoolS_b, slotOf_tmp, gslot_0, gslot_s, beq_t, beq_f, ↓cnd_t, ↓cnd_f, cnd_not, callR_eq, calleeO_fn, argsO_eq, pairT_some, capsA_nil, capsA_cons, trArgs_nil, trArgs_agg, trArgs_p, trArgs_ptr, ptrT_some, trArgs_clo, cloT_some, consT_some, trPts_nil, trPts_cons, ptsT_some, consP_some, loadCell_own, loadCell_giv, calleeO_clo, tellO_some, argsA_nil, argsA_cons, consO_some, orc_cons, ends_r, ends_n, resAll_nil, resAll_cons, resV_tmp, resV_cell, resC_own, cellV_pair, cellV_int, startEnv, Option.map_some, List.length_nil, List.length_cons, List.nil_append, List.cons_append, List.getElem?_cons_zero, List.getElem?_cons_succ, List.set_cons_zero, List.set_cons_succ, Bool.not_true, Bool.not_false, reduceIte, Nat.reduceEqDiff, Nat.reduceAdd, Nat.reduceLT, partsP_cons, partsP_nil, conP_some, T5, T9, T2, T3, T51, T67, T4, T24, T23, T53, dr_nil, dr_move, dr_assign, dr_box, dr_load, dr_bin, dr_un, dr_conv, dr_fieldAddr, dr_extract, dr_builtin, dr_call, dr_alloc, dr_index, dr_indexAddr, dr_build, dr_buildSlice, dr_makeFunc, dr_store, drawN_p, drawN_g, drawE_s, ifS_t, isW_nil, isW_cons, boxOf_own, boxOf_giv, otherB_s, otherB_n, spares_s, spares_n, ldAt_0, ldAt_s, pure_fieldAddr, pure_field, pure_indexAddr, pure_index, pure_load, pure_call, pure_store, pure_alloc, pure_box, pure_build, dr_field, dr_pick, ops_field, field_0, field_1, okA_nil, okA_cons, headW_nil, headW_cons, headH_nil, headH_cons, bindsA_nil, bindsA_cons, waitsA_nil, waitsA_cons, allWait_0, allWait_s, pure_0, pure_s, pure_move, pure_assign, pure_bin, pure_un, pure_conv, pure_ext, binds_data, binds_chain, binds_guard, binds_phase, binds_text, binds_gc, heapA_nil, heapA_cons, sameLen_self, sameLen_nil, sameLen_cons, sameLen_l, sameLen_set, entries_nil, entries_cons, entC_f, entC_t, entC_n, dstsOf_nil, dstsOf_some, dstsOf_no, valsEnv_nil, valsEnv_some, valsEnv_none, ops_index, ops_indexAddr, ops_buildSlice, blt_lit, beq_lit, Bool.or_true, Bool.true_or, Bool.or_false, Bool.false_or, Bool.and_true, Bool.true_and, Bool.and_self, cond_true, cond_false, List.append_nil, Iv.eta, Option.map_none, T43, T58, alloc_eq, alloc_pair', alloc_int, alloc_bool, build_eq, buildO_01, buildO_0, buildO_1, buildO_n, buildO_a, bsl_eq, bslO_2, idx_eq, idxO_l0, idxO_l1, iad_eq, iadO_l0, iadO_l1, binP_eql', binP_neq', binB_eql', binB_neq', eqT_pt, eqT_pf, eqT_bt, eqT_bf, decide_true, decide_false, seqK_n, seqK_r, seqK_e, loopK_n, loopK_r, loopK_e, reqs_true, Int.zero_sub, wrap_lit, wrapu_lit, Int.reduceLE, Int.reduceLT, Int.reduceAdd, Int.reduceSub, Int.reduceMul, Int.reduceNeg, Int.reduceEq, ops_makeFunc, makeFunc_eq, ptrsO_some, ptrsOf_nil, ptrsOf_cons, consQ_some, funcV_nil, funcV_cons, Option.bind_some, loadO_giv, bin_shr_u64, bin_shl_u64, bin_shr_i64, bin_shl_i64, and_m32', Int.reduceToNat, Int.reducePow, Int.reduceMod, Int.reduceDiv, wrap_u64s, true_or, or_true, true_and, and_true, wide_eq]
    repeat' (first | with_reducible refine cnd_split (fun hc => ?_) (fun hc => ?_) | with_reducible refine Reqs.mk ?_ ?_)
    all_goals (try simp only [decide_eq_true_eq, decide_eq_false_iff_not] at *)
    all_goals first
      | (refine endS_v (t := (circleI n)) hr ?_; simp_all [circleI]; done)
      | (have hw := circ_in (by assumption)
         have h3 := within_iff.1 (by assumption : within n (-4294967296) 4294967296 = true)
         have e1 : IntKind.i64.wrap (4294967296 - n) = 4294967296 - n := wrap_om (by omega) (by omega)
         have e2 : IntKind.i64.wrap (4294967296 + n) = 4294967296 + n := wrap_om (by omega) (by omega)
         have e3 : IntKind.i64.wrap (rootW ((4294967296 - n) * (4294967296 + n)) + 1) = rootW ((4294967296 - n) * (4294967296 + n)) + 1 := wrap_om (by omega) (by omega)
         simp only [e1, e2, e3, hw.1] at *
         first
         | (unfold inR; omega)
         | (refine endS_v (t := (circleI n)) hr ?_; rw [circleI, if_pos (by assumption)]; simp_all))
  · cases hF

end Go.Proofs.YtnkdmdjnnbkfgaaGreat.Eng
