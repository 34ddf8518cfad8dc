/- What functions of the program compute, and that the program computes it: part 5. -/
import Derived.Test.YtnkdmdjnnbkfgaaGreatTab
import Derived.Test.YtnkdmdjnnbkfgaaGreatEng15
import Derived.Laws.BitsLemmas
import Derived.Laws.Bits64
import Derived.Laws.Bits64b
import Derived.Lib.Mul64
import Derived.Lib.BitFns
import Derived.Laws.Externs
import Derived.Test.YtnkdmdjnnbkfgaaGreatL1
import Derived.Test.YtnkdmdjnnbkfgaaGreatL2
import Derived.Test.YtnkdmdjnnbkfgaaGreatL3
import Derived.Test.YtnkdmdjnnbkfgaaGreatL4
namespace Go.Proofs.YtnkdmdjnnbkfgaaGreat.Eng
open Go Go.RowKit
set_option linter.unusedVariables false
set_option linter.unusedSimpArgs false
set_option maxRecDepth 100000
set_option maxHeartbeats 1000000
-- spec.MeetI
theorem spec_MeetI_meetI_ok : Fn Tryz.prog 62 F_meetI := by
  refine fn_of_go (O := orc [⟨81, F_okI, .inl spec_l04Ok_okI_ok⟩, ⟨83, F_whole, .inl spec_l04Whole_whole_ok⟩, ⟨85, F_min2, .inl spec_l00Min_min2_ok⟩, ⟨86, F_max2, .inl spec_l00Max_max2_ok⟩]) mixed T_ok (orc_sound _) Tryz.func62 (by kernel_rfl) rfl Tryz.ntmps62 (by kernel_rfl) Tryz.results62 ?_
  intro args g pre r new hF hpre
  unfold F_meetI at hF
  split at hF
  · rename_i a1 a2 b1 b2
    simp only [Option.some.injEq, Prod.mk.injEq] at hF
    obtain ⟨rfl, hr, rfl⟩ := hF
    refine ⟨by simp, ?_⟩
    simp (config := { maxSteps := 4000000, implicitDefEqProofs := false }) only [F_max2_eq, F_min2_eq, F_okI_eq, F_whole_eq, go_seq', go_reg, go_draw, rest_n, rest_r, rest_e, go_cond, go_block, go_ret_, go_skip, go_exit, blockK_n, blockK_r, blockK_e, ops_nil, ops_gate, ops_move, ops_assign, ops_pick, ops_box, ops_load, ops_store, ops_bin, ops_un, ops_conv, ops_fieldAddr, ops_extract, ops_builtin, ops_call, ops_alloc, ops_build, st1_some, stH_some, stC_nil, reqO_some, cndO_some, putE_some, putE_none, tell_some, look_hit, look_miss, opd_tmp, opd_int, opd_bool, opd_func, opdA_eq, opdP_eq, toA_v, toP_v, sp_eq, cells_p, cells_agg, cellsOf_p, cellsOf_agg, boxO_some, loadO_own, loadC_int, loadC_bool, loadC_pair, storeO_own, storeC_0, storeC_1, storeC_2, storeC_c, size_int, size_bool, size_pair, faddr_0, faddr_1, conv_int, un_not, un_neg, un_xor, ext_0, ext_1, ext_2, max_v, min_v, bin_add, bin_sub, bin_mul, bin_and, bin_or, bin_xor, bin_eql, bin_neq, bin_lss, bin_leq, bin_gtr, bin_geq, grd_b, grd_u, slotV_some, gateP_eq, gateO_some, asBoolS_b, slotOf_tmp, gslot_0, gslot_s, beq_t, beq_f, ↓cnd_t, ↓cnd_f, cnd_not, callR_eq, calleeO_fn, argsO_eq, pairT_some, capsA_nil, capsA_cons, trArgs_nil, trArgs_agg, trArgs_p, trArgs_ptr, ptrT_some, trArgs_clo, cloT_some, consT_some, trPts_nil, trPts_cons, ptsT_some, consP_some, loadCell_own, loadCell_giv, calleeO_clo, tellO_some, argsA_nil, argsA_cons, consO_some, orc_cons, ends_r, ends_n, resAll_nil, resAll_cons, resV_tmp, resV_cell, resC_own, cellV_pair, cellV_int, startEnv, Option.map_some, List.length_nil, List.length_cons, List.nil_append, List.cons_append, List.getElem?_cons_zero, List.getElem?_cons_succ, List.set_cons_zero, List.set_cons_succ, Bool.not_true, Bool.not_false, reduceIte, Nat.reduceEqDiff, Nat.reduceAdd, Nat.reduceLT, partsP_cons, partsP_nil, conP_some, T5, T9, T2, T3, T51, T67, T4, T24, T23, T53, dr_nil, dr_move, dr_assign, dr_box, dr_load, dr_bin, dr_un, dr_conv, dr_fieldAddr, dr_extract, dr_builtin, dr_call, dr_alloc, dr_index, dr_indexAddr, dr_build, dr_buildSlice, dr_makeFunc, dr_store, drawN_p, drawN_g, drawE_s, ifS_t, isW_nil, isW_cons, boxOf_own, boxOf_giv, otherB_s, otherB_n, spares_s, spares_n, ldAt_0, ldAt_s, pure_fieldAddr, pure_field, pure_indexAddr, pure_index, pure_load, pure_call, pure_store, pure_alloc, pure_box, pure_build, dr_field, dr_pick, ops_field, field_0, field_1, okA_nil, okA_cons, headW_nil, headW_cons, headH_nil, headH_cons, bindsA_nil, bindsA_cons, waitsA_nil, waitsA_cons, allWait_0, allWait_s, pure_0, pure_s, pure_move, pure_assign, pure_bin, pure_un, pure_conv, pure_ext, binds_data, binds_chain, binds_guard, binds_phase, binds_text, binds_gc, heapA_nil, heapA_cons, sameLen_self, sameLen_nil, sameLen_cons, sameLen_l, sameLen_set, entries_nil, entries_cons, entC_f, entC_t, entC_n, dstsOf_nil, dstsOf_some, dstsOf_no, valsEnv_nil, valsEnv_some, valsEnv_none, ops_index, ops_indexAddr, ops_buildSlice, blt_lit, beq_lit, Bool.or_true, Bool.true_or, Bool.or_false, Bool.false_or, Bool.and_true, Bool.true_and, Bool.and_self, cond_true, cond_false, List.append_nil, Iv.eta, Option.map_none, T43, T58, alloc_eq, alloc_pair', alloc_int, alloc_bool, build_eq, buildO_01, buildO_0, buildO_1, buildO_n, buildO_a, bsl_eq, bslO_2, idx_eq, idxO_l0, idxO_l1, iad_eq, iadO_l0, iadO_l1, binP_eql', binP_neq', binB_eql', binB_neq', eqT_pt, eqT_pf, eqT_bt, eqT_bf, decide_true, decide_false, seqK_n, seqK_r, seqK_e, loopK_n, loopK_r, loopK_e, reqs_true, Int.zero_sub, wrap_lit, wrapu_lit, Int.reduceLE, Int.reduceLT, Int.reduceAdd, Int.reduceSub, Int.reduceMul, Int.reduceNeg, Int.reduceEq, ops_makeFunc, makeFunc_eq, ptrsO_some, ptrsOf_nil, ptrsOf_cons, consQ_some, funcV_nil, funcV_cons, Option.bind_some, loadO_giv, bin_shr_u64, bin_shl_u64, bin_shr_i64, bin_shl_i64, and_m32', Int.reduceToNat, Int.reducePow, Int.reduceMod, Int.reduceDiv, wrap_u64s, true_or, or_true, true_and, and_true]
    repeat' (first | with_reducible refine cnd_split (fun hc => ?_) (fun hc => ?_) | with_reducible refine Reqs.mk ?_ ?_)
    all_goals (first | trivial | (refine endS_vb (t := (meetI (Iv.mk a1 a2) (Iv.mk b1 b2))) hr ?_; try simp_all [meetI]))
    all_goals (try simp only [okI_mk, within_iff] at *)
    all_goals (try simp (disch := omega) only [wrap_om, wrapu_om, mkI_lin])
    all_goals (try simp_all [meetI])
    all_goals (try omega)
  · cases hF

-- impl.OverlapI
theorem impl_OverlapI_overI_ok : Fn Tryz.prog 111 F_overI := by
  refine fn_of_go (O := orc [⟨64, F_meetI, .inl impl_MeetI_meetI_ok⟩]) mixed T_ok (orc_sound _) Tryz.func111 (by kernel_rfl) rfl Tryz.ntmps111 (by kernel_rfl) Tryz.results111 ?_
  intro args g pre r new hF hpre
  unfold F_overI at hF
  split at hF
  · rename_i a1 a2 b1 b2
    simp only [Option.some.injEq, Prod.mk.injEq] at hF
    obtain ⟨rfl, hr, rfl⟩ := hF
    refine ⟨by simp, ?_⟩
    simp (config := { maxSteps := 4000000, implicitDefEqProofs := false }) only [F_meetI_eq, go_seq', go_reg, go_draw, rest_n, rest_r, rest_e, go_cond, go_block, go_ret_, go_skip, go_exit, blockK_n, blockK_r, blockK_e, ops_nil, ops_gate, ops_move, ops_assign, ops_pick, ops_box, ops_load, ops_store, ops_bin, ops_un, ops_conv, ops_fieldAddr, ops_extract, ops_builtin, ops_call, ops_alloc, ops_build, st1_some, stH_some, stC_nil, reqO_some, cndO_some, putE_some, putE_none, tell_some, look_hit, look_miss, opd_tmp, opd_int, opd_bool, opd_func, opdA_eq, opdP_eq, toA_v, toP_v, sp_eq, cells_p, cells_agg, cellsOf_p, cellsOf_agg, boxO_some, loadO_own, loadC_int, loadC_bool, loadC_pair, storeO_own, storeC_0, storeC_1, storeC_2, storeC_c, size_int, size_bool, size_pair, faddr_0, faddr_1, conv_int, un_not, un_neg, un_xor, ext_0, ext_1, ext_2, max_v, min_v, bin_add, bin_sub, bin_mul, bin_and, bin_or, bin_xor, bin_eql, bin_neq, bin_lss, bin_leq, bin_gtr, bin_geq, grd_b, grd_u, slotV_some, gateP_eq, gateO_some, asBoolS_b, slotOf_tmp, gslot_0, gslot_s, beq_t, beq_f, ↓cnd_t, ↓cnd_f, cnd_not, callR_eq, calleeO_fn, argsO_eq, pairT_some, capsA_nil, capsA_cons, trArgs_nil, trArgs_agg, trArgs_p, trArgs_ptr, ptrT_some, trArgs_clo, cloT_some, consT_some, trPts_nil, trPts_cons, ptsT_some, consP_some, loadCell_own, loadCell_giv, calleeO_clo, tellO_some, argsA_nil, argsA_cons, consO_some, orc_cons, ends_r, ends_n, resAll_nil, resAll_cons, resV_tmp, resV_cell, resC_own, cellV_pair, cellV_int, startEnv, Option.map_some, List.length_nil, List.length_cons, List.nil_append, List.cons_append, List.getElem?_cons_zero, List.getElem?_cons_succ, List.set_cons_zero, List.set_cons_succ, Bool.not_true, Bool.not_false, reduceIte, Nat.reduceEqDiff, Nat.reduceAdd, Nat.reduceLT, partsP_cons, partsP_nil, conP_some, T5, T9, T2, T3, T51, T67, T4, T24, T23, T53, dr_nil, dr_move, dr_assign, dr_box, dr_load, dr_bin, dr_un, dr_conv, dr_fieldAddr, dr_extract, dr_builtin, dr_call, dr_alloc, dr_index, dr_indexAddr, dr_build, dr_buildSlice, dr_makeFunc, dr_store, drawN_p, drawN_g, drawE_s, ifS_t, isW_nil, isW_cons, boxOf_own, boxOf_giv, otherB_s, otherB_n, spares_s, spares_n, ldAt_0, ldAt_s, pure_fieldAddr, pure_field, pure_indexAddr, pure_index, pure_load, pure_call, pure_store, pure_alloc, pure_box, pure_build, dr_field, dr_pick, ops_field, field_0, field_1, okA_nil, okA_cons, headW_nil, headW_cons, headH_nil, headH_cons, bindsA_nil, bindsA_cons, waitsA_nil, waitsA_cons, allWait_0, allWait_s, pure_0, pure_s, pure_move, pure_assign, pure_bin, pure_un, pure_conv, pure_ext, binds_data, binds_chain, binds_guard, binds_phase, binds_text, binds_gc, heapA_nil, heapA_cons, sameLen_self, sameLen_nil, sameLen_cons, sameLen_l, sameLen_set, entries_nil, entries_cons, entC_f, entC_t, entC_n, dstsOf_nil, dstsOf_some, dstsOf_no, valsEnv_nil, valsEnv_some, valsEnv_none, ops_index, ops_indexAddr, ops_buildSlice, blt_lit, beq_lit, Bool.or_true, Bool.true_or, Bool.or_false, Bool.false_or, Bool.and_true, Bool.true_and, Bool.and_self, cond_true, cond_false, List.append_nil, Iv.eta, Option.map_none, T43, T58, alloc_eq, alloc_pair', alloc_int, alloc_bool, build_eq, buildO_01, buildO_0, buildO_1, buildO_n, buildO_a, bsl_eq, bslO_2, idx_eq, idxO_l0, idxO_l1, iad_eq, iadO_l0, iadO_l1, binP_eql', binP_neq', binB_eql', binB_neq', eqT_pt, eqT_pf, eqT_bt, eqT_bf, decide_true, decide_false, seqK_n, seqK_r, seqK_e, loopK_n, loopK_r, loopK_e, reqs_true, Int.zero_sub, wrap_lit, wrapu_lit, Int.reduceLE, Int.reduceLT, Int.reduceAdd, Int.reduceSub, Int.reduceMul, Int.reduceNeg, Int.reduceEq, ops_makeFunc, makeFunc_eq, ptrsO_some, ptrsOf_nil, ptrsOf_cons, consQ_some, funcV_nil, funcV_cons, Option.bind_some, loadO_giv, bin_shr_u64, bin_shl_u64, bin_shr_i64, bin_shl_i64, and_m32', Int.reduceToNat, Int.reducePow, Int.reduceMod, Int.reduceDiv, wrap_u64s, true_or, or_true, true_and, and_true]
    repeat' (first | with_reducible refine cnd_split (fun hc => ?_) (fun hc => ?_) | with_reducible refine Reqs.mk ?_ ?_)
    all_goals (first | trivial | (refine endS_b (t := ((meetI (Iv.mk a1 a2) (Iv.mk b1 b2)).2)) hr ?_; try simp_all [meetI]))
    all_goals (try simp only [okI_mk, within_iff] at *)
    all_goals (try simp (disch := omega) only [wrap_om, wrapu_om, mkI_lin])
    all_goals (try simp_all [meetI])
    all_goals (try omega)
  · cases hF

-- spec.OverlapI
theorem spec_OverlapI_overI_ok : Fn Tryz.prog 74 F_overI := by
  refine fn_of_go (O := orc [⟨62, F_meetI, .inl spec_MeetI_meetI_ok⟩]) mixed T_ok (orc_sound _) Tryz.func74 (by kernel_rfl) rfl Tryz.ntmps74 (by kernel_rfl) Tryz.results74 ?_
  intro args g pre r new hF hpre
  unfold F_overI at hF
  split at hF
  · rename_i a1 a2 b1 b2
    simp only [Option.some.injEq, Prod.mk.injEq] at hF
    obtain ⟨rfl, hr, rfl⟩ := hF
    refine ⟨by simp, ?_⟩
    simp (config := { maxSteps := 4000000, implicitDefEqProofs := false }) only [F_meetI_eq, go_seq', go_reg, go_draw, rest_n, rest_r, rest_e, go_cond, go_block, go_ret_, go_skip, go_exit, blockK_n, blockK_r, blockK_e, ops_nil, ops_gate, ops_move, ops_assign, ops_pick, ops_box, ops_load, ops_store, ops_bin, ops_un, ops_conv, ops_fieldAddr, ops_extract, ops_builtin, ops_call, ops_alloc, ops_build, st1_some, stH_some, stC_nil, reqO_some, cndO_some, putE_some, putE_none, tell_some, look_hit, look_miss, opd_tmp, opd_int, opd_bool, opd_func, opdA_eq, opdP_eq, toA_v, toP_v, sp_eq, cells_p, cells_agg, cellsOf_p, cellsOf_agg, boxO_some, loadO_own, loadC_int, loadC_bool, loadC_pair, storeO_own, storeC_0, storeC_1, storeC_2, storeC_c, size_int, size_bool, size_pair, faddr_0, faddr_1, conv_int, un_not, un_neg, un_xor, ext_0, ext_1, ext_2, max_v, min_v, bin_add, bin_sub, bin_mul, bin_and, bin_or, bin_xor, bin_eql, bin_neq, bin_lss, bin_leq, bin_gtr, bin_geq, grd_b, grd_u, slotV_some, gateP_eq, gateO_some, asBoolS_b, slotOf_tmp, gslot_0, gslot_s, beq_t, beq_f, ↓cnd_t, ↓cnd_f, cnd_not, callR_eq, calleeO_fn, argsO_eq, pairT_some, capsA_nil, capsA_cons, trArgs_nil, trArgs_agg, trArgs_p, trArgs_ptr, ptrT_some, trArgs_clo, cloT_some, consT_some, trPts_nil, trPts_cons, ptsT_some, consP_some, loadCell_own, loadCell_giv, calleeO_clo, tellO_some, argsA_nil, argsA_cons, consO_some, orc_cons, ends_r, ends_n, resAll_nil, resAll_cons, resV_tmp, resV_cell, resC_own, cellV_pair, cellV_int, startEnv, Option.map_some, List.length_nil, List.length_cons, List.nil_append, List.cons_append, List.getElem?_cons_zero, List.getElem?_cons_succ, List.set_cons_zero, List.set_cons_succ, Bool.not_true, Bool.not_false, reduceIte, Nat.reduceEqDiff, Nat.reduceAdd, Nat.reduceLT, partsP_cons, partsP_nil, conP_some, T5, T9, T2, T3, T51, T67, T4, T24, T23, T53, dr_nil, dr_move, dr_assign, dr_box, dr_load, dr_bin, dr_un, dr_conv, dr_fieldAddr, dr_extract, dr_builtin, dr_call, dr_alloc, dr_index, dr_indexAddr, dr_build, dr_buildSlice, dr_makeFunc, dr_store, drawN_p, drawN_g, drawE_s, ifS_t, isW_nil, isW_cons, boxOf_own, boxOf_giv, otherB_s, otherB_n, spares_s, spares_n, ldAt_0, ldAt_s, pure_fieldAddr, pure_field, pure_indexAddr, pure_index, pure_load, pure_call, pure_store, pure_alloc, pure_box, pure_build, dr_field, dr_pick, ops_field, field_0, field_1, okA_nil, okA_cons, headW_nil, headW_cons, headH_nil, headH_cons, bindsA_nil, bindsA_cons, waitsA_nil, waitsA_cons, allWait_0, allWait_s, pure_0, pure_s, pure_move, pure_assign, pure_bin, pure_un, pure_conv, pure_ext, binds_data, binds_chain, binds_guard, binds_phase, binds_text, binds_gc, heapA_nil, heapA_cons, sameLen_self, sameLen_nil, sameLen_cons, sameLen_l, sameLen_set, entries_nil, entries_cons, entC_f, entC_t, entC_n, dstsOf_nil, dstsOf_some, dstsOf_no, valsEnv_nil, valsEnv_some, valsEnv_none, ops_index, ops_indexAddr, ops_buildSlice, blt_lit, beq_lit, Bool.or_true, Bool.true_or, Bool.or_false, Bool.false_or, Bool.and_true, Bool.true_and, Bool.and_self, cond_true, cond_false, List.append_nil, Iv.eta, Option.map_none, T43, T58, alloc_eq, alloc_pair', alloc_int, alloc_bool, build_eq, buildO_01, buildO_0, buildO_1, buildO_n, buildO_a, bsl_eq, bslO_2, idx_eq, idxO_l0, idxO_l1, iad_eq, iadO_l0, iadO_l1, binP_eql', binP_neq', binB_eql', binB_neq', eqT_pt, eqT_pf, eqT_bt, eqT_bf, decide_true, decide_false, seqK_n, seqK_r, seqK_e, loopK_n, loopK_r, loopK_e, reqs_true, Int.zero_sub, wrap_lit, wrapu_lit, Int.reduceLE, Int.reduceLT, Int.reduceAdd, Int.reduceSub, Int.reduceMul, Int.reduceNeg, Int.reduceEq, ops_makeFunc, makeFunc_eq, ptrsO_some, ptrsOf_nil, ptrsOf_cons, consQ_some, funcV_nil, funcV_cons, Option.bind_some, loadO_giv, bin_shr_u64, bin_shl_u64, bin_shr_i64, bin_shl_i64, and_m32', Int.reduceToNat, Int.reducePow, Int.reduceMod, Int.reduceDiv, wrap_u64s, true_or, or_true, true_and, and_true]
    repeat' (first | with_reducible refine cnd_split (fun hc => ?_) (fun hc => ?_) | with_reducible refine Reqs.mk ?_ ?_)
    all_goals (first | trivial | (refine endS_b (t := ((meetI (Iv.mk a1 a2) (Iv.mk b1 b2)).2)) hr ?_; try simp_all [meetI]))
    all_goals (try simp only [okI_mk, within_iff] at *)
    all_goals (try simp (disch := omega) only [wrap_om, wrapu_om, mkI_lin])
    all_goals (try simp_all [meetI])
    all_goals (try omega)
  · cases hF

-- integer
theorem intI_edge {n : Int} (h : within n (-268435455) 268435455 = false) : intI n = whole := by
  unfold intI
  split
  · rename_i hw
    rw [within_iff] at hw
    have : n = 268435456 ∨ n = -268435456 := by
      cases hq : within n (-268435455) 268435455 with
      | true => rw [hq] at h; cases h
      | false =>
        have : ¬ (-268435455 ≤ n ∧ n ≤ 268435455) := fun hh => by rw [within_iff.2 hh] at hq; cases hq
        omega
    rcases this with rfl | rfl <;> rfl
  · rfl
theorem intI_in {n : Int} (h : within n (-268435455) 268435455 = true) : IntKind.i64.wrap (n * 4294967296) = n * 4294967296 ∧ intI n = mkI (n * 4294967296) (n * 4294967296) := by
  rw [within_iff] at h
  refine ⟨wrap_om (by omega) (by omega), ?_⟩
  unfold intI
  rw [if_pos (by rw [within_iff]; omega)]

-- impl.Integer
theorem impl_Integer_intI_ok : Fn Tryz.prog 66 F_intI := by
  refine fn_of_go (O := orc [⟨48, F_whole, .inl impl_Whole_whole_ok⟩, ⟨63, F_within, .inl impl_within_within_ok⟩, ⟨99, F_bounded, .inl impl_bounded_bounded_ok⟩]) mixed T_ok (orc_sound _) Tryz.func66 (by kernel_rfl) rfl Tryz.ntmps66 (by kernel_rfl) Tryz.results66 ?_
  intro args g pre r new hF hpre
  unfold F_intI at hF
  split at hF
  · rename_i n
    simp only [Option.some.injEq, Prod.mk.injEq] at hF
    obtain ⟨rfl, hr, rfl⟩ := hF
    refine ⟨by simp, ?_⟩
    simp (config := { maxSteps := 4000000, implicitDefEqProofs := false }) only [F_bounded_eq, F_whole_eq, F_within_eq, go_seq', go_reg, go_draw, rest_n, rest_r, rest_e, go_cond, go_block, go_ret_, go_skip, go_exit, blockK_n, blockK_r, blockK_e, ops_nil, ops_gate, ops_move, ops_assign, ops_pick, ops_box, ops_load, ops_store, ops_bin, ops_un, ops_conv, ops_fieldAddr, ops_extract, ops_builtin, ops_call, ops_alloc, ops_build, st1_some, stH_some, stC_nil, reqO_some, cndO_some, putE_some, putE_none, tell_some, look_hit, look_miss, opd_tmp, opd_int, opd_bool, opd_func, opdA_eq, opdP_eq, toA_v, toP_v, sp_eq, cells_p, cells_agg, cellsOf_p, cellsOf_agg, boxO_some, loadO_own, loadC_int, loadC_bool, loadC_pair, storeO_own, storeC_0, storeC_1, storeC_2, storeC_c, size_int, size_bool, size_pair, faddr_0, faddr_1, conv_int, un_not, un_neg, un_xor, ext_0, ext_1, ext_2, max_v, min_v, bin_add, bin_sub, bin_mul, bin_and, bin_or, bin_xor, bin_eql, bin_neq, bin_lss, bin_leq, bin_gtr, bin_geq, grd_b, grd_u, slotV_some, gateP_eq, gateO_some, asBoolS_b, slotOf_tmp, gslot_0, gslot_s, beq_t, beq_f, ↓cnd_t, ↓cnd_f, cnd_not, callR_eq, calleeO_fn, argsO_eq, pairT_some, capsA_nil, capsA_cons, trArgs_nil, trArgs_agg, trArgs_p, trArgs_ptr, ptrT_some, trArgs_clo, cloT_some, consT_some, trPts_nil, trPts_cons, ptsT_some, consP_some, loadCell_own, loadCell_giv, calleeO_clo, tellO_some, argsA_nil, argsA_cons, consO_some, orc_cons, ends_r, ends_n, resAll_nil, resAll_cons, resV_tmp, resV_cell, resC_own, cellV_pair, cellV_int, startEnv, Option.map_some, List.length_nil, List.length_cons, List.nil_append, List.cons_append, List.getElem?_cons_zero, List.getElem?_cons_succ, List.set_cons_zero, List.set_cons_succ, Bool.not_true, Bool.not_false, reduceIte, Nat.reduceEqDiff, Nat.reduceAdd, Nat.reduceLT, partsP_cons, partsP_nil, conP_some, T5, T9, T2, T3, T51, T67, T4, T24, T23, T53, dr_nil, dr_move, dr_assign, dr_box, dr_load, dr_bin, dr_un, dr_conv, dr_fieldAddr, dr_extract, dr_builtin, dr_call, dr_alloc, dr_index, dr_indexAddr, dr_build, dr_buildSlice, dr_makeFunc, dr_store, drawN_p, drawN_g, drawE_s, ifS_t, isW_nil, isW_cons, boxOf_own, boxOf_giv, otherB_s, otherB_n, spares_s, spares_n, ldAt_0, ldAt_s, pure_fieldAddr, pure_field, pure_indexAddr, pure_index, pure_load, pure_call, pure_store, pure_alloc, pure_box, pure_build, dr_field, dr_pick, ops_field, field_0, field_1, okA_nil, okA_cons, headW_nil, headW_cons, headH_nil, headH_cons, bindsA_nil, bindsA_cons, waitsA_nil, waitsA_cons, allWait_0, allWait_s, pure_0, pure_s, pure_move, pure_assign, pure_bin, pure_un, pure_conv, pure_ext, binds_data, binds_chain, binds_guard, binds_phase, binds_text, binds_gc, heapA_nil, heapA_cons, sameLen_self, sameLen_nil, sameLen_cons, sameLen_l, sameLen_set, entries_nil, entries_cons, entC_f, entC_t, entC_n, dstsOf_nil, dstsOf_some, dstsOf_no, valsEnv_nil, valsEnv_some, valsEnv_none, ops_index, ops_indexAddr, ops_buildSlice, blt_lit, beq_lit, Bool.or_true, Bool.true_or, Bool.or_false, Bool.false_or, Bool.and_true, Bool.true_and, Bool.and_self, cond_true, cond_false, List.append_nil, Iv.eta, Option.map_none, T43, T58, alloc_eq, alloc_pair', alloc_int, alloc_bool, build_eq, buildO_01, buildO_0, buildO_1, buildO_n, buildO_a, bsl_eq, bslO_2, idx_eq, idxO_l0, idxO_l1, iad_eq, iadO_l0, iadO_l1, binP_eql', binP_neq', binB_eql', binB_neq', eqT_pt, eqT_pf, eqT_bt, eqT_bf, decide_true, decide_false, seqK_n, seqK_r, seqK_e, loopK_n, loopK_r, loopK_e, reqs_true, Int.zero_sub, wrap_lit, wrapu_lit, Int.reduceLE, Int.reduceLT, Int.reduceAdd, Int.reduceSub, Int.reduceMul, Int.reduceNeg, Int.reduceEq, ops_makeFunc, makeFunc_eq, ptrsO_some, ptrsOf_nil, ptrsOf_cons, consQ_some, funcV_nil, funcV_cons, Option.bind_some, loadO_giv, bin_shr_u64, bin_shl_u64, bin_shr_i64, bin_shl_i64, and_m32', Int.reduceToNat, Int.reducePow, Int.reduceMod, Int.reduceDiv, wrap_u64s, true_or, or_true, true_and, and_true]
    repeat' (first | with_reducible refine cnd_split (fun hc => ?_) (fun hc => ?_) | with_reducible refine Reqs.mk ?_ ?_)
    all_goals (refine endS_v (t := (intI n)) hr ?_)
    all_goals first
      | (have h := within_iff.1 (by assumption : within n (-268435456) 268435456 = true)
         have e : IntKind.i64.wrap (n * 4294967296) = n * 4294967296 := wrap_om (by omega) (by omega)
         rw [e, intI, if_pos (by assumption)])
      | simp_all [intI]
  · cases hF

-- spec.Integer
theorem spec_Integer_intI_ok : Fn Tryz.prog 60 F_intI := by
  refine fn_of_go (O := orc [⟨58, F_within, .inl spec_l00In_within_ok⟩, ⟨83, F_whole, .inl spec_l04Whole_whole_ok⟩, ⟨84, F_mkI, .inl spec_l04Make_mkI_ok⟩]) mixed T_ok (orc_sound _) Tryz.func60 (by kernel_rfl) rfl Tryz.ntmps60 (by kernel_rfl) Tryz.results60 ?_
  intro args g pre r new hF hpre
  unfold F_intI at hF
  split at hF
  · rename_i n
    simp only [Option.some.injEq, Prod.mk.injEq] at hF
    obtain ⟨rfl, hr, rfl⟩ := hF
    refine ⟨by simp, ?_⟩
    simp (config := { maxSteps := 4000000, implicitDefEqProofs := false }) only [F_mkI_eq, F_whole_eq, F_within_eq, go_seq', go_reg, go_draw, rest_n, rest_r, rest_e, go_cond, go_block, go_ret_, go_skip, go_exit, blockK_n, blockK_r, blockK_e, ops_nil, ops_gate, ops_move, ops_assign, ops_pick, ops_box, ops_load, ops_store, ops_bin, ops_un, ops_conv, ops_fieldAddr, ops_extract, ops_builtin, ops_call, ops_alloc, ops_build, st1_some, stH_some, stC_nil, reqO_some, cndO_some, putE_some, putE_none, tell_some, look_hit, look_miss, opd_tmp, opd_int, opd_bool, opd_func, opdA_eq, opdP_eq, toA_v, toP_v, sp_eq, cells_p, cells_agg, cellsOf_p, cellsOf_agg, boxO_some, loadO_own, loadC_int, loadC_bool, loadC_pair, storeO_own, storeC_0, storeC_1, storeC_2, storeC_c, size_int, size_bool, size_pair, faddr_0, faddr_1, conv_int, un_not, un_neg, un_xor, ext_0, ext_1, ext_2, max_v, min_v, bin_add, bin_sub, bin_mul, bin_and, bin_or, bin_xor, bin_eql, bin_neq, bin_lss, bin_leq, bin_gtr, bin_geq, grd_b, grd_u, slotV_some, gateP_eq, gateO_some, asBoolS_b, slotOf_tmp, gslot_0, gslot_s, beq_t, beq_f, ↓cnd_t, ↓cnd_f, cnd_not, callR_eq, calleeO_fn, argsO_eq, pairT_some, capsA_nil, capsA_cons, trArgs_nil, trArgs_agg, trArgs_p, trArgs_ptr, ptrT_some, trArgs_clo, cloT_some, consT_some, trPts_nil, trPts_cons, ptsT_some, consP_some, loadCell_own, loadCell_giv, calleeO_clo, tellO_some, argsA_nil, argsA_cons, consO_some, orc_cons, ends_r, ends_n, resAll_nil, resAll_cons, resV_tmp, resV_cell, resC_own, cellV_pair, cellV_int, startEnv, Option.map_some, List.length_nil, List.length_cons, List.nil_append, List.cons_append, List.getElem?_cons_zero, List.getElem?_cons_succ, List.set_cons_zero, List.set_cons_succ, Bool.not_true, Bool.not_false, reduceIte, Nat.reduceEqDiff, Nat.reduceAdd, Nat.reduceLT, partsP_cons, partsP_nil, conP_some, T5, T9, T2, T3, T51, T67, T4, T24, T23, T53, dr_nil, dr_move, dr_assign, dr_box, dr_load, dr_bin, dr_un, dr_conv, dr_fieldAddr, dr_extract, dr_builtin, dr_call, dr_alloc, dr_index, dr_indexAddr, dr_build, dr_buildSlice, dr_makeFunc, dr_store, drawN_p, drawN_g, drawE_s, ifS_t, isW_nil, isW_cons, boxOf_own, boxOf_giv, otherB_s, otherB_n, spares_s, spares_n, ldAt_0, ldAt_s, pure_fieldAddr, pure_field, pure_indexAddr, pure_index, pure_load, pure_call, pure_store, pure_alloc, pure_box, pure_build, dr_field, dr_pick, ops_field, field_0, field_1, okA_nil, okA_cons, headW_nil, headW_cons, headH_nil, headH_cons, bindsA_nil, bindsA_cons, waitsA_nil, waitsA_cons, allWait_0, allWait_s, pure_0, pure_s, pure_move, pure_assign, pure_bin, pure_un, pure_conv, pure_ext, binds_data, binds_chain, binds_guard, binds_phase, binds_text, binds_gc, heapA_nil, heapA_cons, sameLen_self, sameLen_nil, sameLen_cons, sameLen_l, sameLen_set, entries_nil, entries_cons, entC_f, entC_t, entC_n, dstsOf_nil, dstsOf_some, dstsOf_no, valsEnv_nil, valsEnv_some, valsEnv_none, ops_index, ops_indexAddr, ops_buildSlice, blt_lit, beq_lit, Bool.or_true, Bool.true_or, Bool.or_false, Bool.false_or, Bool.and_true, Bool.true_and, Bool.and_self, cond_true, cond_false, List.append_nil, Iv.eta, Option.map_none, T43, T58, alloc_eq, alloc_pair', alloc_int, alloc_bool, build_eq, buildO_01, buildO_0, buildO_1, buildO_n, buildO_a, bsl_eq, bslO_2, idx_eq, idxO_l0, idxO_l1, iad_eq, iadO_l0, iadO_l1, binP_eql', binP_neq', binB_eql', binB_neq', eqT_pt, eqT_pf, eqT_bt, eqT_bf, decide_true, decide_false, seqK_n, seqK_r, seqK_e, loopK_n, loopK_r, loopK_e, reqs_true, Int.zero_sub, wrap_lit, wrapu_lit, Int.reduceLE, Int.reduceLT, Int.reduceAdd, Int.reduceSub, Int.reduceMul, Int.reduceNeg, Int.reduceEq, ops_makeFunc, makeFunc_eq, ptrsO_some, ptrsOf_nil, ptrsOf_cons, consQ_some, funcV_nil, funcV_cons, Option.bind_some, loadO_giv, bin_shr_u64, bin_shl_u64, bin_shr_i64, bin_shl_i64, and_m32', Int.reduceToNat, Int.reducePow, Int.reduceMod, Int.reduceDiv, wrap_u64s, true_or, or_true, true_and, and_true]
    repeat' (first | with_reducible refine cnd_split (fun hc => ?_) (fun hc => ?_) | with_reducible refine Reqs.mk ?_ ?_)
    all_goals (refine endS_v (t := (intI n)) hr ?_)
    all_goals first
      | (have h := intI_in (by assumption); rw [h.1, h.2])
      | rw [intI_edge (by assumption)]
  · cases hF

end Go.Proofs.YtnkdmdjnnbkfgaaGreat.Eng
