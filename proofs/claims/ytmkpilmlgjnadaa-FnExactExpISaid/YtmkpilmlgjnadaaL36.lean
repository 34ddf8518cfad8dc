/- What functions of the program compute, and that the program computes it: part 36. -/
import Derived.Test.YtmkpilmlgjnadaaTab
import Derived.Test.YtmkpilmlgjnadaaEng15
import Derived.Laws.BitsLemmas
import Derived.Laws.Bits64
import Derived.Laws.Bits64b
import Derived.Lib.Mul64
import Derived.Lib.BitFns
import Derived.Laws.Externs
import Derived.Test.YtmkpilmlgjnadaaL1
import Derived.Test.YtmkpilmlgjnadaaL29
import Derived.Test.YtmkpilmlgjnadaaL34
namespace Go.Proofs.Ytmkpilmlgjnadaa.Eng
open Go Go.RowKit
set_option linter.unusedVariables false
set_option linter.unusedSimpArgs false
set_option maxRecDepth 100000
set_option maxHeartbeats 1000000
-- laws.FnExactExpI
def F_lawExpI : FT
  | [.agg [.int .i64 x1, .int .i64 x2]], _ => some (True, .v (.c (.p (.bool (true)))), [])
  | _, _ => none
theorem F_lawExpI_eq {x1 : Int} {x2 : Int} {g : List PC} : F_lawExpI [.agg [.int .i64 x1, .int .i64 x2]] g = some (True, .v (.c (.p (.bool (true)))), []) := rfl
theorem laws_FnExactExpI_lawExpI_ok : Fn Try.prog 4 F_lawExpI := by
  refine fn_of_go (O := orc [⟨12, F_eqI, .inl laws_eqInterval_eqI_ok⟩, ⟨13, F_expI, .inl spec_ExpI_expI_ok⟩, ⟨14, F_toI, .inl laws_toInterval_toI_ok⟩, ⟨15, F_expI, .inl impl_ExpI_expI_ok⟩]) mixed T_ok (orc_sound _) Try.func4 (by kernel_rfl) rfl Try.ntmps4 (by kernel_rfl) Try.results4 ?_
  intro args g pre r new hF hpre
  unfold F_lawExpI at hF
  split at hF
  · rename_i x1 x2
    simp only [Option.some.injEq, Prod.mk.injEq] at hF
    obtain ⟨rfl, hr, rfl⟩ := hF
    refine ⟨by simp, ?_⟩
    simp (config := { maxSteps := 4000000, implicitDefEqProofs := false }) only [F_eqI_eq, F_expI_eq, F_toI_eq, go_seq', go_reg, go_draw, rest_n, rest_r, rest_e, go_cond, go_block, go_ret_, go_skip, go_exit, blockK_n, blockK_r, blockK_e, ops_nil, ops_gate, ops_move, ops_assign, ops_pick, ops_box, ops_load, ops_store, ops_bin, ops_un, ops_conv, ops_fieldAddr, ops_extract, ops_call, ops_alloc, ops_build, st1_some, stH_some, reqO_some, cndO_some, putE_some, putE_none, tell_some, look_hit, look_miss, opd_tmp, opd_int, opd_bool, opd_func, opd_txt, up_v, up_tup, up_agg, up_p, up_clo, up_ptr, up_own, List.map_cons, List.map_nil, Nat.add_zero, opd_nsl, opd_nf, opdA_eq, opdP_eq, toA_v, toP_v, sp_eq, cells_p, cells_agg, cellsOf_p, cellsOf_agg, boxO_some, loadO_own, loadC_int, loadC_bool, loadC_pair, storeO_own, storeC_0, storeC_1, storeC_2, storeC_c, size_int, size_bool, size_pair, faddr_0, faddr_1, conv_int, un_not, un_neg, un_xor, ext_0, ext_1, ext_2, max_v, min_v, bin_add, bin_sub, bin_mul, bin_and, bin_or, bin_xor, bin_eql, bin_neq, bin_lss, bin_leq, bin_gtr, bin_geq, grd_b, grd_u, slotV_some, gateP_eq, gateO_some, asBoolS_b, slotOf_tmp, gslot_0, gslot_s, beq_t, beq_f, ↓cnd_t, ↓cnd_f, cnd_not, callR_eq, calleeO_fn, capsA_nil, capsA_cons, trArgs_nil, trArgs_agg, trArgs_p, trArgs_ptr, ptrT_some, trArgs_clo, cloT_some, consT_some, trPts_nil, trPts_cons, ptsT_some, consP_some, loadCell_own, loadCell_giv, calleeO_clo, tellO_some, argsA_nil, argsA_cons, consO_some, orc_cons, ends_r, ends_n, resAll_nil, resAll_cons, resV_tmp, resV_cell, resC_own, cellV_pair, cellV_int, startEnv, Option.map_some, List.length_nil, List.length_cons, List.nil_append, List.cons_append, List.getElem?_cons_zero, List.getElem?_cons_succ, List.set_cons_zero, List.set_cons_succ, Bool.not_true, Bool.not_false, reduceIte, Nat.reduceEqDiff, Nat.reduceAdd, Nat.reduceLT, partsP_cons, partsP_nil, conP_some, dr_nil, dr_move, dr_assign, dr_box, dr_load, dr_bin, dr_un, dr_conv, dr_fieldAddr, dr_extract, dr_call, dr_alloc, dr_index, dr_indexAddr, dr_build, dr_buildSlice, dr_makeFunc, dr_store, drawN_p, drawN_g, drawE_s, ifS_t, isW_nil, isW_cons, boxOf_own, boxOf_giv, otherB_s, otherB_n, spares_s, spares_n, ldAt_0, ldAt_s, pure_fieldAddr, pure_field, pure_indexAddr, pure_index, pure_load, pure_call, pure_store, pure_alloc, pure_box, pure_build, dr_field, dr_pick, ops_field, field_0, field_1, okA_nil, okA_cons, headW_nil, headW_cons, headH_nil, headH_cons, bindsA_nil, bindsA_cons, waitsA_nil, waitsA_cons, allWait_0, allWait_s, pure_0, pure_s, pure_move, pure_assign, pure_bin, pure_un, pure_conv, pure_ext, binds_data, binds_chain, binds_guard, binds_phase, binds_text, binds_gc, heapA_nil, heapA_cons, sameLen_self, sameLen_nil, sameLen_cons, sameLen_l, sameLen_set, entries_nil, entries_cons, entC_f, entC_t, entC_n, dstsOf_nil, dstsOf_some, dstsOf_no, valsEnv_nil, valsEnv_some, valsEnv_none, ops_index, ops_indexAddr, ops_buildSlice, blt_lit, beq_lit, Bool.or_true, Bool.true_or, Bool.or_false, Bool.false_or, Bool.and_true, Bool.true_and, Bool.and_self, cond_true, cond_false, List.append_nil, Iv.eta, Option.map_none, alloc_eq, alloc_pair', alloc_int, alloc_bool, build_eq, buildO_01, buildO_0, buildO_1, buildO_n, buildO_a, bsl_eq, idx_eq, idxO_l0, idxO_l1, iad_eq, binP_eql', binP_neq', binB_eql', binB_neq', eqT_pt, eqT_pf, eqT_bt, eqT_bf, decide_true, decide_false, seqK_n, seqK_r, seqK_e, loopK_n, loopK_r, loopK_e, reqs_true, Int.zero_sub, wrap_lit, wrapu_lit, Int.reduceLE, Int.reduceLT, Int.reduceAdd, Int.reduceSub, Int.reduceMul, Int.reduceNeg, Int.reduceEq, ops_makeFunc, makeFunc_eq, ptrsO_some, ptrsOf_nil, ptrsOf_cons, consQ_some, funcV_nil, funcV_cons, Option.bind_some, loadO_giv, bin_shr_u64, bin_shl_u64, bin_shr_i64, bin_shl_i64, and_m32', Int.reduceToNat, Int.reducePow, Int.reduceMod, Int.reduceDiv, wrap_u64s, true_or, or_true, true_and, and_true, callX_some, mX_none, mX_some, orc_m, orcM_m, orcMs_nil, orcMs_cons, tellM_some, growO_nil, growO_cons, stC_some, ops_max, ops_min, ops_len, ops_append, ops_makeSlice, ops_slice, dr_max, dr_min, dr_len, dr_append, dr_makeSlice, dr_slice, gl_eq, loadO_abs, drawF_s, cellK_some, drawC_t, drawC_f, isMC_fn, isMC_clo, Option.isSome_none, Option.isSome_some, fillA_nil, fillA_cons, flA_nil, flA_cons, fillT_nil, fillT_cons, bindsNone_nil, bindsNone_cons, frees_nil, frees_cons, free_alloc, free_box, free_bsl, free_move, free_assign, free_load, free_store, free_bin, free_un, free_conv, free_fieldAddr, free_field, free_ext, free_call, free_iad, free_idx, free_build, free_mkf, free_pick, free_mks, free_slice, spares_a, otherT_s, otherT_n, ble_lit, Nat.reduceLeDiff, Nat.reduceMul, Int.toNat_natCast, Int.cast_ofNat_Int, Int.natCast_zero, Int.natCast_one, partsA_nil, partsA_cons, conA_some, inOrd_nil, inOrd_cons, flatP_nil, flatP_cons, rowN_0, rowN_s, bslO_row, bslO_0, mks_eq, intO_int, slc_eq, optI_none, optI_some, optP_int, app_eq, len_row, len_sl, len_emp, lenO_some, row_row, row_ez, row_size, row_agg, pair_agg, int_agg, one_agg, bool_agg, str_agg, iadO_row, iadO_sl, endsM_r, endsM_n, List.isEmpty_nil, List.isEmpty_cons, List.replicate_zero, List.replicate_succ, T1, T2, T3, T4, T5, T6, T9, T10, T11, T12, T21, T22, T23, T24, T25, T26, T27, T28, T29, T30, T31, T32, T33, T34, T35, T36, T37, T38, T39, T40, T42, T43, T44, T45, T46, T47, T48, T50, T51, T52, T53, T54, T55, T56, T57, T58, T59, T61, T62, T63, T65, T67, T69, T70, T71, T72, T75, T77, T83, T84, T85, T86, T87, T89, T90]
    repeat' (first | with_reducible refine cnd_split (fun hc => ?_) (fun hc => ?_) | with_reducible refine Reqs.mk ?_ ?_)
    all_goals first | trivial | exact endS_b (t := (true)) hr rfl | (exfalso; revert hc; simp; done) | exact hpre
  · cases hF
theorem law_ExpI : Fn Try.prog 4 F_lawExpI := laws_FnExactExpI_lawExpI_ok

end Go.Proofs.Ytmkpilmlgjnadaa.Eng
