/- What functions of the program compute, and that the program computes it: part 15. -/
import Derived.Test.YtmkpilmlgjnadaaTab
import Derived.Test.YtmkpilmlgjnadaaEng15
import Derived.Laws.BitsLemmas
import Derived.Laws.Bits64
import Derived.Laws.Bits64b
import Derived.Lib.Mul64
import Derived.Lib.BitFns
import Derived.Laws.Externs
import Derived.Test.YtmkpilmlgjnadaaL1
import Derived.Test.YtmkpilmlgjnadaaL2
import Derived.Test.YtmkpilmlgjnadaaL6
import Derived.Test.YtmkpilmlgjnadaaL7
import Derived.Test.YtmkpilmlgjnadaaL8
import Derived.Test.YtmkpilmlgjnadaaL13
import Derived.Test.YtmkpilmlgjnadaaL14
namespace Go.Proofs.Ytmkpilmlgjnadaa.Eng
open Go Go.RowKit
set_option linter.unusedVariables false
set_option linter.unusedSimpArgs false
set_option maxRecDepth 100000
set_option maxHeartbeats 1000000
-- plus
def F_plus : FT
  | [.agg [.int .i64 a1, .int .u64 a2], .agg [.int .i64 b1, .int .u64 b2]], _ => some ((inR a1 ∧ inU a2) ∧ (inR b1 ∧ inU b2) ∧ -170141183460469231731687303715884105728 ≤ (wv a1 a2) + (wv b1 b2) ∧ (wv a1 a2) + (wv b1 b2) < 170141183460469231731687303715884105728, .v (.agg [.int .i64 (whi ((wv a1 a2) + (wv b1 b2))), .int .u64 (wlo ((wv a1 a2) + (wv b1 b2)))]), [])
  | _, _ => none
theorem F_plus_eq {a1 : Int} {a2 : Int} {b1 : Int} {b2 : Int} {g : List PC} : F_plus [.agg [.int .i64 a1, .int .u64 a2], .agg [.int .i64 b1, .int .u64 b2]] g = some ((inR a1 ∧ inU a2) ∧ (inR b1 ∧ inU b2) ∧ -170141183460469231731687303715884105728 ≤ (wv a1 a2) + (wv b1 b2) ∧ (wv a1 a2) + (wv b1 b2) < 170141183460469231731687303715884105728, .v (.agg [.int .i64 (whi ((wv a1 a2) + (wv b1 b2))), .int .u64 (wlo ((wv a1 a2) + (wv b1 b2)))]), []) := rfl

-- spec.l02Plus
theorem spec_l02Plus_plus_ok : Fn Try.prog 120 F_plus := by
  refine fn_of_go (O := orc []) mixed T_ok (orc_sound _) Try.func120 (by kernel_rfl) rfl Try.ntmps120 (by kernel_rfl) Try.results120 ?_
  intro args g pre r new hF hpre
  unfold F_plus at hF
  split at hF
  · rename_i a1 a2 b1 b2
    simp only [Option.some.injEq, Prod.mk.injEq] at hF
    obtain ⟨rfl, hr, rfl⟩ := hF
    refine ⟨by simp, ?_⟩
    simp (config := { maxSteps := 4000000, implicitDefEqProofs := false }) only [go_seq', go_reg, go_draw, rest_n, rest_r, rest_e, go_cond, go_block, go_ret_, go_skip, go_exit, blockK_n, blockK_r, blockK_e, ops_nil, ops_gate, ops_move, ops_assign, ops_pick, ops_box, ops_load, ops_store, ops_bin, ops_un, ops_conv, ops_fieldAddr, ops_extract, ops_call, ops_alloc, ops_build, st1_some, stH_some, reqO_some, cndO_some, putE_some, putE_none, tell_some, look_hit, look_miss, opd_tmp, opd_int, opd_bool, opd_func, opd_txt, up_v, up_tup, up_agg, up_p, up_clo, up_ptr, up_own, List.map_cons, List.map_nil, Nat.add_zero, opd_nsl, opd_nf, opdA_eq, opdP_eq, toA_v, toP_v, sp_eq, cells_p, cells_agg, cellsOf_p, cellsOf_agg, boxO_some, loadO_own, loadC_int, loadC_bool, loadC_pair, storeO_own, storeC_0, storeC_1, storeC_2, storeC_c, size_int, size_bool, size_pair, faddr_0, faddr_1, conv_int, un_not, un_neg, un_xor, ext_0, ext_1, ext_2, max_v, min_v, bin_add, bin_sub, bin_mul, bin_and, bin_or, bin_xor, bin_eql, bin_neq, bin_lss, bin_leq, bin_gtr, bin_geq, grd_b, grd_u, slotV_some, gateP_eq, gateO_some, asBoolS_b, slotOf_tmp, gslot_0, gslot_s, beq_t, beq_f, ↓cnd_t, ↓cnd_f, cnd_not, callR_eq, calleeO_fn, capsA_nil, capsA_cons, trArgs_nil, trArgs_agg, trArgs_p, trArgs_ptr, ptrT_some, trArgs_clo, cloT_some, consT_some, trPts_nil, trPts_cons, ptsT_some, consP_some, loadCell_own, loadCell_giv, calleeO_clo, tellO_some, argsA_nil, argsA_cons, consO_some, orc_cons, ends_r, ends_n, resAll_nil, resAll_cons, resV_tmp, resV_cell, resC_own, cellV_pair, cellV_int, startEnv, Option.map_some, List.length_nil, List.length_cons, List.nil_append, List.cons_append, List.getElem?_cons_zero, List.getElem?_cons_succ, List.set_cons_zero, List.set_cons_succ, Bool.not_true, Bool.not_false, reduceIte, Nat.reduceEqDiff, Nat.reduceAdd, Nat.reduceLT, partsP_cons, partsP_nil, conP_some, dr_nil, dr_move, dr_assign, dr_box, dr_load, dr_bin, dr_un, dr_conv, dr_fieldAddr, dr_extract, dr_call, dr_alloc, dr_index, dr_indexAddr, dr_build, dr_buildSlice, dr_makeFunc, dr_store, drawN_p, drawN_g, drawE_s, ifS_t, isW_nil, isW_cons, boxOf_own, boxOf_giv, otherB_s, otherB_n, spares_s, spares_n, ldAt_0, ldAt_s, pure_fieldAddr, pure_field, pure_indexAddr, pure_index, pure_load, pure_call, pure_store, pure_alloc, pure_box, pure_build, dr_field, dr_pick, ops_field, field_0, field_1, okA_nil, okA_cons, headW_nil, headW_cons, headH_nil, headH_cons, bindsA_nil, bindsA_cons, waitsA_nil, waitsA_cons, allWait_0, allWait_s, pure_0, pure_s, pure_move, pure_assign, pure_bin, pure_un, pure_conv, pure_ext, binds_data, binds_chain, binds_guard, binds_phase, binds_text, binds_gc, heapA_nil, heapA_cons, sameLen_self, sameLen_nil, sameLen_cons, sameLen_l, sameLen_set, entries_nil, entries_cons, entC_f, entC_t, entC_n, dstsOf_nil, dstsOf_some, dstsOf_no, valsEnv_nil, valsEnv_some, valsEnv_none, ops_index, ops_indexAddr, ops_buildSlice, blt_lit, beq_lit, Bool.or_true, Bool.true_or, Bool.or_false, Bool.false_or, Bool.and_true, Bool.true_and, Bool.and_self, cond_true, cond_false, List.append_nil, Iv.eta, Option.map_none, alloc_eq, alloc_pair', alloc_int, alloc_bool, build_eq, buildO_01, buildO_0, buildO_1, buildO_n, buildO_a, bsl_eq, idx_eq, idxO_l0, idxO_l1, iad_eq, binP_eql', binP_neq', binB_eql', binB_neq', eqT_pt, eqT_pf, eqT_bt, eqT_bf, decide_true, decide_false, seqK_n, seqK_r, seqK_e, loopK_n, loopK_r, loopK_e, reqs_true, Int.zero_sub, wrap_lit, wrapu_lit, Int.reduceLE, Int.reduceLT, Int.reduceAdd, Int.reduceSub, Int.reduceMul, Int.reduceNeg, Int.reduceEq, ops_makeFunc, makeFunc_eq, ptrsO_some, ptrsOf_nil, ptrsOf_cons, consQ_some, funcV_nil, funcV_cons, Option.bind_some, loadO_giv, bin_shr_u64, bin_shl_u64, bin_shr_i64, bin_shl_i64, and_m32', Int.reduceToNat, Int.reducePow, Int.reduceMod, Int.reduceDiv, wrap_u64s, true_or, or_true, true_and, and_true, callX_some, mX_none, mX_some, orc_m, orcM_m, orcMs_nil, orcMs_cons, tellM_some, growO_nil, growO_cons, stC_some, ops_max, ops_min, ops_len, ops_append, ops_makeSlice, ops_slice, dr_max, dr_min, dr_len, dr_append, dr_makeSlice, dr_slice, gl_eq, loadO_abs, drawF_s, cellK_some, drawC_t, drawC_f, isMC_fn, isMC_clo, Option.isSome_none, Option.isSome_some, fillA_nil, fillA_cons, flA_nil, flA_cons, fillT_nil, fillT_cons, bindsNone_nil, bindsNone_cons, frees_nil, frees_cons, free_alloc, free_box, free_bsl, free_move, free_assign, free_load, free_store, free_bin, free_un, free_conv, free_fieldAddr, free_field, free_ext, free_call, free_iad, free_idx, free_build, free_mkf, free_pick, free_mks, free_slice, spares_a, otherT_s, otherT_n, ble_lit, Nat.reduceLeDiff, Nat.reduceMul, Int.toNat_natCast, Int.cast_ofNat_Int, Int.natCast_zero, Int.natCast_one, partsA_nil, partsA_cons, conA_some, inOrd_nil, inOrd_cons, flatP_nil, flatP_cons, rowN_0, rowN_s, bslO_row, bslO_0, mks_eq, intO_int, slc_eq, optI_none, optI_some, optP_int, app_eq, len_row, len_sl, len_emp, lenO_some, row_row, row_ez, row_size, row_agg, pair_agg, int_agg, one_agg, bool_agg, str_agg, iadO_row, iadO_sl, endsM_r, endsM_n, List.isEmpty_nil, List.isEmpty_cons, List.replicate_zero, List.replicate_succ, T1, T2, T3, T4, T5, T6, T9, T10, T11, T12, T21, T22, T23, T24, T25, T26, T27, T28, T29, T30, T31, T32, T33, T34, T35, T36, T37, T38, T39, T40, T42, T43, T44, T45, T46, T47, T48, T50, T51, T52, T53, T54, T55, T56, T57, T58, T59, T61, T62, T63, T65, T67, T69, T70, T71, T72, T75, T77, T83, T84, T85, T86, T87, T89, T90]
    unfold inR inU wv at hpre
    repeat' (first | with_reducible refine cnd_split (fun hc => ?_) (fun hc => ?_) | with_reducible refine Reqs.mk ?_ ?_)
    all_goals (try simp only [decide_eq_true_eq, decide_eq_false_iff_not, IntKind.wrap_i64] at *)
    all_goals (refine endS_w (t := ((wv a1 a2) + (wv b1 b2))) hr ?_; unfold whi wlo wv; omega)
  · cases hF

-- spec.l02Div
theorem spec_l02Div_lowDiv_ok : Fn Try.prog 115 F_lowDiv := by
  refine fn_of_go (O := orc [⟨111, F_wideOf, .inl spec_l02Of_wideOf_ok⟩, ⟨114, F_minus, .inl spec_l02Minus_minus_ok⟩, ⟨119, F_divide, .inl spec_l02Divide_divide_ok⟩, ⟨120, F_plus, .inl spec_l02Plus_plus_ok⟩]) mixed T_ok (orc_sound _) Try.func115 (by kernel_rfl) rfl Try.ntmps115 (by kernel_rfl) Try.results115 ?_
  intro args g pre r new hF hpre
  unfold F_lowDiv at hF
  split at hF
  · rename_i w1 w2 d
    simp only [Option.some.injEq, Prod.mk.injEq] at hF
    obtain ⟨rfl, hr, rfl⟩ := hF
    refine ⟨by simp, ?_⟩
    simp (config := { maxSteps := 4000000, implicitDefEqProofs := false }) only [F_divide_eq, F_minus_eq, F_plus_eq, F_wideOf_eq, go_seq', go_reg, go_draw, rest_n, rest_r, rest_e, go_cond, go_block, go_ret_, go_skip, go_exit, blockK_n, blockK_r, blockK_e, ops_nil, ops_gate, ops_move, ops_assign, ops_pick, ops_box, ops_load, ops_store, ops_bin, ops_un, ops_conv, ops_fieldAddr, ops_extract, ops_call, ops_alloc, ops_build, st1_some, stH_some, reqO_some, cndO_some, putE_some, putE_none, tell_some, look_hit, look_miss, opd_tmp, opd_int, opd_bool, opd_func, opd_txt, up_v, up_tup, up_agg, up_p, up_clo, up_ptr, up_own, List.map_cons, List.map_nil, Nat.add_zero, opd_nsl, opd_nf, opdA_eq, opdP_eq, toA_v, toP_v, sp_eq, cells_p, cells_agg, cellsOf_p, cellsOf_agg, boxO_some, loadO_own, loadC_int, loadC_bool, loadC_pair, storeO_own, storeC_0, storeC_1, storeC_2, storeC_c, size_int, size_bool, size_pair, faddr_0, faddr_1, conv_int, un_not, un_neg, un_xor, ext_0, ext_1, ext_2, max_v, min_v, bin_add, bin_sub, bin_mul, bin_and, bin_or, bin_xor, bin_eql, bin_neq, bin_lss, bin_leq, bin_gtr, bin_geq, grd_b, grd_u, slotV_some, gateP_eq, gateO_some, asBoolS_b, slotOf_tmp, gslot_0, gslot_s, beq_t, beq_f, ↓cnd_t, ↓cnd_f, cnd_not, callR_eq, calleeO_fn, capsA_nil, capsA_cons, trArgs_nil, trArgs_agg, trArgs_p, trArgs_ptr, ptrT_some, trArgs_clo, cloT_some, consT_some, trPts_nil, trPts_cons, ptsT_some, consP_some, loadCell_own, loadCell_giv, calleeO_clo, tellO_some, argsA_nil, argsA_cons, consO_some, orc_cons, ends_r, ends_n, resAll_nil, resAll_cons, resV_tmp, resV_cell, resC_own, cellV_pair, cellV_int, startEnv, Option.map_some, List.length_nil, List.length_cons, List.nil_append, List.cons_append, List.getElem?_cons_zero, List.getElem?_cons_succ, List.set_cons_zero, List.set_cons_succ, Bool.not_true, Bool.not_false, reduceIte, Nat.reduceEqDiff, Nat.reduceAdd, Nat.reduceLT, partsP_cons, partsP_nil, conP_some, dr_nil, dr_move, dr_assign, dr_box, dr_load, dr_bin, dr_un, dr_conv, dr_fieldAddr, dr_extract, dr_call, dr_alloc, dr_index, dr_indexAddr, dr_build, dr_buildSlice, dr_makeFunc, dr_store, drawN_p, drawN_g, drawE_s, ifS_t, isW_nil, isW_cons, boxOf_own, boxOf_giv, otherB_s, otherB_n, spares_s, spares_n, ldAt_0, ldAt_s, pure_fieldAddr, pure_field, pure_indexAddr, pure_index, pure_load, pure_call, pure_store, pure_alloc, pure_box, pure_build, dr_field, dr_pick, ops_field, field_0, field_1, okA_nil, okA_cons, headW_nil, headW_cons, headH_nil, headH_cons, bindsA_nil, bindsA_cons, waitsA_nil, waitsA_cons, allWait_0, allWait_s, pure_0, pure_s, pure_move, pure_assign, pure_bin, pure_un, pure_conv, pure_ext, binds_data, binds_chain, binds_guard, binds_phase, binds_text, binds_gc, heapA_nil, heapA_cons, sameLen_self, sameLen_nil, sameLen_cons, sameLen_l, sameLen_set, entries_nil, entries_cons, entC_f, entC_t, entC_n, dstsOf_nil, dstsOf_some, dstsOf_no, valsEnv_nil, valsEnv_some, valsEnv_none, ops_index, ops_indexAddr, ops_buildSlice, blt_lit, beq_lit, Bool.or_true, Bool.true_or, Bool.or_false, Bool.false_or, Bool.and_true, Bool.true_and, Bool.and_self, cond_true, cond_false, List.append_nil, Iv.eta, Option.map_none, alloc_eq, alloc_pair', alloc_int, alloc_bool, build_eq, buildO_01, buildO_0, buildO_1, buildO_n, buildO_a, bsl_eq, idx_eq, idxO_l0, idxO_l1, iad_eq, binP_eql', binP_neq', binB_eql', binB_neq', eqT_pt, eqT_pf, eqT_bt, eqT_bf, decide_true, decide_false, seqK_n, seqK_r, seqK_e, loopK_n, loopK_r, loopK_e, reqs_true, Int.zero_sub, wrap_lit, wrapu_lit, Int.reduceLE, Int.reduceLT, Int.reduceAdd, Int.reduceSub, Int.reduceMul, Int.reduceNeg, Int.reduceEq, ops_makeFunc, makeFunc_eq, ptrsO_some, ptrsOf_nil, ptrsOf_cons, consQ_some, funcV_nil, funcV_cons, Option.bind_some, loadO_giv, bin_shr_u64, bin_shl_u64, bin_shr_i64, bin_shl_i64, and_m32', Int.reduceToNat, Int.reducePow, Int.reduceMod, Int.reduceDiv, wrap_u64s, true_or, or_true, true_and, and_true, callX_some, mX_none, mX_some, orc_m, orcM_m, orcMs_nil, orcMs_cons, tellM_some, growO_nil, growO_cons, stC_some, ops_max, ops_min, ops_len, ops_append, ops_makeSlice, ops_slice, dr_max, dr_min, dr_len, dr_append, dr_makeSlice, dr_slice, gl_eq, loadO_abs, drawF_s, cellK_some, drawC_t, drawC_f, isMC_fn, isMC_clo, Option.isSome_none, Option.isSome_some, fillA_nil, fillA_cons, flA_nil, flA_cons, fillT_nil, fillT_cons, bindsNone_nil, bindsNone_cons, frees_nil, frees_cons, free_alloc, free_box, free_bsl, free_move, free_assign, free_load, free_store, free_bin, free_un, free_conv, free_fieldAddr, free_field, free_ext, free_call, free_iad, free_idx, free_build, free_mkf, free_pick, free_mks, free_slice, spares_a, otherT_s, otherT_n, ble_lit, Nat.reduceLeDiff, Nat.reduceMul, Int.toNat_natCast, Int.cast_ofNat_Int, Int.natCast_zero, Int.natCast_one, partsA_nil, partsA_cons, conA_some, inOrd_nil, inOrd_cons, flatP_nil, flatP_cons, rowN_0, rowN_s, bslO_row, bslO_0, mks_eq, intO_int, slc_eq, optI_none, optI_some, optP_int, app_eq, len_row, len_sl, len_emp, lenO_some, row_row, row_ez, row_size, row_agg, pair_agg, int_agg, one_agg, bool_agg, str_agg, iadO_row, iadO_sl, endsM_r, endsM_n, List.isEmpty_nil, List.isEmpty_cons, List.replicate_zero, List.replicate_succ, T1, T2, T3, T4, T5, T6, T9, T10, T11, T12, T21, T22, T23, T24, T25, T26, T27, T28, T29, T30, T31, T32, T33, T34, T35, T36, T37, T38, T39, T40, T42, T43, T44, T45, T46, T47, T48, T50, T51, T52, T53, T54, T55, T56, T57, T58, T59, T61, T62, T63, T65, T67, T69, T70, T71, T72, T75, T77, T83, T84, T85, T86, T87, T89, T90]
    obtain ⟨⟨p1, p2⟩, hd, hd2, p3, p4⟩ := hpre
    have q1 := p1
    have q2 := p2
    unfold inR at q1
    unfold inU at q2
    repeat' (first | with_reducible refine cnd_split (fun hc => ?_) (fun hc => ?_) | with_reducible refine Reqs.mk ?_ ?_)
    all_goals (try simp only [decide_eq_true_eq, decide_eq_false_iff_not, Int.not_le, Int.not_lt] at *)
    all_goals (have em : d % 18446744073709551616 = d := by omega)
    all_goals (simp only [em] at *)
    all_goals first
      | (have h0 : 0 ≤ w1 := by assumption
         have e1 : w1 % 18446744073709551616 = w1 := by omega
         have hw : 0 ≤ wv w1 w2 := by unfold wv; omega
         have hd3 := @div_halves w1 w2 d hd q2.1 (by omega)
         have hi := halves_in hd hw p4
         simp only [e1] at *
         first
         | (unfold inU; omega)
         | (have hm := Int.emod_lt_of_pos (wv w1 w2) hd
            have hn := Int.emod_nonneg (wv w1 w2) (show d ≠ 0 by omega)
            refine endS_wi (t := ((((wv w1 w2)) / d, ((wv w1 w2)) % d))) hr ?_
            simp only [hd3.1, hd3.2.1, hd3.2.2]
            rw [wrap_om (by omega) (by omega), wrap_om (by omega) (by omega)]
            refine ⟨⟨?_, ?_⟩, ?_⟩ <;> first | rfl | trivial))
      | skip
    all_goals (have hn := wide_neg ⟨⟨p1, p2⟩, p3, p4⟩ (by omega))
    all_goals first
      | (unfold wv; unfold wv at hn; unfold inR inU; omega)
      | skip
    all_goals (have e1 : whi (-wv w1 w2) % 18446744073709551616 = whi (-wv w1 w2) := by have := hn.1; unfold inR at this; omega)
    all_goals (have hd3 := @div_halves (whi (-wv w1 w2)) (wlo (-wv w1 w2)) d hd hn.2.1.1 (by have := hn.2.1.2; omega))
    all_goals (have hi := halves_in (w := -wv w1 w2) hd (by omega) (by omega))
    all_goals (have hq := (@quo_bd2 (-wv w1 w2) d hd).1 (by omega))
    all_goals (have hx := @neg_div (wv w1 w2) d hd)
    all_goals (have hm := Int.emod_lt_of_pos (-wv w1 w2) hd)
    all_goals (have hm0 := Int.emod_nonneg (-wv w1 w2) (show d ≠ 0 by omega))
    all_goals (rw [hn.2.2.2.1] at hd3)
    all_goals (simp only [e1, hd3.1, hd3.2.1, hd3.2.2] at *)
    all_goals (have hi3 := hi.2.2; unfold inU at hi3)
    all_goals (have hn1 := hn.1; unfold inR at hn1)
    all_goals (have hn2 := hn.2.1; unfold inU at hn2)
    all_goals (have ew : wv (whi (-wv w1 w2 / d)) (wlo (-wv w1 w2 / d)) = -wv w1 w2 / d := wv_eta _)
    all_goals (try (have ei : IntKind.i64.wrap (whi (-wv w1 w2 / d)) = whi (-wv w1 w2 / d) := wrap_om (by omega) (by omega); simp only [ei, ew] at *))
    all_goals (try (simp only [wv_eta] at *))
    all_goals first
      | (unfold inU; omega)
      | (unfold inR inU; omega)
      | (unfold inR inU whi wlo; omega)
      | (unfold inR; omega)
      | (refine endS_wi (t := ((((wv w1 w2)) / d, ((wv w1 w2)) % d))) hr ?_
         simp only [(hx.1 (by omega)).1, (hx.1 (by omega)).2]
         refine ⟨⟨?_, ?_⟩, ?_⟩ <;> first | rfl | trivial)
      | (refine endS_wi (t := ((((wv w1 w2)) / d, ((wv w1 w2)) % d))) hr ?_
         simp only [(hx.2 (by omega)).1, (hx.2 (by omega)).2]
         rw [wrap_om (n := -wv w1 w2 % d) (by omega) (by omega), wrap_om (by omega) (by omega), show -(-wv w1 w2 / d) + -1 = -(-wv w1 w2 / d + 1) by omega]
         refine ⟨⟨?_, ?_⟩, ?_⟩ <;> first | rfl | trivial)
  · cases hF

-- mulDiv
def mulDiv (a b d : Int) : Int × Bool := if 0 < d then wideInt (a * b / d) else (0, false)
def F_mulDiv : FT
  | [.c (.p (.int .i64 a)), .c (.p (.int .i64 b)), .c (.p (.int .i64 d))], _ => some (inR a ∧ inR b ∧ inR d, .tup [.c (.p (.int .i64 ((mulDiv a b d).1))), .c (.p (.bool ((mulDiv a b d).2)))], [])
  | _, _ => none
theorem F_mulDiv_eq {a : Int} {b : Int} {d : Int} {g : List PC} : F_mulDiv [.c (.p (.int .i64 a)), .c (.p (.int .i64 b)), .c (.p (.int .i64 d))] g = some (inR a ∧ inR b ∧ inR d, .tup [.c (.p (.int .i64 ((mulDiv a b d).1))), .c (.p (.bool ((mulDiv a b d).2)))], []) := rfl
theorem prod_bd {a b d : Int} (ha : inR a) (hb : inR b) (hd : 0 < d) : inR (whi (a * b / d)) ∧ inU (wlo (a * b / d)) := by
  have h := mul_bd ha hb
  have h2 := @quo_bd2 (a * b) d hd
  exact wide_in (by omega) (by omega)

-- impl.MulDivFloor
theorem impl_MulDivFloor_mulDiv_ok : Fn Try.prog 109 F_mulDiv := by
  refine fn_of_go (O := orc [⟨105, F_wideInt, .inl impl_WideInt_wideInt_ok⟩, ⟨107, F_wideMul, .inl impl_WideMul_wideMul_ok⟩, ⟨118, F_wideDiv, .inl impl_WideDiv_wideDiv_ok⟩]) mixed T_ok (orc_sound _) Try.func109 (by kernel_rfl) rfl Try.ntmps109 (by kernel_rfl) Try.results109 ?_
  intro args g pre r new hF hpre
  unfold F_mulDiv at hF
  split at hF
  · rename_i a b d
    simp only [Option.some.injEq, Prod.mk.injEq] at hF
    obtain ⟨rfl, hr, rfl⟩ := hF
    refine ⟨by simp, ?_⟩
    simp (config := { maxSteps := 4000000, implicitDefEqProofs := false }) only [F_wideDiv_eq, F_wideInt_eq, F_wideMul_eq, go_seq', go_reg, go_draw, rest_n, rest_r, rest_e, go_cond, go_block, go_ret_, go_skip, go_exit, blockK_n, blockK_r, blockK_e, ops_nil, ops_gate, ops_move, ops_assign, ops_pick, ops_box, ops_load, ops_store, ops_bin, ops_un, ops_conv, ops_fieldAddr, ops_extract, ops_call, ops_alloc, ops_build, st1_some, stH_some, reqO_some, cndO_some, putE_some, putE_none, tell_some, look_hit, look_miss, opd_tmp, opd_int, opd_bool, opd_func, opd_txt, up_v, up_tup, up_agg, up_p, up_clo, up_ptr, up_own, List.map_cons, List.map_nil, Nat.add_zero, opd_nsl, opd_nf, opdA_eq, opdP_eq, toA_v, toP_v, sp_eq, cells_p, cells_agg, cellsOf_p, cellsOf_agg, boxO_some, loadO_own, loadC_int, loadC_bool, loadC_pair, storeO_own, storeC_0, storeC_1, storeC_2, storeC_c, size_int, size_bool, size_pair, faddr_0, faddr_1, conv_int, un_not, un_neg, un_xor, ext_0, ext_1, ext_2, max_v, min_v, bin_add, bin_sub, bin_mul, bin_and, bin_or, bin_xor, bin_eql, bin_neq, bin_lss, bin_leq, bin_gtr, bin_geq, grd_b, grd_u, slotV_some, gateP_eq, gateO_some, asBoolS_b, slotOf_tmp, gslot_0, gslot_s, beq_t, beq_f, ↓cnd_t, ↓cnd_f, cnd_not, callR_eq, calleeO_fn, capsA_nil, capsA_cons, trArgs_nil, trArgs_agg, trArgs_p, trArgs_ptr, ptrT_some, trArgs_clo, cloT_some, consT_some, trPts_nil, trPts_cons, ptsT_some, consP_some, loadCell_own, loadCell_giv, calleeO_clo, tellO_some, argsA_nil, argsA_cons, consO_some, orc_cons, ends_r, ends_n, resAll_nil, resAll_cons, resV_tmp, resV_cell, resC_own, cellV_pair, cellV_int, startEnv, Option.map_some, List.length_nil, List.length_cons, List.nil_append, List.cons_append, List.getElem?_cons_zero, List.getElem?_cons_succ, List.set_cons_zero, List.set_cons_succ, Bool.not_true, Bool.not_false, reduceIte, Nat.reduceEqDiff, Nat.reduceAdd, Nat.reduceLT, partsP_cons, partsP_nil, conP_some, dr_nil, dr_move, dr_assign, dr_box, dr_load, dr_bin, dr_un, dr_conv, dr_fieldAddr, dr_extract, dr_call, dr_alloc, dr_index, dr_indexAddr, dr_build, dr_buildSlice, dr_makeFunc, dr_store, drawN_p, drawN_g, drawE_s, ifS_t, isW_nil, isW_cons, boxOf_own, boxOf_giv, otherB_s, otherB_n, spares_s, spares_n, ldAt_0, ldAt_s, pure_fieldAddr, pure_field, pure_indexAddr, pure_index, pure_load, pure_call, pure_store, pure_alloc, pure_box, pure_build, dr_field, dr_pick, ops_field, field_0, field_1, okA_nil, okA_cons, headW_nil, headW_cons, headH_nil, headH_cons, bindsA_nil, bindsA_cons, waitsA_nil, waitsA_cons, allWait_0, allWait_s, pure_0, pure_s, pure_move, pure_assign, pure_bin, pure_un, pure_conv, pure_ext, binds_data, binds_chain, binds_guard, binds_phase, binds_text, binds_gc, heapA_nil, heapA_cons, sameLen_self, sameLen_nil, sameLen_cons, sameLen_l, sameLen_set, entries_nil, entries_cons, entC_f, entC_t, entC_n, dstsOf_nil, dstsOf_some, dstsOf_no, valsEnv_nil, valsEnv_some, valsEnv_none, ops_index, ops_indexAddr, ops_buildSlice, blt_lit, beq_lit, Bool.or_true, Bool.true_or, Bool.or_false, Bool.false_or, Bool.and_true, Bool.true_and, Bool.and_self, cond_true, cond_false, List.append_nil, Iv.eta, Option.map_none, alloc_eq, alloc_pair', alloc_int, alloc_bool, build_eq, buildO_01, buildO_0, buildO_1, buildO_n, buildO_a, bsl_eq, idx_eq, idxO_l0, idxO_l1, iad_eq, binP_eql', binP_neq', binB_eql', binB_neq', eqT_pt, eqT_pf, eqT_bt, eqT_bf, decide_true, decide_false, seqK_n, seqK_r, seqK_e, loopK_n, loopK_r, loopK_e, reqs_true, Int.zero_sub, wrap_lit, wrapu_lit, Int.reduceLE, Int.reduceLT, Int.reduceAdd, Int.reduceSub, Int.reduceMul, Int.reduceNeg, Int.reduceEq, ops_makeFunc, makeFunc_eq, ptrsO_some, ptrsOf_nil, ptrsOf_cons, consQ_some, funcV_nil, funcV_cons, Option.bind_some, loadO_giv, bin_shr_u64, bin_shl_u64, bin_shr_i64, bin_shl_i64, and_m32', Int.reduceToNat, Int.reducePow, Int.reduceMod, Int.reduceDiv, wrap_u64s, true_or, or_true, true_and, and_true, callX_some, mX_none, mX_some, orc_m, orcM_m, orcMs_nil, orcMs_cons, tellM_some, growO_nil, growO_cons, stC_some, ops_max, ops_min, ops_len, ops_append, ops_makeSlice, ops_slice, dr_max, dr_min, dr_len, dr_append, dr_makeSlice, dr_slice, gl_eq, loadO_abs, drawF_s, cellK_some, drawC_t, drawC_f, isMC_fn, isMC_clo, Option.isSome_none, Option.isSome_some, fillA_nil, fillA_cons, flA_nil, flA_cons, fillT_nil, fillT_cons, bindsNone_nil, bindsNone_cons, frees_nil, frees_cons, free_alloc, free_box, free_bsl, free_move, free_assign, free_load, free_store, free_bin, free_un, free_conv, free_fieldAddr, free_field, free_ext, free_call, free_iad, free_idx, free_build, free_mkf, free_pick, free_mks, free_slice, spares_a, otherT_s, otherT_n, ble_lit, Nat.reduceLeDiff, Nat.reduceMul, Int.toNat_natCast, Int.cast_ofNat_Int, Int.natCast_zero, Int.natCast_one, partsA_nil, partsA_cons, conA_some, inOrd_nil, inOrd_cons, flatP_nil, flatP_cons, rowN_0, rowN_s, bslO_row, bslO_0, mks_eq, intO_int, slc_eq, optI_none, optI_some, optP_int, app_eq, len_row, len_sl, len_emp, lenO_some, row_row, row_ez, row_size, row_agg, pair_agg, int_agg, one_agg, bool_agg, str_agg, iadO_row, iadO_sl, endsM_r, endsM_n, List.isEmpty_nil, List.isEmpty_cons, List.replicate_zero, List.replicate_succ, T1, T2, T3, T4, T5, T6, T9, T10, T11, T12, T21, T22, T23, T24, T25, T26, T27, T28, T29, T30, T31, T32, T33, T34, T35, T36, T37, T38, T39, T40, T42, T43, T44, T45, T46, T47, T48, T50, T51, T52, T53, T54, T55, T56, T57, T58, T59, T61, T62, T63, T65, T67, T69, T70, T71, T72, T75, T77, T83, T84, T85, T86, T87, T89, T90]
    have hab := mul_bd hpre.1 hpre.2.1
    obtain ⟨ha, hb, hd⟩ := hpre
    have h1 := prod_in ha hb
    rw [wv_eta]
    repeat' (first | with_reducible refine cnd_split (fun hc => ?_) (fun hc => ?_) | with_reducible refine Reqs.mk ?_ ?_)
    all_goals (try simp only [decide_eq_true_eq, decide_eq_false_iff_not] at *)
    all_goals first
      | exact ⟨ha, hb⟩
      | exact ⟨h1, hd, hab⟩
      | (have h0 : 0 < d := by assumption
         simp only [if_pos h0, wv_eta]
         first
         | exact prod_bd ha hb h0
         | (refine endS_ib (t := (mulDiv a b d)) hr ?_; rw [mulDiv, if_pos h0]))
      | (refine endS_ib (t := (mulDiv a b d)) hr ?_; rw [mulDiv, if_neg (by assumption)])
  · cases hF

-- spec.MulDivFloor
theorem spec_MulDivFloor_mulDiv_ok : Fn Try.prog 103 F_mulDiv := by
  refine fn_of_go (O := orc [⟨100, F_wideInt, .inl spec_l02Int_wideInt_ok⟩, ⟨102, F_wideMul, .inl spec_l02Mul_wideMul_ok⟩, ⟨115, F_lowDiv, .inl spec_l02Div_lowDiv_ok⟩]) mixed T_ok (orc_sound _) Try.func103 (by kernel_rfl) rfl Try.ntmps103 (by kernel_rfl) Try.results103 ?_
  intro args g pre r new hF hpre
  unfold F_mulDiv at hF
  split at hF
  · rename_i a b d
    simp only [Option.some.injEq, Prod.mk.injEq] at hF
    obtain ⟨rfl, hr, rfl⟩ := hF
    refine ⟨by simp, ?_⟩
    simp (config := { maxSteps := 4000000, implicitDefEqProofs := false }) only [F_lowDiv_eq, F_wideInt_eq, F_wideMul_eq, go_seq', go_reg, go_draw, rest_n, rest_r, rest_e, go_cond, go_block, go_ret_, go_skip, go_exit, blockK_n, blockK_r, blockK_e, ops_nil, ops_gate, ops_move, ops_assign, ops_pick, ops_box, ops_load, ops_store, ops_bin, ops_un, ops_conv, ops_fieldAddr, ops_extract, ops_call, ops_alloc, ops_build, st1_some, stH_some, reqO_some, cndO_some, putE_some, putE_none, tell_some, look_hit, look_miss, opd_tmp, opd_int, opd_bool, opd_func, opd_txt, up_v, up_tup, up_agg, up_p, up_clo, up_ptr, up_own, List.map_cons, List.map_nil, Nat.add_zero, opd_nsl, opd_nf, opdA_eq, opdP_eq, toA_v, toP_v, sp_eq, cells_p, cells_agg, cellsOf_p, cellsOf_agg, boxO_some, loadO_own, loadC_int, loadC_bool, loadC_pair, storeO_own, storeC_0, storeC_1, storeC_2, storeC_c, size_int, size_bool, size_pair, faddr_0, faddr_1, conv_int, un_not, un_neg, un_xor, ext_0, ext_1, ext_2, max_v, min_v, bin_add, bin_sub, bin_mul, bin_and, bin_or, bin_xor, bin_eql, bin_neq, bin_lss, bin_leq, bin_gtr, bin_geq, grd_b, grd_u, slotV_some, gateP_eq, gateO_some, asBoolS_b, slotOf_tmp, gslot_0, gslot_s, beq_t, beq_f, ↓cnd_t, ↓cnd_f, cnd_not, callR_eq, calleeO_fn, capsA_nil, capsA_cons, trArgs_nil, trArgs_agg, trArgs_p, trArgs_ptr, ptrT_some, trArgs_clo, cloT_some, consT_some, trPts_nil, trPts_cons, ptsT_some, consP_some, loadCell_own, loadCell_giv, calleeO_clo, tellO_some, argsA_nil, argsA_cons, consO_some, orc_cons, ends_r, ends_n, resAll_nil, resAll_cons, resV_tmp, resV_cell, resC_own, cellV_pair, cellV_int, startEnv, Option.map_some, List.length_nil, List.length_cons, List.nil_append, List.cons_append, List.getElem?_cons_zero, List.getElem?_cons_succ, List.set_cons_zero, List.set_cons_succ, Bool.not_true, Bool.not_false, reduceIte, Nat.reduceEqDiff, Nat.reduceAdd, Nat.reduceLT, partsP_cons, partsP_nil, conP_some, dr_nil, dr_move, dr_assign, dr_box, dr_load, dr_bin, dr_un, dr_conv, dr_fieldAddr, dr_extract, dr_call, dr_alloc, dr_index, dr_indexAddr, dr_build, dr_buildSlice, dr_makeFunc, dr_store, drawN_p, drawN_g, drawE_s, ifS_t, isW_nil, isW_cons, boxOf_own, boxOf_giv, otherB_s, otherB_n, spares_s, spares_n, ldAt_0, ldAt_s, pure_fieldAddr, pure_field, pure_indexAddr, pure_index, pure_load, pure_call, pure_store, pure_alloc, pure_box, pure_build, dr_field, dr_pick, ops_field, field_0, field_1, okA_nil, okA_cons, headW_nil, headW_cons, headH_nil, headH_cons, bindsA_nil, bindsA_cons, waitsA_nil, waitsA_cons, allWait_0, allWait_s, pure_0, pure_s, pure_move, pure_assign, pure_bin, pure_un, pure_conv, pure_ext, binds_data, binds_chain, binds_guard, binds_phase, binds_text, binds_gc, heapA_nil, heapA_cons, sameLen_self, sameLen_nil, sameLen_cons, sameLen_l, sameLen_set, entries_nil, entries_cons, entC_f, entC_t, entC_n, dstsOf_nil, dstsOf_some, dstsOf_no, valsEnv_nil, valsEnv_some, valsEnv_none, ops_index, ops_indexAddr, ops_buildSlice, blt_lit, beq_lit, Bool.or_true, Bool.true_or, Bool.or_false, Bool.false_or, Bool.and_true, Bool.true_and, Bool.and_self, cond_true, cond_false, List.append_nil, Iv.eta, Option.map_none, alloc_eq, alloc_pair', alloc_int, alloc_bool, build_eq, buildO_01, buildO_0, buildO_1, buildO_n, buildO_a, bsl_eq, idx_eq, idxO_l0, idxO_l1, iad_eq, binP_eql', binP_neq', binB_eql', binB_neq', eqT_pt, eqT_pf, eqT_bt, eqT_bf, decide_true, decide_false, seqK_n, seqK_r, seqK_e, loopK_n, loopK_r, loopK_e, reqs_true, Int.zero_sub, wrap_lit, wrapu_lit, Int.reduceLE, Int.reduceLT, Int.reduceAdd, Int.reduceSub, Int.reduceMul, Int.reduceNeg, Int.reduceEq, ops_makeFunc, makeFunc_eq, ptrsO_some, ptrsOf_nil, ptrsOf_cons, consQ_some, funcV_nil, funcV_cons, Option.bind_some, loadO_giv, bin_shr_u64, bin_shl_u64, bin_shr_i64, bin_shl_i64, and_m32', Int.reduceToNat, Int.reducePow, Int.reduceMod, Int.reduceDiv, wrap_u64s, true_or, or_true, true_and, and_true, callX_some, mX_none, mX_some, orc_m, orcM_m, orcMs_nil, orcMs_cons, tellM_some, growO_nil, growO_cons, stC_some, ops_max, ops_min, ops_len, ops_append, ops_makeSlice, ops_slice, dr_max, dr_min, dr_len, dr_append, dr_makeSlice, dr_slice, gl_eq, loadO_abs, drawF_s, cellK_some, drawC_t, drawC_f, isMC_fn, isMC_clo, Option.isSome_none, Option.isSome_some, fillA_nil, fillA_cons, flA_nil, flA_cons, fillT_nil, fillT_cons, bindsNone_nil, bindsNone_cons, frees_nil, frees_cons, free_alloc, free_box, free_bsl, free_move, free_assign, free_load, free_store, free_bin, free_un, free_conv, free_fieldAddr, free_field, free_ext, free_call, free_iad, free_idx, free_build, free_mkf, free_pick, free_mks, free_slice, spares_a, otherT_s, otherT_n, ble_lit, Nat.reduceLeDiff, Nat.reduceMul, Int.toNat_natCast, Int.cast_ofNat_Int, Int.natCast_zero, Int.natCast_one, partsA_nil, partsA_cons, conA_some, inOrd_nil, inOrd_cons, flatP_nil, flatP_cons, rowN_0, rowN_s, bslO_row, bslO_0, mks_eq, intO_int, slc_eq, optI_none, optI_some, optP_int, app_eq, len_row, len_sl, len_emp, lenO_some, row_row, row_ez, row_size, row_agg, pair_agg, int_agg, one_agg, bool_agg, str_agg, iadO_row, iadO_sl, endsM_r, endsM_n, List.isEmpty_nil, List.isEmpty_cons, List.replicate_zero, List.replicate_succ, T1, T2, T3, T4, T5, T6, T9, T10, T11, T12, T21, T22, T23, T24, T25, T26, T27, T28, T29, T30, T31, T32, T33, T34, T35, T36, T37, T38, T39, T40, T42, T43, T44, T45, T46, T47, T48, T50, T51, T52, T53, T54, T55, T56, T57, T58, T59, T61, T62, T63, T65, T67, T69, T70, T71, T72, T75, T77, T83, T84, T85, T86, T87, T89, T90]
    have hab := mul_bd hpre.1 hpre.2.1
    obtain ⟨ha, hb, hd⟩ := hpre
    have h1 := prod_in ha hb
    rw [wv_eta]
    repeat' (first | with_reducible refine cnd_split (fun hc => ?_) (fun hc => ?_) | with_reducible refine Reqs.mk ?_ ?_)
    all_goals (try simp only [decide_eq_true_eq, decide_eq_false_iff_not, Int.not_le] at *)
    all_goals first
      | exact ⟨ha, hb⟩
      | (have h0 : 0 < d := by assumption
         unfold inR at hd
         first
         | exact ⟨h1, h0, by omega, hab⟩
         | exact prod_bd ha hb h0
         | (simp only [wv_eta]; exact prod_bd ha hb h0)
         | (refine endS_ib (t := (mulDiv a b d)) hr ?_; rw [mulDiv, if_pos h0]; try rw [wv_eta]))
      | (refine endS_ib (t := (mulDiv a b d)) hr ?_; rw [mulDiv, if_neg (by omega)])
  · cases hF

-- mulDivUp
def mulDivUp (a b d : Int) : Int × Bool := if 0 < d then (if (wideInt (a * b / d)).2 then (if a * b % d = 0 then wideInt (a * b / d) else if (wideInt (a * b / d)).1 = 9223372036854775807 then (0, false) else ((wideInt (a * b / d)).1 + 1, true)) else (0, false)) else (0, false)
def F_mulDivUp : FT
  | [.c (.p (.int .i64 a)), .c (.p (.int .i64 b)), .c (.p (.int .i64 d))], _ => some (inR a ∧ inR b ∧ inR d, .tup [.c (.p (.int .i64 ((mulDivUp a b d).1))), .c (.p (.bool ((mulDivUp a b d).2)))], [])
  | _, _ => none
theorem F_mulDivUp_eq {a : Int} {b : Int} {d : Int} {g : List PC} : F_mulDivUp [.c (.p (.int .i64 a)), .c (.p (.int .i64 b)), .c (.p (.int .i64 d))] g = some (inR a ∧ inR b ∧ inR d, .tup [.c (.p (.int .i64 ((mulDivUp a b d).1))), .c (.p (.bool ((mulDivUp a b d).2)))], []) := rfl
theorem wideInt_in (w : Int) : inR (wideInt w).1 := by
  unfold wideInt inR
  split
  · rename_i h; rw [within_iff] at h; exact h
  · simp only; omega
theorem wideInt_f {w : Int} (h : (wideInt w).2 = false) : wideInt w = (0, false) := by
  unfold wideInt at *
  split at h
  · cases h
  · rename_i h1; rw [if_neg h1]
theorem wideInt_t {w : Int} (h : (wideInt w).2 = true) : (wideInt w).1 = w ∧ inR w := by
  unfold wideInt at *
  split at h
  · rename_i h1; rw [if_pos h1]; rw [within_iff] at h1; exact ⟨rfl, h1⟩
  · cases h

-- impl.mulDivCeil
theorem impl_mulDivCeil_mulDivUp_ok : Fn Try.prog 110 F_mulDivUp := by
  refine fn_of_go (O := orc [⟨105, F_wideInt, .inl impl_WideInt_wideInt_ok⟩, ⟨107, F_wideMul, .inl impl_WideMul_wideMul_ok⟩, ⟨118, F_wideDiv, .inl impl_WideDiv_wideDiv_ok⟩]) mixed T_ok (orc_sound _) Try.func110 (by kernel_rfl) rfl Try.ntmps110 (by kernel_rfl) Try.results110 ?_
  intro args g pre r new hF hpre
  unfold F_mulDivUp at hF
  split at hF
  · rename_i a b d
    simp only [Option.some.injEq, Prod.mk.injEq] at hF
    obtain ⟨rfl, hr, rfl⟩ := hF
    refine ⟨by simp, ?_⟩
    simp (config := { maxSteps := 4000000, implicitDefEqProofs := false }) only [F_wideDiv_eq, F_wideInt_eq, F_wideMul_eq, go_seq', go_reg, go_draw, rest_n, rest_r, rest_e, go_cond, go_block, go_ret_, go_skip, go_exit, blockK_n, blockK_r, blockK_e, ops_nil, ops_gate, ops_move, ops_assign, ops_pick, ops_box, ops_load, ops_store, ops_bin, ops_un, ops_conv, ops_fieldAddr, ops_extract, ops_call, ops_alloc, ops_build, st1_some, stH_some, reqO_some, cndO_some, putE_some, putE_none, tell_some, look_hit, look_miss, opd_tmp, opd_int, opd_bool, opd_func, opd_txt, up_v, up_tup, up_agg, up_p, up_clo, up_ptr, up_own, List.map_cons, List.map_nil, Nat.add_zero, opd_nsl, opd_nf, opdA_eq, opdP_eq, toA_v, toP_v, sp_eq, cells_p, cells_agg, cellsOf_p, cellsOf_agg, boxO_some, loadO_own, loadC_int, loadC_bool, loadC_pair, storeO_own, storeC_0, storeC_1, storeC_2, storeC_c, size_int, size_bool, size_pair, faddr_0, faddr_1, conv_int, un_not, un_neg, un_xor, ext_0, ext_1, ext_2, max_v, min_v, bin_add, bin_sub, bin_mul, bin_and, bin_or, bin_xor, bin_eql, bin_neq, bin_lss, bin_leq, bin_gtr, bin_geq, grd_b, grd_u, slotV_some, gateP_eq, gateO_some, asBoolS_b, slotOf_tmp, gslot_0, gslot_s, beq_t, beq_f, ↓cnd_t, ↓cnd_f, cnd_not, callR_eq, calleeO_fn, capsA_nil, capsA_cons, trArgs_nil, trArgs_agg, trArgs_p, trArgs_ptr, ptrT_some, trArgs_clo, cloT_some, consT_some, trPts_nil, trPts_cons, ptsT_some, consP_some, loadCell_own, loadCell_giv, calleeO_clo, tellO_some, argsA_nil, argsA_cons, consO_some, orc_cons, ends_r, ends_n, resAll_nil, resAll_cons, resV_tmp, resV_cell, resC_own, cellV_pair, cellV_int, startEnv, Option.map_some, List.length_nil, List.length_cons, List.nil_append, List.cons_append, List.getElem?_cons_zero, List.getElem?_cons_succ, List.set_cons_zero, List.set_cons_succ, Bool.not_true, Bool.not_false, reduceIte, Nat.reduceEqDiff, Nat.reduceAdd, Nat.reduceLT, partsP_cons, partsP_nil, conP_some, dr_nil, dr_move, dr_assign, dr_box, dr_load, dr_bin, dr_un, dr_conv, dr_fieldAddr, dr_extract, dr_call, dr_alloc, dr_index, dr_indexAddr, dr_build, dr_buildSlice, dr_makeFunc, dr_store, drawN_p, drawN_g, drawE_s, ifS_t, isW_nil, isW_cons, boxOf_own, boxOf_giv, otherB_s, otherB_n, spares_s, spares_n, ldAt_0, ldAt_s, pure_fieldAddr, pure_field, pure_indexAddr, pure_index, pure_load, pure_call, pure_store, pure_alloc, pure_box, pure_build, dr_field, dr_pick, ops_field, field_0, field_1, okA_nil, okA_cons, headW_nil, headW_cons, headH_nil, headH_cons, bindsA_nil, bindsA_cons, waitsA_nil, waitsA_cons, allWait_0, allWait_s, pure_0, pure_s, pure_move, pure_assign, pure_bin, pure_un, pure_conv, pure_ext, binds_data, binds_chain, binds_guard, binds_phase, binds_text, binds_gc, heapA_nil, heapA_cons, sameLen_self, sameLen_nil, sameLen_cons, sameLen_l, sameLen_set, entries_nil, entries_cons, entC_f, entC_t, entC_n, dstsOf_nil, dstsOf_some, dstsOf_no, valsEnv_nil, valsEnv_some, valsEnv_none, ops_index, ops_indexAddr, ops_buildSlice, blt_lit, beq_lit, Bool.or_true, Bool.true_or, Bool.or_false, Bool.false_or, Bool.and_true, Bool.true_and, Bool.and_self, cond_true, cond_false, List.append_nil, Iv.eta, Option.map_none, alloc_eq, alloc_pair', alloc_int, alloc_bool, build_eq, buildO_01, buildO_0, buildO_1, buildO_n, buildO_a, bsl_eq, idx_eq, idxO_l0, idxO_l1, iad_eq, binP_eql', binP_neq', binB_eql', binB_neq', eqT_pt, eqT_pf, eqT_bt, eqT_bf, decide_true, decide_false, seqK_n, seqK_r, seqK_e, loopK_n, loopK_r, loopK_e, reqs_true, Int.zero_sub, wrap_lit, wrapu_lit, Int.reduceLE, Int.reduceLT, Int.reduceAdd, Int.reduceSub, Int.reduceMul, Int.reduceNeg, Int.reduceEq, ops_makeFunc, makeFunc_eq, ptrsO_some, ptrsOf_nil, ptrsOf_cons, consQ_some, funcV_nil, funcV_cons, Option.bind_some, loadO_giv, bin_shr_u64, bin_shl_u64, bin_shr_i64, bin_shl_i64, and_m32', Int.reduceToNat, Int.reducePow, Int.reduceMod, Int.reduceDiv, wrap_u64s, true_or, or_true, true_and, and_true, callX_some, mX_none, mX_some, orc_m, orcM_m, orcMs_nil, orcMs_cons, tellM_some, growO_nil, growO_cons, stC_some, ops_max, ops_min, ops_len, ops_append, ops_makeSlice, ops_slice, dr_max, dr_min, dr_len, dr_append, dr_makeSlice, dr_slice, gl_eq, loadO_abs, drawF_s, cellK_some, drawC_t, drawC_f, isMC_fn, isMC_clo, Option.isSome_none, Option.isSome_some, fillA_nil, fillA_cons, flA_nil, flA_cons, fillT_nil, fillT_cons, bindsNone_nil, bindsNone_cons, frees_nil, frees_cons, free_alloc, free_box, free_bsl, free_move, free_assign, free_load, free_store, free_bin, free_un, free_conv, free_fieldAddr, free_field, free_ext, free_call, free_iad, free_idx, free_build, free_mkf, free_pick, free_mks, free_slice, spares_a, otherT_s, otherT_n, ble_lit, Nat.reduceLeDiff, Nat.reduceMul, Int.toNat_natCast, Int.cast_ofNat_Int, Int.natCast_zero, Int.natCast_one, partsA_nil, partsA_cons, conA_some, inOrd_nil, inOrd_cons, flatP_nil, flatP_cons, rowN_0, rowN_s, bslO_row, bslO_0, mks_eq, intO_int, slc_eq, optI_none, optI_some, optP_int, app_eq, len_row, len_sl, len_emp, lenO_some, row_row, row_ez, row_size, row_agg, pair_agg, int_agg, one_agg, bool_agg, str_agg, iadO_row, iadO_sl, endsM_r, endsM_n, List.isEmpty_nil, List.isEmpty_cons, List.replicate_zero, List.replicate_succ, T1, T2, T3, T4, T5, T6, T9, T10, T11, T12, T21, T22, T23, T24, T25, T26, T27, T28, T29, T30, T31, T32, T33, T34, T35, T36, T37, T38, T39, T40, T42, T43, T44, T45, T46, T47, T48, T50, T51, T52, T53, T54, T55, T56, T57, T58, T59, T61, T62, T63, T65, T67, T69, T70, T71, T72, T75, T77, T83, T84, T85, T86, T87, T89, T90]
    have hab := mul_bd hpre.1 hpre.2.1
    obtain ⟨ha, hb, hd⟩ := hpre
    have h1 := prod_in ha hb
    rw [wv_eta]
    repeat' (first | with_reducible refine cnd_split (fun hc => ?_) (fun hc => ?_) | with_reducible refine Reqs.mk ?_ ?_)
    all_goals (try simp only [decide_eq_true_eq, decide_eq_false_iff_not] at *)
    all_goals first
      | exact ⟨ha, hb⟩
      | exact ⟨h1, hd, hab⟩
      | (have h0 : 0 < d := by assumption
         have hm0 := Int.emod_nonneg (a * b) (show d ≠ 0 by omega)
         have hin := wideInt_in (a * b / d)
         simp only [if_pos h0, wv_eta] at *
         first
         | exact prod_bd ha hb h0
         | (refine endS_ib (t := (mulDivUp a b d)) hr ?_; rw [mulDivUp, if_pos h0]
            unfold inR at hin
            first
            | (have hf := wideInt_f (by assumption); simp_all; done)
            | (rw [if_pos (by assumption), if_neg (by omega), if_pos (by assumption)]; done)
            | (rw [if_pos (by assumption), if_neg (by omega), if_neg (by assumption), wrap_om (by omega) (by omega)]; done)
            | (rw [if_pos (by assumption), if_pos (by omega)]
               have ht := (by assumption : (wideInt (a * b / d)).2 = true)
               exact Prod.ext rfl ht.symm)
            | (simp_all; done)))
      | (refine endS_ib (t := (mulDivUp a b d)) hr ?_; rw [mulDivUp, if_neg (by assumption)])
  · cases hF

-- fixFloor
def fixFloor (a d : Int) : Int × Bool := fixed (mulDiv a 4294967296 d).1 (mulDiv a 4294967296 d).2
def fixCeil (a d : Int) : Int × Bool := fixed (mulDivUp a 4294967296 d).1 (mulDivUp a 4294967296 d).2
def F_fixFloor : FT
  | [.c (.p (.int .i64 a)), .c (.p (.int .i64 d))], _ => some (inR a ∧ inR d, .tup [.c (.p (.int .i64 ((fixFloor a d).1))), .c (.p (.bool ((fixFloor a d).2)))], [])
  | _, _ => none
theorem F_fixFloor_eq {a : Int} {d : Int} {g : List PC} : F_fixFloor [.c (.p (.int .i64 a)), .c (.p (.int .i64 d))] g = some (inR a ∧ inR d, .tup [.c (.p (.int .i64 ((fixFloor a d).1))), .c (.p (.bool ((fixFloor a d).2)))], []) := rfl
def F_fixCeil : FT
  | [.c (.p (.int .i64 a)), .c (.p (.int .i64 d))], _ => some (inR a ∧ inR d, .tup [.c (.p (.int .i64 ((fixCeil a d).1))), .c (.p (.bool ((fixCeil a d).2)))], [])
  | _, _ => none
theorem F_fixCeil_eq {a : Int} {d : Int} {g : List PC} : F_fixCeil [.c (.p (.int .i64 a)), .c (.p (.int .i64 d))] g = some (inR a ∧ inR d, .tup [.c (.p (.int .i64 ((fixCeil a d).1))), .c (.p (.bool ((fixCeil a d).2)))], []) := rfl

-- impl.FixFloor
theorem impl_FixFloor_fixFloor_ok : Fn Try.prog 98 F_fixFloor := by
  refine fn_of_go (O := orc [⟨108, F_fixed, .inl impl_fixed_fixed_ok⟩, ⟨109, F_mulDiv, .inl impl_MulDivFloor_mulDiv_ok⟩]) mixed T_ok (orc_sound _) Try.func98 (by kernel_rfl) rfl Try.ntmps98 (by kernel_rfl) Try.results98 ?_
  intro args g pre r new hF hpre
  unfold F_fixFloor at hF
  split at hF
  · rename_i a d
    simp only [Option.some.injEq, Prod.mk.injEq] at hF
    obtain ⟨rfl, hr, rfl⟩ := hF
    refine ⟨by simp, ?_⟩
    simp (config := { maxSteps := 4000000, implicitDefEqProofs := false }) only [F_fixed_eq, F_mulDiv_eq, go_seq', go_reg, go_draw, rest_n, rest_r, rest_e, go_cond, go_block, go_ret_, go_skip, go_exit, blockK_n, blockK_r, blockK_e, ops_nil, ops_gate, ops_move, ops_assign, ops_pick, ops_box, ops_load, ops_store, ops_bin, ops_un, ops_conv, ops_fieldAddr, ops_extract, ops_call, ops_alloc, ops_build, st1_some, stH_some, reqO_some, cndO_some, putE_some, putE_none, tell_some, look_hit, look_miss, opd_tmp, opd_int, opd_bool, opd_func, opd_txt, up_v, up_tup, up_agg, up_p, up_clo, up_ptr, up_own, List.map_cons, List.map_nil, Nat.add_zero, opd_nsl, opd_nf, opdA_eq, opdP_eq, toA_v, toP_v, sp_eq, cells_p, cells_agg, cellsOf_p, cellsOf_agg, boxO_some, loadO_own, loadC_int, loadC_bool, loadC_pair, storeO_own, storeC_0, storeC_1, storeC_2, storeC_c, size_int, size_bool, size_pair, faddr_0, faddr_1, conv_int, un_not, un_neg, un_xor, ext_0, ext_1, ext_2, max_v, min_v, bin_add, bin_sub, bin_mul, bin_and, bin_or, bin_xor, bin_eql, bin_neq, bin_lss, bin_leq, bin_gtr, bin_geq, grd_b, grd_u, slotV_some, gateP_eq, gateO_some, asBoolS_b, slotOf_tmp, gslot_0, gslot_s, beq_t, beq_f, ↓cnd_t, ↓cnd_f, cnd_not, callR_eq, calleeO_fn, capsA_nil, capsA_cons, trArgs_nil, trArgs_agg, trArgs_p, trArgs_ptr, ptrT_some, trArgs_clo, cloT_some, consT_some, trPts_nil, trPts_cons, ptsT_some, consP_some, loadCell_own, loadCell_giv, calleeO_clo, tellO_some, argsA_nil, argsA_cons, consO_some, orc_cons, ends_r, ends_n, resAll_nil, resAll_cons, resV_tmp, resV_cell, resC_own, cellV_pair, cellV_int, startEnv, Option.map_some, List.length_nil, List.length_cons, List.nil_append, List.cons_append, List.getElem?_cons_zero, List.getElem?_cons_succ, List.set_cons_zero, List.set_cons_succ, Bool.not_true, Bool.not_false, reduceIte, Nat.reduceEqDiff, Nat.reduceAdd, Nat.reduceLT, partsP_cons, partsP_nil, conP_some, dr_nil, dr_move, dr_assign, dr_box, dr_load, dr_bin, dr_un, dr_conv, dr_fieldAddr, dr_extract, dr_call, dr_alloc, dr_index, dr_indexAddr, dr_build, dr_buildSlice, dr_makeFunc, dr_store, drawN_p, drawN_g, drawE_s, ifS_t, isW_nil, isW_cons, boxOf_own, boxOf_giv, otherB_s, otherB_n, spares_s, spares_n, ldAt_0, ldAt_s, pure_fieldAddr, pure_field, pure_indexAddr, pure_index, pure_load, pure_call, pure_store, pure_alloc, pure_box, pure_build, dr_field, dr_pick, ops_field, field_0, field_1, okA_nil, okA_cons, headW_nil, headW_cons, headH_nil, headH_cons, bindsA_nil, bindsA_cons, waitsA_nil, waitsA_cons, allWait_0, allWait_s, pure_0, pure_s, pure_move, pure_assign, pure_bin, pure_un, pure_conv, pure_ext, binds_data, binds_chain, binds_guard, binds_phase, binds_text, binds_gc, heapA_nil, heapA_cons, sameLen_self, sameLen_nil, sameLen_cons, sameLen_l, sameLen_set, entries_nil, entries_cons, entC_f, entC_t, entC_n, dstsOf_nil, dstsOf_some, dstsOf_no, valsEnv_nil, valsEnv_some, valsEnv_none, ops_index, ops_indexAddr, ops_buildSlice, blt_lit, beq_lit, Bool.or_true, Bool.true_or, Bool.or_false, Bool.false_or, Bool.and_true, Bool.true_and, Bool.and_self, cond_true, cond_false, List.append_nil, Iv.eta, Option.map_none, alloc_eq, alloc_pair', alloc_int, alloc_bool, build_eq, buildO_01, buildO_0, buildO_1, buildO_n, buildO_a, bsl_eq, idx_eq, idxO_l0, idxO_l1, iad_eq, binP_eql', binP_neq', binB_eql', binB_neq', eqT_pt, eqT_pf, eqT_bt, eqT_bf, decide_true, decide_false, seqK_n, seqK_r, seqK_e, loopK_n, loopK_r, loopK_e, reqs_true, Int.zero_sub, wrap_lit, wrapu_lit, Int.reduceLE, Int.reduceLT, Int.reduceAdd, Int.reduceSub, Int.reduceMul, Int.reduceNeg, Int.reduceEq, ops_makeFunc, makeFunc_eq, ptrsO_some, ptrsOf_nil, ptrsOf_cons, consQ_some, funcV_nil, funcV_cons, Option.bind_some, loadO_giv, bin_shr_u64, bin_shl_u64, bin_shr_i64, bin_shl_i64, and_m32', Int.reduceToNat, Int.reducePow, Int.reduceMod, Int.reduceDiv, wrap_u64s, true_or, or_true, true_and, and_true, callX_some, mX_none, mX_some, orc_m, orcM_m, orcMs_nil, orcMs_cons, tellM_some, growO_nil, growO_cons, stC_some, ops_max, ops_min, ops_len, ops_append, ops_makeSlice, ops_slice, dr_max, dr_min, dr_len, dr_append, dr_makeSlice, dr_slice, gl_eq, loadO_abs, drawF_s, cellK_some, drawC_t, drawC_f, isMC_fn, isMC_clo, Option.isSome_none, Option.isSome_some, fillA_nil, fillA_cons, flA_nil, flA_cons, fillT_nil, fillT_cons, bindsNone_nil, bindsNone_cons, frees_nil, frees_cons, free_alloc, free_box, free_bsl, free_move, free_assign, free_load, free_store, free_bin, free_un, free_conv, free_fieldAddr, free_field, free_ext, free_call, free_iad, free_idx, free_build, free_mkf, free_pick, free_mks, free_slice, spares_a, otherT_s, otherT_n, ble_lit, Nat.reduceLeDiff, Nat.reduceMul, Int.toNat_natCast, Int.cast_ofNat_Int, Int.natCast_zero, Int.natCast_one, partsA_nil, partsA_cons, conA_some, inOrd_nil, inOrd_cons, flatP_nil, flatP_cons, rowN_0, rowN_s, bslO_row, bslO_0, mks_eq, intO_int, slc_eq, optI_none, optI_some, optP_int, app_eq, len_row, len_sl, len_emp, lenO_some, row_row, row_ez, row_size, row_agg, pair_agg, int_agg, one_agg, bool_agg, str_agg, iadO_row, iadO_sl, endsM_r, endsM_n, List.isEmpty_nil, List.isEmpty_cons, List.replicate_zero, List.replicate_succ, T1, T2, T3, T4, T5, T6, T9, T10, T11, T12, T21, T22, T23, T24, T25, T26, T27, T28, T29, T30, T31, T32, T33, T34, T35, T36, T37, T38, T39, T40, T42, T43, T44, T45, T46, T47, T48, T50, T51, T52, T53, T54, T55, T56, T57, T58, T59, T61, T62, T63, T65, T67, T69, T70, T71, T72, T75, T77, T83, T84, T85, T86, T87, T89, T90]
    repeat' (first | with_reducible refine cnd_split (fun hc => ?_) (fun hc => ?_) | with_reducible refine Reqs.mk ?_ ?_)
    all_goals first
      | (refine ⟨hpre.1, ?_, hpre.2⟩; unfold inR; omega)
      | exact endS_ib (t := (fixFloor a d)) hr rfl
  · cases hF

-- impl.FixCeil
theorem impl_FixCeil_fixCeil_ok : Fn Try.prog 99 F_fixCeil := by
  refine fn_of_go (O := orc [⟨108, F_fixed, .inl impl_fixed_fixed_ok⟩, ⟨110, F_mulDivUp, .inl impl_mulDivCeil_mulDivUp_ok⟩]) mixed T_ok (orc_sound _) Try.func99 (by kernel_rfl) rfl Try.ntmps99 (by kernel_rfl) Try.results99 ?_
  intro args g pre r new hF hpre
  unfold F_fixCeil at hF
  split at hF
  · rename_i a d
    simp only [Option.some.injEq, Prod.mk.injEq] at hF
    obtain ⟨rfl, hr, rfl⟩ := hF
    refine ⟨by simp, ?_⟩
    simp (config := { maxSteps := 4000000, implicitDefEqProofs := false }) only [F_fixed_eq, F_mulDivUp_eq, go_seq', go_reg, go_draw, rest_n, rest_r, rest_e, go_cond, go_block, go_ret_, go_skip, go_exit, blockK_n, blockK_r, blockK_e, ops_nil, ops_gate, ops_move, ops_assign, ops_pick, ops_box, ops_load, ops_store, ops_bin, ops_un, ops_conv, ops_fieldAddr, ops_extract, ops_call, ops_alloc, ops_build, st1_some, stH_some, reqO_some, cndO_some, putE_some, putE_none, tell_some, look_hit, look_miss, opd_tmp, opd_int, opd_bool, opd_func, opd_txt, up_v, up_tup, up_agg, up_p, up_clo, up_ptr, up_own, List.map_cons, List.map_nil, Nat.add_zero, opd_nsl, opd_nf, opdA_eq, opdP_eq, toA_v, toP_v, sp_eq, cells_p, cells_agg, cellsOf_p, cellsOf_agg, boxO_some, loadO_own, loadC_int, loadC_bool, loadC_pair, storeO_own, storeC_0, storeC_1, storeC_2, storeC_c, size_int, size_bool, size_pair, faddr_0, faddr_1, conv_int, un_not, un_neg, un_xor, ext_0, ext_1, ext_2, max_v, min_v, bin_add, bin_sub, bin_mul, bin_and, bin_or, bin_xor, bin_eql, bin_neq, bin_lss, bin_leq, bin_gtr, bin_geq, grd_b, grd_u, slotV_some, gateP_eq, gateO_some, asBoolS_b, slotOf_tmp, gslot_0, gslot_s, beq_t, beq_f, ↓cnd_t, ↓cnd_f, cnd_not, callR_eq, calleeO_fn, capsA_nil, capsA_cons, trArgs_nil, trArgs_agg, trArgs_p, trArgs_ptr, ptrT_some, trArgs_clo, cloT_some, consT_some, trPts_nil, trPts_cons, ptsT_some, consP_some, loadCell_own, loadCell_giv, calleeO_clo, tellO_some, argsA_nil, argsA_cons, consO_some, orc_cons, ends_r, ends_n, resAll_nil, resAll_cons, resV_tmp, resV_cell, resC_own, cellV_pair, cellV_int, startEnv, Option.map_some, List.length_nil, List.length_cons, List.nil_append, List.cons_append, List.getElem?_cons_zero, List.getElem?_cons_succ, List.set_cons_zero, List.set_cons_succ, Bool.not_true, Bool.not_false, reduceIte, Nat.reduceEqDiff, Nat.reduceAdd, Nat.reduceLT, partsP_cons, partsP_nil, conP_some, dr_nil, dr_move, dr_assign, dr_box, dr_load, dr_bin, dr_un, dr_conv, dr_fieldAddr, dr_extract, dr_call, dr_alloc, dr_index, dr_indexAddr, dr_build, dr_buildSlice, dr_makeFunc, dr_store, drawN_p, drawN_g, drawE_s, ifS_t, isW_nil, isW_cons, boxOf_own, boxOf_giv, otherB_s, otherB_n, spares_s, spares_n, ldAt_0, ldAt_s, pure_fieldAddr, pure_field, pure_indexAddr, pure_index, pure_load, pure_call, pure_store, pure_alloc, pure_box, pure_build, dr_field, dr_pick, ops_field, field_0, field_1, okA_nil, okA_cons, headW_nil, headW_cons, headH_nil, headH_cons, bindsA_nil, bindsA_cons, waitsA_nil, waitsA_cons, allWait_0, allWait_s, pure_0, pure_s, pure_move, pure_assign, pure_bin, pure_un, pure_conv, pure_ext, binds_data, binds_chain, binds_guard, binds_phase, binds_text, binds_gc, heapA_nil, heapA_cons, sameLen_self, sameLen_nil, sameLen_cons, sameLen_l, sameLen_set, entries_nil, entries_cons, entC_f, entC_t, entC_n, dstsOf_nil, dstsOf_some, dstsOf_no, valsEnv_nil, valsEnv_some, valsEnv_none, ops_index, ops_indexAddr, ops_buildSlice, blt_lit, beq_lit, Bool.or_true, Bool.true_or, Bool.or_false, Bool.false_or, Bool.and_true, Bool.true_and, Bool.and_self, cond_true, cond_false, List.append_nil, Iv.eta, Option.map_none, alloc_eq, alloc_pair', alloc_int, alloc_bool, build_eq, buildO_01, buildO_0, buildO_1, buildO_n, buildO_a, bsl_eq, idx_eq, idxO_l0, idxO_l1, iad_eq, binP_eql', binP_neq', binB_eql', binB_neq', eqT_pt, eqT_pf, eqT_bt, eqT_bf, decide_true, decide_false, seqK_n, seqK_r, seqK_e, loopK_n, loopK_r, loopK_e, reqs_true, Int.zero_sub, wrap_lit, wrapu_lit, Int.reduceLE, Int.reduceLT, Int.reduceAdd, Int.reduceSub, Int.reduceMul, Int.reduceNeg, Int.reduceEq, ops_makeFunc, makeFunc_eq, ptrsO_some, ptrsOf_nil, ptrsOf_cons, consQ_some, funcV_nil, funcV_cons, Option.bind_some, loadO_giv, bin_shr_u64, bin_shl_u64, bin_shr_i64, bin_shl_i64, and_m32', Int.reduceToNat, Int.reducePow, Int.reduceMod, Int.reduceDiv, wrap_u64s, true_or, or_true, true_and, and_true, callX_some, mX_none, mX_some, orc_m, orcM_m, orcMs_nil, orcMs_cons, tellM_some, growO_nil, growO_cons, stC_some, ops_max, ops_min, ops_len, ops_append, ops_makeSlice, ops_slice, dr_max, dr_min, dr_len, dr_append, dr_makeSlice, dr_slice, gl_eq, loadO_abs, drawF_s, cellK_some, drawC_t, drawC_f, isMC_fn, isMC_clo, Option.isSome_none, Option.isSome_some, fillA_nil, fillA_cons, flA_nil, flA_cons, fillT_nil, fillT_cons, bindsNone_nil, bindsNone_cons, frees_nil, frees_cons, free_alloc, free_box, free_bsl, free_move, free_assign, free_load, free_store, free_bin, free_un, free_conv, free_fieldAddr, free_field, free_ext, free_call, free_iad, free_idx, free_build, free_mkf, free_pick, free_mks, free_slice, spares_a, otherT_s, otherT_n, ble_lit, Nat.reduceLeDiff, Nat.reduceMul, Int.toNat_natCast, Int.cast_ofNat_Int, Int.natCast_zero, Int.natCast_one, partsA_nil, partsA_cons, conA_some, inOrd_nil, inOrd_cons, flatP_nil, flatP_cons, rowN_0, rowN_s, bslO_row, bslO_0, mks_eq, intO_int, slc_eq, optI_none, optI_some, optP_int, app_eq, len_row, len_sl, len_emp, lenO_some, row_row, row_ez, row_size, row_agg, pair_agg, int_agg, one_agg, bool_agg, str_agg, iadO_row, iadO_sl, endsM_r, endsM_n, List.isEmpty_nil, List.isEmpty_cons, List.replicate_zero, List.replicate_succ, T1, T2, T3, T4, T5, T6, T9, T10, T11, T12, T21, T22, T23, T24, T25, T26, T27, T28, T29, T30, T31, T32, T33, T34, T35, T36, T37, T38, T39, T40, T42, T43, T44, T45, T46, T47, T48, T50, T51, T52, T53, T54, T55, T56, T57, T58, T59, T61, T62, T63, T65, T67, T69, T70, T71, T72, T75, T77, T83, T84, T85, T86, T87, T89, T90]
    repeat' (first | with_reducible refine cnd_split (fun hc => ?_) (fun hc => ?_) | with_reducible refine Reqs.mk ?_ ?_)
    all_goals first
      | (refine ⟨hpre.1, ?_, hpre.2⟩; unfold inR; omega)
      | exact endS_ib (t := (fixCeil a d)) hr rfl
  · cases hF

-- spec.l03Floor
theorem spec_l03Floor_fixFloor_ok : Fn Try.prog 96 F_fixFloor := by
  refine fn_of_go (O := orc [⟨103, F_mulDiv, .inl spec_MulDivFloor_mulDiv_ok⟩, ⟨104, F_fixed, .inl spec_l03End_fixed_ok⟩]) mixed T_ok (orc_sound _) Try.func96 (by kernel_rfl) rfl Try.ntmps96 (by kernel_rfl) Try.results96 ?_
  intro args g pre r new hF hpre
  unfold F_fixFloor at hF
  split at hF
  · rename_i a d
    simp only [Option.some.injEq, Prod.mk.injEq] at hF
    obtain ⟨rfl, hr, rfl⟩ := hF
    refine ⟨by simp, ?_⟩
    simp (config := { maxSteps := 4000000, implicitDefEqProofs := false }) only [F_fixed_eq, F_mulDiv_eq, go_seq', go_reg, go_draw, rest_n, rest_r, rest_e, go_cond, go_block, go_ret_, go_skip, go_exit, blockK_n, blockK_r, blockK_e, ops_nil, ops_gate, ops_move, ops_assign, ops_pick, ops_box, ops_load, ops_store, ops_bin, ops_un, ops_conv, ops_fieldAddr, ops_extract, ops_call, ops_alloc, ops_build, st1_some, stH_some, reqO_some, cndO_some, putE_some, putE_none, tell_some, look_hit, look_miss, opd_tmp, opd_int, opd_bool, opd_func, opd_txt, up_v, up_tup, up_agg, up_p, up_clo, up_ptr, up_own, List.map_cons, List.map_nil, Nat.add_zero, opd_nsl, opd_nf, opdA_eq, opdP_eq, toA_v, toP_v, sp_eq, cells_p, cells_agg, cellsOf_p, cellsOf_agg, boxO_some, loadO_own, loadC_int, loadC_bool, loadC_pair, storeO_own, storeC_0, storeC_1, storeC_2, storeC_c, size_int, size_bool, size_pair, faddr_0, faddr_1, conv_int, un_not, un_neg, un_xor, ext_0, ext_1, ext_2, max_v, min_v, bin_add, bin_sub, bin_mul, bin_and, bin_or, bin_xor, bin_eql, bin_neq, bin_lss, bin_leq, bin_gtr, bin_geq, grd_b, grd_u, slotV_some, gateP_eq, gateO_some, asBoolS_b, slotOf_tmp, gslot_0, gslot_s, beq_t, beq_f, ↓cnd_t, ↓cnd_f, cnd_not, callR_eq, calleeO_fn, capsA_nil, capsA_cons, trArgs_nil, trArgs_agg, trArgs_p, trArgs_ptr, ptrT_some, trArgs_clo, cloT_some, consT_some, trPts_nil, trPts_cons, ptsT_some, consP_some, loadCell_own, loadCell_giv, calleeO_clo, tellO_some, argsA_nil, argsA_cons, consO_some, orc_cons, ends_r, ends_n, resAll_nil, resAll_cons, resV_tmp, resV_cell, resC_own, cellV_pair, cellV_int, startEnv, Option.map_some, List.length_nil, List.length_cons, List.nil_append, List.cons_append, List.getElem?_cons_zero, List.getElem?_cons_succ, List.set_cons_zero, List.set_cons_succ, Bool.not_true, Bool.not_false, reduceIte, Nat.reduceEqDiff, Nat.reduceAdd, Nat.reduceLT, partsP_cons, partsP_nil, conP_some, dr_nil, dr_move, dr_assign, dr_box, dr_load, dr_bin, dr_un, dr_conv, dr_fieldAddr, dr_extract, dr_call, dr_alloc, dr_index, dr_indexAddr, dr_build, dr_buildSlice, dr_makeFunc, dr_store, drawN_p, drawN_g, drawE_s, ifS_t, isW_nil, isW_cons, boxOf_own, boxOf_giv, otherB_s, otherB_n, spares_s, spares_n, ldAt_0, ldAt_s, pure_fieldAddr, pure_field, pure_indexAddr, pure_index, pure_load, pure_call, pure_store, pure_alloc, pure_box, pure_build, dr_field, dr_pick, ops_field, field_0, field_1, okA_nil, okA_cons, headW_nil, headW_cons, headH_nil, headH_cons, bindsA_nil, bindsA_cons, waitsA_nil, waitsA_cons, allWait_0, allWait_s, pure_0, pure_s, pure_move, pure_assign, pure_bin, pure_un, pure_conv, pure_ext, binds_data, binds_chain, binds_guard, binds_phase, binds_text, binds_gc, heapA_nil, heapA_cons, sameLen_self, sameLen_nil, sameLen_cons, sameLen_l, sameLen_set, entries_nil, entries_cons, entC_f, entC_t, entC_n, dstsOf_nil, dstsOf_some, dstsOf_no, valsEnv_nil, valsEnv_some, valsEnv_none, ops_index, ops_indexAddr, ops_buildSlice, blt_lit, beq_lit, Bool.or_true, Bool.true_or, Bool.or_false, Bool.false_or, Bool.and_true, Bool.true_and, Bool.and_self, cond_true, cond_false, List.append_nil, Iv.eta, Option.map_none, alloc_eq, alloc_pair', alloc_int, alloc_bool, build_eq, buildO_01, buildO_0, buildO_1, buildO_n, buildO_a, bsl_eq, idx_eq, idxO_l0, idxO_l1, iad_eq, binP_eql', binP_neq', binB_eql', binB_neq', eqT_pt, eqT_pf, eqT_bt, eqT_bf, decide_true, decide_false, seqK_n, seqK_r, seqK_e, loopK_n, loopK_r, loopK_e, reqs_true, Int.zero_sub, wrap_lit, wrapu_lit, Int.reduceLE, Int.reduceLT, Int.reduceAdd, Int.reduceSub, Int.reduceMul, Int.reduceNeg, Int.reduceEq, ops_makeFunc, makeFunc_eq, ptrsO_some, ptrsOf_nil, ptrsOf_cons, consQ_some, funcV_nil, funcV_cons, Option.bind_some, loadO_giv, bin_shr_u64, bin_shl_u64, bin_shr_i64, bin_shl_i64, and_m32', Int.reduceToNat, Int.reducePow, Int.reduceMod, Int.reduceDiv, wrap_u64s, true_or, or_true, true_and, and_true, callX_some, mX_none, mX_some, orc_m, orcM_m, orcMs_nil, orcMs_cons, tellM_some, growO_nil, growO_cons, stC_some, ops_max, ops_min, ops_len, ops_append, ops_makeSlice, ops_slice, dr_max, dr_min, dr_len, dr_append, dr_makeSlice, dr_slice, gl_eq, loadO_abs, drawF_s, cellK_some, drawC_t, drawC_f, isMC_fn, isMC_clo, Option.isSome_none, Option.isSome_some, fillA_nil, fillA_cons, flA_nil, flA_cons, fillT_nil, fillT_cons, bindsNone_nil, bindsNone_cons, frees_nil, frees_cons, free_alloc, free_box, free_bsl, free_move, free_assign, free_load, free_store, free_bin, free_un, free_conv, free_fieldAddr, free_field, free_ext, free_call, free_iad, free_idx, free_build, free_mkf, free_pick, free_mks, free_slice, spares_a, otherT_s, otherT_n, ble_lit, Nat.reduceLeDiff, Nat.reduceMul, Int.toNat_natCast, Int.cast_ofNat_Int, Int.natCast_zero, Int.natCast_one, partsA_nil, partsA_cons, conA_some, inOrd_nil, inOrd_cons, flatP_nil, flatP_cons, rowN_0, rowN_s, bslO_row, bslO_0, mks_eq, intO_int, slc_eq, optI_none, optI_some, optP_int, app_eq, len_row, len_sl, len_emp, lenO_some, row_row, row_ez, row_size, row_agg, pair_agg, int_agg, one_agg, bool_agg, str_agg, iadO_row, iadO_sl, endsM_r, endsM_n, List.isEmpty_nil, List.isEmpty_cons, List.replicate_zero, List.replicate_succ, T1, T2, T3, T4, T5, T6, T9, T10, T11, T12, T21, T22, T23, T24, T25, T26, T27, T28, T29, T30, T31, T32, T33, T34, T35, T36, T37, T38, T39, T40, T42, T43, T44, T45, T46, T47, T48, T50, T51, T52, T53, T54, T55, T56, T57, T58, T59, T61, T62, T63, T65, T67, T69, T70, T71, T72, T75, T77, T83, T84, T85, T86, T87, T89, T90]
    repeat' (first | with_reducible refine cnd_split (fun hc => ?_) (fun hc => ?_) | with_reducible refine Reqs.mk ?_ ?_)
    all_goals (try simp only [decide_eq_true_eq, decide_eq_false_iff_not] at *)
    all_goals first
      | (refine ⟨hpre.1, ?_, hpre.2⟩; unfold inR; omega)
      | exact endS_ib (t := (fixFloor a d)) hr rfl
      | (refine endS_ib (t := (fixFloor a d)) hr ?_; rw [fixFloor, mulDiv, if_neg (by omega)]; rfl)
  · cases hF

end Go.Proofs.Ytmkpilmlgjnadaa.Eng
