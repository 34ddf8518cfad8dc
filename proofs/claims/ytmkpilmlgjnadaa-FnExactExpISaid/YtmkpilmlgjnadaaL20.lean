/- What functions of the program compute, and that the program computes it: part 20. -/
import Derived.Test.YtmkpilmlgjnadaaTab
import Derived.Test.YtmkpilmlgjnadaaEng15
import Derived.Laws.BitsLemmas
import Derived.Laws.Bits64
import Derived.Laws.Bits64b
import Derived.Lib.Mul64
import Derived.Lib.BitFns
import Derived.Laws.Externs
import Derived.Test.YtmkpilmlgjnadaaL1
import Derived.Test.YtmkpilmlgjnadaaL2
import Derived.Test.YtmkpilmlgjnadaaL3
import Derived.Test.YtmkpilmlgjnadaaL4
import Derived.Test.YtmkpilmlgjnadaaL8
import Derived.Test.YtmkpilmlgjnadaaL9
import Derived.Test.YtmkpilmlgjnadaaL11
import Derived.Test.YtmkpilmlgjnadaaL16
import Derived.Test.YtmkpilmlgjnadaaL17
namespace Go.Proofs.Ytmkpilmlgjnadaa.Eng
open Go Go.RowKit
set_option linter.unusedVariables false
set_option linter.unusedSimpArgs false
set_option maxRecDepth 100000
set_option maxHeartbeats 1000000
-- consts
def F_tinyI : FT
  | [], _ => some (True, .v (.agg [.int .i64 ((Iv.mk (-1) 1)).lo, .int .i64 ((Iv.mk (-1) 1)).hi]), [])
  | _, _ => none
theorem F_tinyI_eq {g : List PC} : F_tinyI [] g = some (True, .v (.agg [.int .i64 ((Iv.mk (-1) 1)).lo, .int .i64 ((Iv.mk (-1) 1)).hi]), []) := rfl
def F_ringI : FT
  | [], _ => some (True, .v (.agg [.int .i64 ((Iv.mk (-4294967296) 4294967296)).lo, .int .i64 ((Iv.mk (-4294967296) 4294967296)).hi]), [])
  | _, _ => none
theorem F_ringI_eq {g : List PC} : F_ringI [] g = some (True, .v (.agg [.int .i64 ((Iv.mk (-4294967296) 4294967296)).lo, .int .i64 ((Iv.mk (-4294967296) 4294967296)).hi]), []) := rfl
def F_oneI : FT
  | [], _ => some (True, .v (.agg [.int .i64 ((intI 1)).lo, .int .i64 ((intI 1)).hi]), [])
  | _, _ => none
theorem F_oneI_eq {g : List PC} : F_oneI [] g = some (True, .v (.agg [.int .i64 ((intI 1)).lo, .int .i64 ((intI 1)).hi]), []) := rfl
def F_mkP : FT
  | [.c (.p (.int .i64 n))], _ => some (True, .v (.agg [.int .i64 ((mkI n n)).lo, .int .i64 ((mkI n n)).hi]), [])
  | _, _ => none
theorem F_mkP_eq {n : Int} {g : List PC} : F_mkP [.c (.p (.int .i64 n))] g = some (True, .v (.agg [.int .i64 ((mkI n n)).lo, .int .i64 ((mkI n n)).hi]), []) := rfl

-- spec.l08At
theorem spec_l08At_mkP_ok : Fn Try.prog 29 F_mkP := by
  refine fn_of_go (O := orc [⟨68, F_mkI, .inl spec_l04Make_mkI_ok⟩]) mixed T_ok (orc_sound _) Try.func29 (by kernel_rfl) rfl Try.ntmps29 (by kernel_rfl) Try.results29 ?_
  intro args g pre r new hF hpre
  unfold F_mkP at hF
  split at hF
  · rename_i n
    simp only [Option.some.injEq, Prod.mk.injEq] at hF
    obtain ⟨rfl, hr, rfl⟩ := hF
    refine ⟨by simp, ?_⟩
    simp (config := { maxSteps := 4000000, implicitDefEqProofs := false }) only [F_mkI_eq, go_seq', go_reg, go_draw, rest_n, rest_r, rest_e, go_cond, go_block, go_ret_, go_skip, go_exit, blockK_n, blockK_r, blockK_e, ops_nil, ops_gate, ops_move, ops_assign, ops_pick, ops_box, ops_load, ops_store, ops_bin, ops_un, ops_conv, ops_fieldAddr, ops_extract, ops_call, ops_alloc, ops_build, st1_some, stH_some, reqO_some, cndO_some, putE_some, putE_none, tell_some, look_hit, look_miss, opd_tmp, opd_int, opd_bool, opd_func, opd_txt, up_v, up_tup, up_agg, up_p, up_clo, up_ptr, up_own, List.map_cons, List.map_nil, Nat.add_zero, opd_nsl, opd_nf, opdA_eq, opdP_eq, toA_v, toP_v, sp_eq, cells_p, cells_agg, cellsOf_p, cellsOf_agg, boxO_some, loadO_own, loadC_int, loadC_bool, loadC_pair, storeO_own, storeC_0, storeC_1, storeC_2, storeC_c, size_int, size_bool, size_pair, faddr_0, faddr_1, conv_int, un_not, un_neg, un_xor, ext_0, ext_1, ext_2, max_v, min_v, bin_add, bin_sub, bin_mul, bin_and, bin_or, bin_xor, bin_eql, bin_neq, bin_lss, bin_leq, bin_gtr, bin_geq, grd_b, grd_u, slotV_some, gateP_eq, gateO_some, asBoolS_b, slotOf_tmp, gslot_0, gslot_s, beq_t, beq_f, ↓cnd_t, ↓cnd_f, cnd_not, callR_eq, calleeO_fn, capsA_nil, capsA_cons, trArgs_nil, trArgs_agg, trArgs_p, trArgs_ptr, ptrT_some, trArgs_clo, cloT_some, consT_some, trPts_nil, trPts_cons, ptsT_some, consP_some, loadCell_own, loadCell_giv, calleeO_clo, tellO_some, argsA_nil, argsA_cons, consO_some, orc_cons, ends_r, ends_n, resAll_nil, resAll_cons, resV_tmp, resV_cell, resC_own, cellV_pair, cellV_int, startEnv, Option.map_some, List.length_nil, List.length_cons, List.nil_append, List.cons_append, List.getElem?_cons_zero, List.getElem?_cons_succ, List.set_cons_zero, List.set_cons_succ, Bool.not_true, Bool.not_false, reduceIte, Nat.reduceEqDiff, Nat.reduceAdd, Nat.reduceLT, partsP_cons, partsP_nil, conP_some, dr_nil, dr_move, dr_assign, dr_box, dr_load, dr_bin, dr_un, dr_conv, dr_fieldAddr, dr_extract, dr_call, dr_alloc, dr_index, dr_indexAddr, dr_build, dr_buildSlice, dr_makeFunc, dr_store, drawN_p, drawN_g, drawE_s, ifS_t, isW_nil, isW_cons, boxOf_own, boxOf_giv, otherB_s, otherB_n, spares_s, spares_n, ldAt_0, ldAt_s, pure_fieldAddr, pure_field, pure_indexAddr, pure_index, pure_load, pure_call, pure_store, pure_alloc, pure_box, pure_build, dr_field, dr_pick, ops_field, field_0, field_1, okA_nil, okA_cons, headW_nil, headW_cons, headH_nil, headH_cons, bindsA_nil, bindsA_cons, waitsA_nil, waitsA_cons, allWait_0, allWait_s, pure_0, pure_s, pure_move, pure_assign, pure_bin, pure_un, pure_conv, pure_ext, binds_data, binds_chain, binds_guard, binds_phase, binds_text, binds_gc, heapA_nil, heapA_cons, sameLen_self, sameLen_nil, sameLen_cons, sameLen_l, sameLen_set, entries_nil, entries_cons, entC_f, entC_t, entC_n, dstsOf_nil, dstsOf_some, dstsOf_no, valsEnv_nil, valsEnv_some, valsEnv_none, ops_index, ops_indexAddr, ops_buildSlice, blt_lit, beq_lit, Bool.or_true, Bool.true_or, Bool.or_false, Bool.false_or, Bool.and_true, Bool.true_and, Bool.and_self, cond_true, cond_false, List.append_nil, Iv.eta, Option.map_none, alloc_eq, alloc_pair', alloc_int, alloc_bool, build_eq, buildO_01, buildO_0, buildO_1, buildO_n, buildO_a, bsl_eq, idx_eq, idxO_l0, idxO_l1, iad_eq, binP_eql', binP_neq', binB_eql', binB_neq', eqT_pt, eqT_pf, eqT_bt, eqT_bf, decide_true, decide_false, seqK_n, seqK_r, seqK_e, loopK_n, loopK_r, loopK_e, reqs_true, Int.zero_sub, wrap_lit, wrapu_lit, Int.reduceLE, Int.reduceLT, Int.reduceAdd, Int.reduceSub, Int.reduceMul, Int.reduceNeg, Int.reduceEq, ops_makeFunc, makeFunc_eq, ptrsO_some, ptrsOf_nil, ptrsOf_cons, consQ_some, funcV_nil, funcV_cons, Option.bind_some, loadO_giv, bin_shr_u64, bin_shl_u64, bin_shr_i64, bin_shl_i64, and_m32', Int.reduceToNat, Int.reducePow, Int.reduceMod, Int.reduceDiv, wrap_u64s, true_or, or_true, true_and, and_true, callX_some, mX_none, mX_some, orc_m, orcM_m, orcMs_nil, orcMs_cons, tellM_some, growO_nil, growO_cons, stC_some, ops_max, ops_min, ops_len, ops_append, ops_makeSlice, ops_slice, dr_max, dr_min, dr_len, dr_append, dr_makeSlice, dr_slice, gl_eq, loadO_abs, drawF_s, cellK_some, drawC_t, drawC_f, isMC_fn, isMC_clo, Option.isSome_none, Option.isSome_some, fillA_nil, fillA_cons, flA_nil, flA_cons, fillT_nil, fillT_cons, bindsNone_nil, bindsNone_cons, frees_nil, frees_cons, free_alloc, free_box, free_bsl, free_move, free_assign, free_load, free_store, free_bin, free_un, free_conv, free_fieldAddr, free_field, free_ext, free_call, free_iad, free_idx, free_build, free_mkf, free_pick, free_mks, free_slice, spares_a, otherT_s, otherT_n, ble_lit, Nat.reduceLeDiff, Nat.reduceMul, Int.toNat_natCast, Int.cast_ofNat_Int, Int.natCast_zero, Int.natCast_one, partsA_nil, partsA_cons, conA_some, inOrd_nil, inOrd_cons, flatP_nil, flatP_cons, rowN_0, rowN_s, bslO_row, bslO_0, mks_eq, intO_int, slc_eq, optI_none, optI_some, optP_int, app_eq, len_row, len_sl, len_emp, lenO_some, row_row, row_ez, row_size, row_agg, pair_agg, int_agg, one_agg, bool_agg, str_agg, iadO_row, iadO_sl, endsM_r, endsM_n, List.isEmpty_nil, List.isEmpty_cons, List.replicate_zero, List.replicate_succ, T1, T2, T3, T4, T5, T6, T9, T10, T11, T12, T21, T22, T23, T24, T25, T26, T27, T28, T29, T30, T31, T32, T33, T34, T35, T36, T37, T38, T39, T40, T42, T43, T44, T45, T46, T47, T48, T50, T51, T52, T53, T54, T55, T56, T57, T58, T59, T61, T62, T63, T65, T67, T69, T70, T71, T72, T75, T77, T83, T84, T85, T86, T87, T89, T90]
    repeat' (first | with_reducible refine cnd_split (fun hc => ?_) (fun hc => ?_) | with_reducible refine Reqs.mk ?_ ?_)
    exact endS_v (t := (mkI n n)) hr rfl
  · cases hF

-- spec.l08One
theorem spec_l08One_oneI_ok : Fn Try.prog 31 F_oneI := by
  refine fn_of_go (O := orc [⟨29, F_mkP, .inl spec_l08At_mkP_ok⟩]) mixed T_ok (orc_sound _) Try.func31 (by kernel_rfl) rfl Try.ntmps31 (by kernel_rfl) Try.results31 ?_
  intro args g pre r new hF hpre
  unfold F_oneI at hF
  split at hF
  · skip
    simp only [Option.some.injEq, Prod.mk.injEq] at hF
    obtain ⟨rfl, hr, rfl⟩ := hF
    refine ⟨by simp, ?_⟩
    simp (config := { maxSteps := 4000000, implicitDefEqProofs := false }) only [F_mkP_eq, go_seq', go_reg, go_draw, rest_n, rest_r, rest_e, go_cond, go_block, go_ret_, go_skip, go_exit, blockK_n, blockK_r, blockK_e, ops_nil, ops_gate, ops_move, ops_assign, ops_pick, ops_box, ops_load, ops_store, ops_bin, ops_un, ops_conv, ops_fieldAddr, ops_extract, ops_call, ops_alloc, ops_build, st1_some, stH_some, reqO_some, cndO_some, putE_some, putE_none, tell_some, look_hit, look_miss, opd_tmp, opd_int, opd_bool, opd_func, opd_txt, up_v, up_tup, up_agg, up_p, up_clo, up_ptr, up_own, List.map_cons, List.map_nil, Nat.add_zero, opd_nsl, opd_nf, opdA_eq, opdP_eq, toA_v, toP_v, sp_eq, cells_p, cells_agg, cellsOf_p, cellsOf_agg, boxO_some, loadO_own, loadC_int, loadC_bool, loadC_pair, storeO_own, storeC_0, storeC_1, storeC_2, storeC_c, size_int, size_bool, size_pair, faddr_0, faddr_1, conv_int, un_not, un_neg, un_xor, ext_0, ext_1, ext_2, max_v, min_v, bin_add, bin_sub, bin_mul, bin_and, bin_or, bin_xor, bin_eql, bin_neq, bin_lss, bin_leq, bin_gtr, bin_geq, grd_b, grd_u, slotV_some, gateP_eq, gateO_some, asBoolS_b, slotOf_tmp, gslot_0, gslot_s, beq_t, beq_f, ↓cnd_t, ↓cnd_f, cnd_not, callR_eq, calleeO_fn, capsA_nil, capsA_cons, trArgs_nil, trArgs_agg, trArgs_p, trArgs_ptr, ptrT_some, trArgs_clo, cloT_some, consT_some, trPts_nil, trPts_cons, ptsT_some, consP_some, loadCell_own, loadCell_giv, calleeO_clo, tellO_some, argsA_nil, argsA_cons, consO_some, orc_cons, ends_r, ends_n, resAll_nil, resAll_cons, resV_tmp, resV_cell, resC_own, cellV_pair, cellV_int, startEnv, Option.map_some, List.length_nil, List.length_cons, List.nil_append, List.cons_append, List.getElem?_cons_zero, List.getElem?_cons_succ, List.set_cons_zero, List.set_cons_succ, Bool.not_true, Bool.not_false, reduceIte, Nat.reduceEqDiff, Nat.reduceAdd, Nat.reduceLT, partsP_cons, partsP_nil, conP_some, dr_nil, dr_move, dr_assign, dr_box, dr_load, dr_bin, dr_un, dr_conv, dr_fieldAddr, dr_extract, dr_call, dr_alloc, dr_index, dr_indexAddr, dr_build, dr_buildSlice, dr_makeFunc, dr_store, drawN_p, drawN_g, drawE_s, ifS_t, isW_nil, isW_cons, boxOf_own, boxOf_giv, otherB_s, otherB_n, spares_s, spares_n, ldAt_0, ldAt_s, pure_fieldAddr, pure_field, pure_indexAddr, pure_index, pure_load, pure_call, pure_store, pure_alloc, pure_box, pure_build, dr_field, dr_pick, ops_field, field_0, field_1, okA_nil, okA_cons, headW_nil, headW_cons, headH_nil, headH_cons, bindsA_nil, bindsA_cons, waitsA_nil, waitsA_cons, allWait_0, allWait_s, pure_0, pure_s, pure_move, pure_assign, pure_bin, pure_un, pure_conv, pure_ext, binds_data, binds_chain, binds_guard, binds_phase, binds_text, binds_gc, heapA_nil, heapA_cons, sameLen_self, sameLen_nil, sameLen_cons, sameLen_l, sameLen_set, entries_nil, entries_cons, entC_f, entC_t, entC_n, dstsOf_nil, dstsOf_some, dstsOf_no, valsEnv_nil, valsEnv_some, valsEnv_none, ops_index, ops_indexAddr, ops_buildSlice, blt_lit, beq_lit, Bool.or_true, Bool.true_or, Bool.or_false, Bool.false_or, Bool.and_true, Bool.true_and, Bool.and_self, cond_true, cond_false, List.append_nil, Iv.eta, Option.map_none, alloc_eq, alloc_pair', alloc_int, alloc_bool, build_eq, buildO_01, buildO_0, buildO_1, buildO_n, buildO_a, bsl_eq, idx_eq, idxO_l0, idxO_l1, iad_eq, binP_eql', binP_neq', binB_eql', binB_neq', eqT_pt, eqT_pf, eqT_bt, eqT_bf, decide_true, decide_false, seqK_n, seqK_r, seqK_e, loopK_n, loopK_r, loopK_e, reqs_true, Int.zero_sub, wrap_lit, wrapu_lit, Int.reduceLE, Int.reduceLT, Int.reduceAdd, Int.reduceSub, Int.reduceMul, Int.reduceNeg, Int.reduceEq, ops_makeFunc, makeFunc_eq, ptrsO_some, ptrsOf_nil, ptrsOf_cons, consQ_some, funcV_nil, funcV_cons, Option.bind_some, loadO_giv, bin_shr_u64, bin_shl_u64, bin_shr_i64, bin_shl_i64, and_m32', Int.reduceToNat, Int.reducePow, Int.reduceMod, Int.reduceDiv, wrap_u64s, true_or, or_true, true_and, and_true, callX_some, mX_none, mX_some, orc_m, orcM_m, orcMs_nil, orcMs_cons, tellM_some, growO_nil, growO_cons, stC_some, ops_max, ops_min, ops_len, ops_append, ops_makeSlice, ops_slice, dr_max, dr_min, dr_len, dr_append, dr_makeSlice, dr_slice, gl_eq, loadO_abs, drawF_s, cellK_some, drawC_t, drawC_f, isMC_fn, isMC_clo, Option.isSome_none, Option.isSome_some, fillA_nil, fillA_cons, flA_nil, flA_cons, fillT_nil, fillT_cons, bindsNone_nil, bindsNone_cons, frees_nil, frees_cons, free_alloc, free_box, free_bsl, free_move, free_assign, free_load, free_store, free_bin, free_un, free_conv, free_fieldAddr, free_field, free_ext, free_call, free_iad, free_idx, free_build, free_mkf, free_pick, free_mks, free_slice, spares_a, otherT_s, otherT_n, ble_lit, Nat.reduceLeDiff, Nat.reduceMul, Int.toNat_natCast, Int.cast_ofNat_Int, Int.natCast_zero, Int.natCast_one, partsA_nil, partsA_cons, conA_some, inOrd_nil, inOrd_cons, flatP_nil, flatP_cons, rowN_0, rowN_s, bslO_row, bslO_0, mks_eq, intO_int, slc_eq, optI_none, optI_some, optP_int, app_eq, len_row, len_sl, len_emp, lenO_some, row_row, row_ez, row_size, row_agg, pair_agg, int_agg, one_agg, bool_agg, str_agg, iadO_row, iadO_sl, endsM_r, endsM_n, List.isEmpty_nil, List.isEmpty_cons, List.replicate_zero, List.replicate_succ, T1, T2, T3, T4, T5, T6, T9, T10, T11, T12, T21, T22, T23, T24, T25, T26, T27, T28, T29, T30, T31, T32, T33, T34, T35, T36, T37, T38, T39, T40, T42, T43, T44, T45, T46, T47, T48, T50, T51, T52, T53, T54, T55, T56, T57, T58, T59, T61, T62, T63, T65, T67, T69, T70, T71, T72, T75, T77, T83, T84, T85, T86, T87, T89, T90]
    repeat' (first | with_reducible refine cnd_split (fun hc => ?_) (fun hc => ?_) | with_reducible refine Reqs.mk ?_ ?_)
    all_goals first | trivial | exact endS_v (t := (intI 1)) hr rfl
  · cases hF

-- series
def seriesL : Nat → Iv → Int → Iv → Iv
  | 0, _, _, s => s
  | k + 1, y, c, s => seriesL k y c (subI (intI 1) (mulI (divI y (intI ((2 * (k + 1 : Nat) + c) * (2 * (k + 1 : Nat) + c + 1)))) s))
def F_seriesP : FT
  | [.agg [.int .i64 y1, .int .i64 y2], .c (.p (.int .i64 c))], _ => some (c = 1 ∨ c = 2, .v (.agg [.int .i64 ((seriesL 8 (Iv.mk y1 y2) (c - 2) (intI 1))).lo, .int .i64 ((seriesL 8 (Iv.mk y1 y2) (c - 2) (intI 1))).hi]), [])
  | _, _ => none
theorem F_seriesP_eq {y1 : Int} {y2 : Int} {c : Int} {g : List PC} : F_seriesP [.agg [.int .i64 y1, .int .i64 y2], .c (.p (.int .i64 c))] g = some (c = 1 ∨ c = 2, .v (.agg [.int .i64 ((seriesL 8 (Iv.mk y1 y2) (c - 2) (intI 1))).lo, .int .i64 ((seriesL 8 (Iv.mk y1 y2) (c - 2) (intI 1))).hi]), []) := rfl
def F_seriesQ : FT
  | [.agg [.int .i64 y1, .int .i64 y2], .c (.p (.int .i64 c))], _ => some (c = 0 ∨ c = -1, .v (.agg [.int .i64 ((seriesL 8 (Iv.mk y1 y2) c (intI 1))).lo, .int .i64 ((seriesL 8 (Iv.mk y1 y2) c (intI 1))).hi]), [])
  | _, _ => none
theorem F_seriesQ_eq {y1 : Int} {y2 : Int} {c : Int} {g : List PC} : F_seriesQ [.agg [.int .i64 y1, .int .i64 y2], .c (.p (.int .i64 c))] g = some (c = 0 ∨ c = -1, .v (.agg [.int .i64 ((seriesL 8 (Iv.mk y1 y2) c (intI 1))).lo, .int .i64 ((seriesL 8 (Iv.mk y1 y2) c (intI 1))).hi]), []) := rfl

-- power
def powL : Nat → Iv → Iv → Iv
  | 0, p, _ => p
  | k + 1, p, x => powL k (mulI p x) x
def powI (x : Iv) (n : Int) : Iv := if okI x && within n 0 16 then (if n = 0 then intI 1 else if n % 2 = 0 then powL (n - 1).toNat (absI x) (absI x) else powL (n - 1).toNat x x) else whole
def F_powI : FT
  | [.agg [.int .i64 x1, .int .i64 x2], .c (.p (.int .i64 n))], _ => some (inR n, .v (.agg [.int .i64 ((powI (Iv.mk x1 x2) n)).lo, .int .i64 ((powI (Iv.mk x1 x2) n)).hi]), [])
  | _, _ => none
theorem F_powI_eq {x1 : Int} {x2 : Int} {n : Int} {g : List PC} : F_powI [.agg [.int .i64 x1, .int .i64 x2], .c (.p (.int .i64 n))] g = some (inR n, .v (.agg [.int .i64 ((powI (Iv.mk x1 x2) n)).lo, .int .i64 ((powI (Iv.mk x1 x2) n)).hi]), []) := rfl
theorem absI_self {x : Iv} (h : okI x = true) (h0 : ¬ x.lo < 0) : absI x = x := by
  unfold absI
  rw [if_pos h]
  rw [okI_iff] at h
  obtain ⟨a, b⟩ := x
  simp only at h h0
  have e1 : nearI ⟨a, b⟩ = a := by
    unfold nearI absZ
    simp only
    split
    · rename_i hw; rw [within_iff] at hw; omega
    · repeat' split
      all_goals omega
  have e2 : farI ⟨a, b⟩ = b := by
    unfold farI absZ
    simp only
    repeat' split
    all_goals omega
  rw [e1, e2]
theorem powI_even {x : Iv} {n : Int} (h : okI x = true) (hw : within n 0 16 = true) (h0 : ¬ n = 0) (h2 : n.tmod 2 = 0) : powI x n = powL (n - 1).toNat (absI x) (absI x) := by
  have hn := within_iff.1 hw
  unfold powI
  rw [if_pos (by rw [h, hw]; rfl), if_neg h0, if_pos (by rw [← tmod_p hn.1]; exact h2)]
theorem powI_odd {x : Iv} {n : Int} (h : okI x = true) (hw : within n 0 16 = true) (h0 : ¬ n = 0) (h2 : ¬ n.tmod 2 = 0) : powI x n = powL (n - 1).toNat x x := by
  have hn := within_iff.1 hw
  unfold powI
  rw [if_pos (by rw [h, hw]; rfl), if_neg h0, if_neg (by rw [← tmod_p hn.1]; exact h2)]
theorem powI_0 {x : Iv} (h : okI x = true) : powI x 0 = intI 1 := by
  unfold powI
  rw [if_pos (by rw [h]; rfl), if_pos rfl]
theorem powI_w {x : Iv} {n : Int} (h : okI x = false ∨ within n 0 16 = false) : powI x n = whole := by
  unfold powI
  rw [if_neg]
  rcases h with h | h <;> rw [h] <;> simp

-- arccot
def arcL : Nat → Int → Iv → Iv → Int → Int → Iv
  | 0, _, _, sum, _, _ => sum
  | j + 1, k, p, sum, n, terms =>
    let t := if k = terms then hullI (divI (divI p (intI (n * n))) (intI (2 * k + 1))) (intI 0) else divI (divI p (intI (n * n))) (intI (2 * k + 1))
    arcL j (k + 1) (divI p (intI (n * n))) (if k % 2 = 1 then subI sum t else addI sum t) n terms
def acotI (n terms : Int) : Iv := if within n 2 1000 && within terms 1 40 then arcL terms.toNat 1 (quotI 1 n) (quotI 1 n) n terms else whole
def F_acotI : FT
  | [.c (.p (.int .i64 n)), .c (.p (.int .i64 t))], _ => some (True, .v (.agg [.int .i64 ((acotI n t)).lo, .int .i64 ((acotI n t)).hi]), [])
  | _, _ => none
theorem F_acotI_eq {n : Int} {t : Int} {g : List PC} : F_acotI [.c (.p (.int .i64 n)), .c (.p (.int .i64 t))] g = some (True, .v (.agg [.int .i64 ((acotI n t)).lo, .int .i64 ((acotI n t)).hi]), []) := rfl

-- arcs
def arcSL : Nat → Iv → Iv → Iv
  | 0, _, s => s
  | k + 1, y, s => arcSL k y (subI (quotI 1 (2 * (k : Int) + 1)) (mulI y s))
def arcS (x : Iv) : Iv := if insideI x ⟨-1073741824, 1073741824⟩ then addI (mulI x (arcSL 10 (sqrI x) (quotI 1 21))) ⟨-1, 1⟩ else whole
def F_arcS : FT
  | [.agg [.int .i64 x1, .int .i64 x2]], _ => some (True, .v (.agg [.int .i64 ((arcS (Iv.mk x1 x2))).lo, .int .i64 ((arcS (Iv.mk x1 x2))).hi]), [])
  | _, _ => none
theorem F_arcS_eq {x1 : Int} {x2 : Int} {g : List PC} : F_arcS [.agg [.int .i64 x1, .int .i64 x2]] g = some (True, .v (.agg [.int .i64 ((arcS (Iv.mk x1 x2))).lo, .int .i64 ((arcS (Iv.mk x1 x2))).hi]), []) := rfl

-- sinS
def sinS (x : Iv) : Iv := if insideI x ⟨-4294967296, 4294967296⟩ then addI (mulI x (seriesL 8 (sqrI x) 0 (intI 1))) ⟨-1, 1⟩ else whole
def cosS (x : Iv) : Iv := if insideI x ⟨-4294967296, 4294967296⟩ then addI (seriesL 8 (sqrI x) (-1) (intI 1)) ⟨-1, 1⟩ else whole
def F_sinS : FT
  | [.agg [.int .i64 x1, .int .i64 x2]], _ => some (True, .v (.agg [.int .i64 ((sinS (Iv.mk x1 x2))).lo, .int .i64 ((sinS (Iv.mk x1 x2))).hi]), [])
  | _, _ => none
theorem F_sinS_eq {x1 : Int} {x2 : Int} {g : List PC} : F_sinS [.agg [.int .i64 x1, .int .i64 x2]] g = some (True, .v (.agg [.int .i64 ((sinS (Iv.mk x1 x2))).lo, .int .i64 ((sinS (Iv.mk x1 x2))).hi]), []) := rfl
def F_cosS : FT
  | [.agg [.int .i64 x1, .int .i64 x2]], _ => some (True, .v (.agg [.int .i64 ((cosS (Iv.mk x1 x2))).lo, .int .i64 ((cosS (Iv.mk x1 x2))).hi]), [])
  | _, _ => none
theorem F_cosS_eq {x1 : Int} {x2 : Int} {g : List PC} : F_cosS [.agg [.int .i64 x1, .int .i64 x2]] g = some (True, .v (.agg [.int .i64 ((cosS (Iv.mk x1 x2))).lo, .int .i64 ((cosS (Iv.mk x1 x2))).hi]), []) := rfl

-- pis
def machin (t : Int) : Iv := subI (mulI (intI 16) (acotI 5 t)) (mulI (intI 4) (acotI 239 t))
def euler (t : Int) : Iv := addI (mulI (intI 4) (acotI 2 t)) (mulI (intI 4) (acotI 3 t))
def F_machin : FT
  | [.c (.p (.int .i64 t))], _ => some (True, .v (.agg [.int .i64 ((machin t)).lo, .int .i64 ((machin t)).hi]), [])
  | _, _ => none
theorem F_machin_eq {t : Int} {g : List PC} : F_machin [.c (.p (.int .i64 t))] g = some (True, .v (.agg [.int .i64 ((machin t)).lo, .int .i64 ((machin t)).hi]), []) := rfl
def F_euler : FT
  | [.c (.p (.int .i64 t))], _ => some (True, .v (.agg [.int .i64 ((euler t)).lo, .int .i64 ((euler t)).hi]), [])
  | _, _ => none
theorem F_euler_eq {t : Int} {g : List PC} : F_euler [.c (.p (.int .i64 t))] g = some (True, .v (.agg [.int .i64 ((euler t)).lo, .int .i64 ((euler t)).hi]), []) := rfl

end Go.Proofs.Ytmkpilmlgjnadaa.Eng
