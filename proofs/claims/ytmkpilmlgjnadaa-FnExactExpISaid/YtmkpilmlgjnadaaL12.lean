/- What functions of the program compute, and that the program computes it: part 12. -/
import Derived.Test.YtmkpilmlgjnadaaTab
import Derived.Test.YtmkpilmlgjnadaaEng15
import Derived.Laws.BitsLemmas
import Derived.Laws.Bits64
import Derived.Laws.Bits64b
import Derived.Lib.Mul64
import Derived.Lib.BitFns
import Derived.Laws.Externs
import Derived.Test.YtmkpilmlgjnadaaL1
namespace Go.Proofs.Ytmkpilmlgjnadaa.Eng
open Go Go.RowKit
set_option linter.unusedVariables false
set_option linter.unusedSimpArgs false
set_option maxRecDepth 100000
set_option maxHeartbeats 1000000
-- len64
theorem opd_str {env : Env} {s : ByteArray} : opd env (.const (.string s)) = some (.v (.c (.p (.str s)))) := rfl
def strB (h : Heap) : Option UInt8 → Option (Option SV × Heap)
  | some b => some (some (sp (.int .u8 b.toNat)), h)
  | none => none
theorem idxO_str {h : Heap} {s : ByteArray} {k : IntKind} {j : Int} : idxO h (some tdStr) (some (.c (.p (.str s)))) (some (.int k j)) = strB h (bif decide (0 ≤ j) then s[j.toNat]? else none) := by
  simp only [idxO, tdStr, Bool.true_and]
  cases decide (0 ≤ j) with
  | true => rfl
  | false => rfl
theorem strB_len {h : Heap} {s : ByteArray} {j : Int} (hs : (List.range 256).all (fun i => s[i]? == some (Nat.toUInt8 (Lib.bitLen i))) = true) (hj : 0 ≤ j ∧ j < 256) :
    strB h (bif decide (0 ≤ j) then s[j.toNat]? else none) = some (some (sp (.int .u8 (Lib.bitLen j.toNat))), h) := by
  rw [List.all_eq_true] at hs
  have h1 := hs j.toNat (List.mem_range.2 (by omega))
  have h2 := Lib.bitLen_le8' j hj.1 (by omega)
  simp only [beq_iff_eq] at h1
  rw [decide_eq_true hj.1, cond_true, h1]
  simp only [strB]
  congr 5
  show ((Nat.toUInt8 (Lib.bitLen j.toNat)).toNat : Int) = _
  have : (Nat.toUInt8 (Lib.bitLen j.toNat)).toNat = Lib.bitLen j.toNat := by
    rw [Nat.toUInt8, UInt8.toNat_ofNat']
    omega
  rw [this]
def F_len64 : FT
  | [.c (.p (.int .u64 x))], _ => some (inU x, .v (.c (.p (.int .i64 ((Lib.bitLen x.toNat : Int))))), [])
  | _, _ => none
theorem F_len64_eq {x : Int} {g : List PC} : F_len64 [.c (.p (.int .u64 x))] g = some (inU x, .v (.c (.p (.int .i64 ((Lib.bitLen x.toNat : Int))))), []) := rfl
def F_lead64 : FT
  | [.c (.p (.int .u64 x))], _ => some (inU x, .v (.c (.p (.int .i64 (64 - (Lib.bitLen x.toNat : Int))))), [])
  | _, _ => none
theorem F_lead64_eq {x : Int} {g : List PC} : F_lead64 [.c (.p (.int .u64 x))] g = some (inU x, .v (.c (.p (.int .i64 (64 - (Lib.bitLen x.toNat : Int))))), []) := rfl
theorem bl_div {x : Int} (h0 : 0 ≤ x) (k : Nat) : (x / ((2 ^ k : Nat) : Int)).toNat = x.toNat / 2 ^ k := by
  obtain ⟨m, rfl⟩ := natOf h0
  rw [← Int.natCast_ediv, Int.toNat_natCast, Int.toNat_natCast]
theorem len_fin {x y : Int} (n : Nat) (hx : inU x) (hy : y = x / ((2 ^ n : Nat) : Int)) (hn : n = 0 ∨ ((2 ^ n : Nat) : Int) ≤ x) (h256 : y < 256) (hn2 : n ≤ 56) :
    IntKind.i64.wrap ((n : Int) + IntKind.i64.wrap (Lib.bitLen (IntKind.u8.wrap y).toNat)) = (Lib.bitLen x.toNat : Int) := by
  have hu8 : IntKind.u8.wrap y = y % 256 := IntKind.wrap_u8 y
  unfold inU at hx
  have hy0 : 0 ≤ y := by rw [hy]; exact Int.ediv_nonneg hx.1 (Int.natCast_nonneg _)
  rw [hu8, Int.emod_eq_of_lt hy0 h256]
  have hb := Lib.bitLen_le8' y hy0 (by omega)
  rw [wrap_om (n := (Lib.bitLen y.toNat : Int)) (by omega) (by omega), wrap_om (by omega) (by omega)]
  rcases hn with rfl | hn
  · have : y = x := by rw [hy]; simp
    rw [this]; omega
  · have h1 := Lib.bitLen_shift n x.toNat (by omega) (by omega)
    rw [h1, ← bl_div hx.1 n, ← hy]
    omega

-- math/bits.Len64
theorem math_bits_Len64_len64_ok : Fn Try.prog 127 F_len64 := by
  refine fn_of_go (O := orc []) mixed T_ok (orc_sound _) Try.func127 (by kernel_rfl) rfl Try.ntmps127 (by kernel_rfl) Try.results127 ?_
  intro args g pre r new hF hpre
  unfold F_len64 at hF
  split at hF
  · rename_i x
    simp only [Option.some.injEq, Prod.mk.injEq] at hF
    obtain ⟨rfl, hr, rfl⟩ := hF
    refine ⟨by simp, ?_⟩
    simp (config := { maxSteps := 4000000, implicitDefEqProofs := false }) only [go_seq', go_reg, go_draw, rest_n, rest_r, rest_e, go_cond, go_block, go_ret_, go_skip, go_exit, blockK_n, blockK_r, blockK_e, ops_nil, ops_gate, ops_move, ops_assign, ops_pick, ops_box, ops_load, ops_store, ops_bin, ops_un, ops_conv, ops_fieldAddr, ops_extract, ops_call, ops_alloc, ops_build, st1_some, stH_some, reqO_some, cndO_some, putE_some, putE_none, tell_some, look_hit, look_miss, opd_tmp, opd_int, opd_bool, opd_func, opd_txt, up_v, up_tup, up_agg, up_p, up_clo, up_ptr, up_own, List.map_cons, List.map_nil, Nat.add_zero, opd_nsl, opd_nf, opdA_eq, opdP_eq, toA_v, toP_v, sp_eq, cells_p, cells_agg, cellsOf_p, cellsOf_agg, boxO_some, loadO_own, loadC_int, loadC_bool, loadC_pair, storeO_own, storeC_0, storeC_1, storeC_2, storeC_c, size_int, size_bool, size_pair, faddr_0, faddr_1, conv_int, un_not, un_neg, un_xor, ext_0, ext_1, ext_2, max_v, min_v, bin_add, bin_sub, bin_mul, bin_and, bin_or, bin_xor, bin_eql, bin_neq, bin_lss, bin_leq, bin_gtr, bin_geq, grd_b, grd_u, slotV_some, gateP_eq, gateO_some, asBoolS_b, slotOf_tmp, gslot_0, gslot_s, beq_t, beq_f, ↓cnd_t, ↓cnd_f, cnd_not, callR_eq, calleeO_fn, capsA_nil, capsA_cons, trArgs_nil, trArgs_agg, trArgs_p, trArgs_ptr, ptrT_some, trArgs_clo, cloT_some, consT_some, trPts_nil, trPts_cons, ptsT_some, consP_some, loadCell_own, loadCell_giv, calleeO_clo, tellO_some, argsA_nil, argsA_cons, consO_some, orc_cons, ends_r, ends_n, resAll_nil, resAll_cons, resV_tmp, resV_cell, resC_own, cellV_pair, cellV_int, startEnv, Option.map_some, List.length_nil, List.length_cons, List.nil_append, List.cons_append, List.getElem?_cons_zero, List.getElem?_cons_succ, List.set_cons_zero, List.set_cons_succ, Bool.not_true, Bool.not_false, reduceIte, Nat.reduceEqDiff, Nat.reduceAdd, Nat.reduceLT, partsP_cons, partsP_nil, conP_some, dr_nil, dr_move, dr_assign, dr_box, dr_load, dr_bin, dr_un, dr_conv, dr_fieldAddr, dr_extract, dr_call, dr_alloc, dr_index, dr_indexAddr, dr_build, dr_buildSlice, dr_makeFunc, dr_store, drawN_p, drawN_g, drawE_s, ifS_t, isW_nil, isW_cons, boxOf_own, boxOf_giv, otherB_s, otherB_n, spares_s, spares_n, ldAt_0, ldAt_s, pure_fieldAddr, pure_field, pure_indexAddr, pure_index, pure_load, pure_call, pure_store, pure_alloc, pure_box, pure_build, dr_field, dr_pick, ops_field, field_0, field_1, okA_nil, okA_cons, headW_nil, headW_cons, headH_nil, headH_cons, bindsA_nil, bindsA_cons, waitsA_nil, waitsA_cons, allWait_0, allWait_s, pure_0, pure_s, pure_move, pure_assign, pure_bin, pure_un, pure_conv, pure_ext, binds_data, binds_chain, binds_guard, binds_phase, binds_text, binds_gc, heapA_nil, heapA_cons, sameLen_self, sameLen_nil, sameLen_cons, sameLen_l, sameLen_set, entries_nil, entries_cons, entC_f, entC_t, entC_n, dstsOf_nil, dstsOf_some, dstsOf_no, valsEnv_nil, valsEnv_some, valsEnv_none, ops_index, ops_indexAddr, ops_buildSlice, blt_lit, beq_lit, Bool.or_true, Bool.true_or, Bool.or_false, Bool.false_or, Bool.and_true, Bool.true_and, Bool.and_self, cond_true, cond_false, List.append_nil, Iv.eta, Option.map_none, alloc_eq, alloc_pair', alloc_int, alloc_bool, build_eq, buildO_01, buildO_0, buildO_1, buildO_n, buildO_a, bsl_eq, idx_eq, idxO_l0, idxO_l1, iad_eq, binP_eql', binP_neq', binB_eql', binB_neq', eqT_pt, eqT_pf, eqT_bt, eqT_bf, decide_true, decide_false, seqK_n, seqK_r, seqK_e, loopK_n, loopK_r, loopK_e, reqs_true, Int.zero_sub, wrap_lit, wrapu_lit, Int.reduceLE, Int.reduceLT, Int.reduceAdd, Int.reduceSub, Int.reduceMul, Int.reduceNeg, Int.reduceEq, ops_makeFunc, makeFunc_eq, ptrsO_some, ptrsOf_nil, ptrsOf_cons, consQ_some, funcV_nil, funcV_cons, Option.bind_some, loadO_giv, bin_shr_u64, bin_shl_u64, bin_shr_i64, bin_shl_i64, and_m32', Int.reduceToNat, Int.reducePow, Int.reduceMod, Int.reduceDiv, wrap_u64s, true_or, or_true, true_and, and_true, callX_some, mX_none, mX_some, orc_m, orcM_m, orcMs_nil, orcMs_cons, tellM_some, growO_nil, growO_cons, stC_some, ops_max, ops_min, ops_len, ops_append, ops_makeSlice, ops_slice, dr_max, dr_min, dr_len, dr_append, dr_makeSlice, dr_slice, gl_eq, loadO_abs, drawF_s, cellK_some, drawC_t, drawC_f, isMC_fn, isMC_clo, Option.isSome_none, Option.isSome_some, fillA_nil, fillA_cons, flA_nil, flA_cons, fillT_nil, fillT_cons, bindsNone_nil, bindsNone_cons, frees_nil, frees_cons, free_alloc, free_box, free_bsl, free_move, free_assign, free_load, free_store, free_bin, free_un, free_conv, free_fieldAddr, free_field, free_ext, free_call, free_iad, free_idx, free_build, free_mkf, free_pick, free_mks, free_slice, spares_a, otherT_s, otherT_n, ble_lit, Nat.reduceLeDiff, Nat.reduceMul, Int.toNat_natCast, Int.cast_ofNat_Int, Int.natCast_zero, Int.natCast_one, partsA_nil, partsA_cons, conA_some, inOrd_nil, inOrd_cons, flatP_nil, flatP_cons, rowN_0, rowN_s, bslO_row, bslO_0, mks_eq, intO_int, slc_eq, optI_none, optI_some, optP_int, app_eq, len_row, len_sl, len_emp, lenO_some, row_row, row_ez, row_size, row_agg, pair_agg, int_agg, one_agg, bool_agg, str_agg, iadO_row, iadO_sl, endsM_r, endsM_n, List.isEmpty_nil, List.isEmpty_cons, List.replicate_zero, List.replicate_succ, T1, T2, T3, T4, T5, T6, T9, T10, T11, T12, T21, T22, T23, T24, T25, T26, T27, T28, T29, T30, T31, T32, T33, T34, T35, T36, T37, T38, T39, T40, T42, T43, T44, T45, T46, T47, T48, T50, T51, T52, T53, T54, T55, T56, T57, T58, T59, T61, T62, T63, T65, T67, T69, T70, T71, T72, T75, T77, T83, T84, T85, T86, T87, T89, T90, opd_str, idxO_str]
    repeat' (first | with_reducible refine cnd_split (fun hc => ?_) (fun hc => ?_) | with_reducible refine Reqs.mk ?_ ?_)
    all_goals (try simp only [decide_eq_true_eq, decide_eq_false_iff_not] at *)
    all_goals (rw [strB_len ?hs ?hj]; (case hs => decide +kernel); (case hj => rw [IntKind.wrap_u8]; omega))
    all_goals try simp (config := { maxSteps := 4000000, implicitDefEqProofs := false }) only [go_seq', go_reg, go_draw, rest_n, rest_r, rest_e, go_cond, go_block, go_ret_, go_skip, go_exit, blockK_n, blockK_r, blockK_e, ops_nil, ops_gate, ops_move, ops_assign, ops_pick, ops_box, ops_load, ops_store, ops_bin, ops_un, ops_conv, ops_fieldAddr, ops_extract, ops_call, ops_alloc, ops_build, st1_some, stH_some, reqO_some, cndO_some, putE_some, putE_none, tell_some, look_hit, look_miss, opd_tmp, opd_int, opd_bool, opd_func, opd_txt, up_v, up_tup, up_agg, up_p, up_clo, up_ptr, up_own, List.map_cons, List.map_nil, Nat.add_zero, opd_nsl, opd_nf, opdA_eq, opdP_eq, toA_v, toP_v, sp_eq, cells_p, cells_agg, cellsOf_p, cellsOf_agg, boxO_some, loadO_own, loadC_int, loadC_bool, loadC_pair, storeO_own, storeC_0, storeC_1, storeC_2, storeC_c, size_int, size_bool, size_pair, faddr_0, faddr_1, conv_int, un_not, un_neg, un_xor, ext_0, ext_1, ext_2, max_v, min_v, bin_add, bin_sub, bin_mul, bin_and, bin_or, bin_xor, bin_eql, bin_neq, bin_lss, bin_leq, bin_gtr, bin_geq, grd_b, grd_u, slotV_some, gateP_eq, gateO_some, asBoolS_b, slotOf_tmp, gslot_0, gslot_s, beq_t, beq_f, ↓cnd_t, ↓cnd_f, cnd_not, callR_eq, calleeO_fn, capsA_nil, capsA_cons, trArgs_nil, trArgs_agg, trArgs_p, trArgs_ptr, ptrT_some, trArgs_clo, cloT_some, consT_some, trPts_nil, trPts_cons, ptsT_some, consP_some, loadCell_own, loadCell_giv, calleeO_clo, tellO_some, argsA_nil, argsA_cons, consO_some, orc_cons, ends_r, ends_n, resAll_nil, resAll_cons, resV_tmp, resV_cell, resC_own, cellV_pair, cellV_int, startEnv, Option.map_some, List.length_nil, List.length_cons, List.nil_append, List.cons_append, List.getElem?_cons_zero, List.getElem?_cons_succ, List.set_cons_zero, List.set_cons_succ, Bool.not_true, Bool.not_false, reduceIte, Nat.reduceEqDiff, Nat.reduceAdd, Nat.reduceLT, partsP_cons, partsP_nil, conP_some, dr_nil, dr_move, dr_assign, dr_box, dr_load, dr_bin, dr_un, dr_conv, dr_fieldAddr, dr_extract, dr_call, dr_alloc, dr_index, dr_indexAddr, dr_build, dr_buildSlice, dr_makeFunc, dr_store, drawN_p, drawN_g, drawE_s, ifS_t, isW_nil, isW_cons, boxOf_own, boxOf_giv, otherB_s, otherB_n, spares_s, spares_n, ldAt_0, ldAt_s, pure_fieldAddr, pure_field, pure_indexAddr, pure_index, pure_load, pure_call, pure_store, pure_alloc, pure_box, pure_build, dr_field, dr_pick, ops_field, field_0, field_1, okA_nil, okA_cons, headW_nil, headW_cons, headH_nil, headH_cons, bindsA_nil, bindsA_cons, waitsA_nil, waitsA_cons, allWait_0, allWait_s, pure_0, pure_s, pure_move, pure_assign, pure_bin, pure_un, pure_conv, pure_ext, binds_data, binds_chain, binds_guard, binds_phase, binds_text, binds_gc, heapA_nil, heapA_cons, sameLen_self, sameLen_nil, sameLen_cons, sameLen_l, sameLen_set, entries_nil, entries_cons, entC_f, entC_t, entC_n, dstsOf_nil, dstsOf_some, dstsOf_no, valsEnv_nil, valsEnv_some, valsEnv_none, ops_index, ops_indexAddr, ops_buildSlice, blt_lit, beq_lit, Bool.or_true, Bool.true_or, Bool.or_false, Bool.false_or, Bool.and_true, Bool.true_and, Bool.and_self, cond_true, cond_false, List.append_nil, Iv.eta, Option.map_none, alloc_eq, alloc_pair', alloc_int, alloc_bool, build_eq, buildO_01, buildO_0, buildO_1, buildO_n, buildO_a, bsl_eq, idx_eq, idxO_l0, idxO_l1, iad_eq, binP_eql', binP_neq', binB_eql', binB_neq', eqT_pt, eqT_pf, eqT_bt, eqT_bf, decide_true, decide_false, seqK_n, seqK_r, seqK_e, loopK_n, loopK_r, loopK_e, reqs_true, Int.zero_sub, wrap_lit, wrapu_lit, Int.reduceLE, Int.reduceLT, Int.reduceAdd, Int.reduceSub, Int.reduceMul, Int.reduceNeg, Int.reduceEq, ops_makeFunc, makeFunc_eq, ptrsO_some, ptrsOf_nil, ptrsOf_cons, consQ_some, funcV_nil, funcV_cons, Option.bind_some, loadO_giv, bin_shr_u64, bin_shl_u64, bin_shr_i64, bin_shl_i64, and_m32', Int.reduceToNat, Int.reducePow, Int.reduceMod, Int.reduceDiv, wrap_u64s, true_or, or_true, true_and, and_true, callX_some, mX_none, mX_some, orc_m, orcM_m, orcMs_nil, orcMs_cons, tellM_some, growO_nil, growO_cons, stC_some, ops_max, ops_min, ops_len, ops_append, ops_makeSlice, ops_slice, dr_max, dr_min, dr_len, dr_append, dr_makeSlice, dr_slice, gl_eq, loadO_abs, drawF_s, cellK_some, drawC_t, drawC_f, isMC_fn, isMC_clo, Option.isSome_none, Option.isSome_some, fillA_nil, fillA_cons, flA_nil, flA_cons, fillT_nil, fillT_cons, bindsNone_nil, bindsNone_cons, frees_nil, frees_cons, free_alloc, free_box, free_bsl, free_move, free_assign, free_load, free_store, free_bin, free_un, free_conv, free_fieldAddr, free_field, free_ext, free_call, free_iad, free_idx, free_build, free_mkf, free_pick, free_mks, free_slice, spares_a, otherT_s, otherT_n, ble_lit, Nat.reduceLeDiff, Nat.reduceMul, Int.toNat_natCast, Int.cast_ofNat_Int, Int.natCast_zero, Int.natCast_one, partsA_nil, partsA_cons, conA_some, inOrd_nil, inOrd_cons, flatP_nil, flatP_cons, rowN_0, rowN_s, bslO_row, bslO_0, mks_eq, intO_int, slc_eq, optI_none, optI_some, optP_int, app_eq, len_row, len_sl, len_emp, lenO_some, row_row, row_ez, row_size, row_agg, pair_agg, int_agg, one_agg, bool_agg, str_agg, iadO_row, iadO_sl, endsM_r, endsM_n, List.isEmpty_nil, List.isEmpty_cons, List.replicate_zero, List.replicate_succ, T1, T2, T3, T4, T5, T6, T9, T10, T11, T12, T21, T22, T23, T24, T25, T26, T27, T28, T29, T30, T31, T32, T33, T34, T35, T36, T37, T38, T39, T40, T42, T43, T44, T45, T46, T47, T48, T50, T51, T52, T53, T54, T55, T56, T57, T58, T59, T61, T62, T63, T65, T67, T69, T70, T71, T72, T75, T77, T83, T84, T85, T86, T87, T89, T90, opd_str, idxO_str]
    all_goals (refine endS_i (t := ((Lib.bitLen x.toNat : Int))) hr ?_)
    all_goals (have hx := hpre; unfold inU at hx)
    · exact len_fin 56 hpre (by omega) (.inr (by omega)) (by omega) (by omega)
    · exact len_fin 48 hpre (by omega) (.inr (by omega)) (by omega) (by omega)
    · exact len_fin 40 hpre (by omega) (.inr (by omega)) (by omega) (by omega)
    · exact len_fin 32 hpre (by omega) (.inr (by omega)) (by omega) (by omega)
    · exact len_fin 24 hpre (by omega) (.inr (by omega)) (by omega) (by omega)
    · exact len_fin 16 hpre (by omega) (.inr (by omega)) (by omega) (by omega)
    · exact len_fin 8 hpre (by omega) (.inr (by omega)) (by omega) (by omega)
    · exact len_fin 0 hpre (by omega) (.inl rfl) (by omega) (by omega)
  · cases hF

-- math/bits.LeadingZeros64
theorem math_bits_LeadingZeros64_lead64_ok : Fn Try.prog 126 F_lead64 := by
  refine fn_of_go (O := orc [⟨127, F_len64, .inl math_bits_Len64_len64_ok⟩]) mixed T_ok (orc_sound _) Try.func126 (by kernel_rfl) rfl Try.ntmps126 (by kernel_rfl) Try.results126 ?_
  intro args g pre r new hF hpre
  unfold F_lead64 at hF
  split at hF
  · rename_i x
    simp only [Option.some.injEq, Prod.mk.injEq] at hF
    obtain ⟨rfl, hr, rfl⟩ := hF
    refine ⟨by simp, ?_⟩
    simp (config := { maxSteps := 4000000, implicitDefEqProofs := false }) only [F_len64_eq, go_seq', go_reg, go_draw, rest_n, rest_r, rest_e, go_cond, go_block, go_ret_, go_skip, go_exit, blockK_n, blockK_r, blockK_e, ops_nil, ops_gate, ops_move, ops_assign, ops_pick, ops_box, ops_load, ops_store, ops_bin, ops_un, ops_conv, ops_fieldAddr, ops_extract, ops_call, ops_alloc, ops_build, st1_some, stH_some, reqO_some, cndO_some, putE_some, putE_none, tell_some, look_hit, look_miss, opd_tmp, opd_int, opd_bool, opd_func, opd_txt, up_v, up_tup, up_agg, up_p, up_clo, up_ptr, up_own, List.map_cons, List.map_nil, Nat.add_zero, opd_nsl, opd_nf, opdA_eq, opdP_eq, toA_v, toP_v, sp_eq, cells_p, cells_agg, cellsOf_p, cellsOf_agg, boxO_some, loadO_own, loadC_int, loadC_bool, loadC_pair, storeO_own, storeC_0, storeC_1, storeC_2, storeC_c, size_int, size_bool, size_pair, faddr_0, faddr_1, conv_int, un_not, un_neg, un_xor, ext_0, ext_1, ext_2, max_v, min_v, bin_add, bin_sub, bin_mul, bin_and, bin_or, bin_xor, bin_eql, bin_neq, bin_lss, bin_leq, bin_gtr, bin_geq, grd_b, grd_u, slotV_some, gateP_eq, gateO_some, asBoolS_b, slotOf_tmp, gslot_0, gslot_s, beq_t, beq_f, ↓cnd_t, ↓cnd_f, cnd_not, callR_eq, calleeO_fn, capsA_nil, capsA_cons, trArgs_nil, trArgs_agg, trArgs_p, trArgs_ptr, ptrT_some, trArgs_clo, cloT_some, consT_some, trPts_nil, trPts_cons, ptsT_some, consP_some, loadCell_own, loadCell_giv, calleeO_clo, tellO_some, argsA_nil, argsA_cons, consO_some, orc_cons, ends_r, ends_n, resAll_nil, resAll_cons, resV_tmp, resV_cell, resC_own, cellV_pair, cellV_int, startEnv, Option.map_some, List.length_nil, List.length_cons, List.nil_append, List.cons_append, List.getElem?_cons_zero, List.getElem?_cons_succ, List.set_cons_zero, List.set_cons_succ, Bool.not_true, Bool.not_false, reduceIte, Nat.reduceEqDiff, Nat.reduceAdd, Nat.reduceLT, partsP_cons, partsP_nil, conP_some, dr_nil, dr_move, dr_assign, dr_box, dr_load, dr_bin, dr_un, dr_conv, dr_fieldAddr, dr_extract, dr_call, dr_alloc, dr_index, dr_indexAddr, dr_build, dr_buildSlice, dr_makeFunc, dr_store, drawN_p, drawN_g, drawE_s, ifS_t, isW_nil, isW_cons, boxOf_own, boxOf_giv, otherB_s, otherB_n, spares_s, spares_n, ldAt_0, ldAt_s, pure_fieldAddr, pure_field, pure_indexAddr, pure_index, pure_load, pure_call, pure_store, pure_alloc, pure_box, pure_build, dr_field, dr_pick, ops_field, field_0, field_1, okA_nil, okA_cons, headW_nil, headW_cons, headH_nil, headH_cons, bindsA_nil, bindsA_cons, waitsA_nil, waitsA_cons, allWait_0, allWait_s, pure_0, pure_s, pure_move, pure_assign, pure_bin, pure_un, pure_conv, pure_ext, binds_data, binds_chain, binds_guard, binds_phase, binds_text, binds_gc, heapA_nil, heapA_cons, sameLen_self, sameLen_nil, sameLen_cons, sameLen_l, sameLen_set, entries_nil, entries_cons, entC_f, entC_t, entC_n, dstsOf_nil, dstsOf_some, dstsOf_no, valsEnv_nil, valsEnv_some, valsEnv_none, ops_index, ops_indexAddr, ops_buildSlice, blt_lit, beq_lit, Bool.or_true, Bool.true_or, Bool.or_false, Bool.false_or, Bool.and_true, Bool.true_and, Bool.and_self, cond_true, cond_false, List.append_nil, Iv.eta, Option.map_none, alloc_eq, alloc_pair', alloc_int, alloc_bool, build_eq, buildO_01, buildO_0, buildO_1, buildO_n, buildO_a, bsl_eq, idx_eq, idxO_l0, idxO_l1, iad_eq, binP_eql', binP_neq', binB_eql', binB_neq', eqT_pt, eqT_pf, eqT_bt, eqT_bf, decide_true, decide_false, seqK_n, seqK_r, seqK_e, loopK_n, loopK_r, loopK_e, reqs_true, Int.zero_sub, wrap_lit, wrapu_lit, Int.reduceLE, Int.reduceLT, Int.reduceAdd, Int.reduceSub, Int.reduceMul, Int.reduceNeg, Int.reduceEq, ops_makeFunc, makeFunc_eq, ptrsO_some, ptrsOf_nil, ptrsOf_cons, consQ_some, funcV_nil, funcV_cons, Option.bind_some, loadO_giv, bin_shr_u64, bin_shl_u64, bin_shr_i64, bin_shl_i64, and_m32', Int.reduceToNat, Int.reducePow, Int.reduceMod, Int.reduceDiv, wrap_u64s, true_or, or_true, true_and, and_true, callX_some, mX_none, mX_some, orc_m, orcM_m, orcMs_nil, orcMs_cons, tellM_some, growO_nil, growO_cons, stC_some, ops_max, ops_min, ops_len, ops_append, ops_makeSlice, ops_slice, dr_max, dr_min, dr_len, dr_append, dr_makeSlice, dr_slice, gl_eq, loadO_abs, drawF_s, cellK_some, drawC_t, drawC_f, isMC_fn, isMC_clo, Option.isSome_none, Option.isSome_some, fillA_nil, fillA_cons, flA_nil, flA_cons, fillT_nil, fillT_cons, bindsNone_nil, bindsNone_cons, frees_nil, frees_cons, free_alloc, free_box, free_bsl, free_move, free_assign, free_load, free_store, free_bin, free_un, free_conv, free_fieldAddr, free_field, free_ext, free_call, free_iad, free_idx, free_build, free_mkf, free_pick, free_mks, free_slice, spares_a, otherT_s, otherT_n, ble_lit, Nat.reduceLeDiff, Nat.reduceMul, Int.toNat_natCast, Int.cast_ofNat_Int, Int.natCast_zero, Int.natCast_one, partsA_nil, partsA_cons, conA_some, inOrd_nil, inOrd_cons, flatP_nil, flatP_cons, rowN_0, rowN_s, bslO_row, bslO_0, mks_eq, intO_int, slc_eq, optI_none, optI_some, optP_int, app_eq, len_row, len_sl, len_emp, lenO_some, row_row, row_ez, row_size, row_agg, pair_agg, int_agg, one_agg, bool_agg, str_agg, iadO_row, iadO_sl, endsM_r, endsM_n, List.isEmpty_nil, List.isEmpty_cons, List.replicate_zero, List.replicate_succ, T1, T2, T3, T4, T5, T6, T9, T10, T11, T12, T21, T22, T23, T24, T25, T26, T27, T28, T29, T30, T31, T32, T33, T34, T35, T36, T37, T38, T39, T40, T42, T43, T44, T45, T46, T47, T48, T50, T51, T52, T53, T54, T55, T56, T57, T58, T59, T61, T62, T63, T65, T67, T69, T70, T71, T72, T75, T77, T83, T84, T85, T86, T87, T89, T90]
    repeat' (first | with_reducible refine cnd_split (fun hc => ?_) (fun hc => ?_) | with_reducible refine Reqs.mk ?_ ?_)
    · exact hpre
    · have h := Lib.bitLen_le x.toNat 64 (by omega) (by unfold inU at hpre; omega)
      refine endS_i (t := (64 - (Lib.bitLen x.toNat : Int))) hr ?_
      rw [wrap_om (by omega) (by omega)]
  · cases hF

end Go.Proofs.Ytmkpilmlgjnadaa.Eng
