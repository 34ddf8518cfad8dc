/- What functions of the program compute, and that the program computes it: part 4. -/
import Derived.Test.YtmkpilmlgjnadaaTab
import Derived.Test.YtmkpilmlgjnadaaEng15
import Derived.Laws.BitsLemmas
import Derived.Laws.Bits64
import Derived.Laws.Bits64b
import Derived.Lib.Mul64
import Derived.Lib.BitFns
import Derived.Laws.Externs
import Derived.Test.YtmkpilmlgjnadaaL1
import Derived.Test.YtmkpilmlgjnadaaL2
import Derived.Test.YtmkpilmlgjnadaaL3
namespace Go.Proofs.Ytmkpilmlgjnadaa.Eng
open Go Go.RowKit
set_option linter.unusedVariables false
set_option linter.unusedSimpArgs false
set_option maxRecDepth 100000
set_option maxHeartbeats 1000000
-- halfI
def halfI (a : Iv) : Iv := if okI a then ⟨a.lo / 2, (a.hi + 1) / 2⟩ else whole
def F_halfI : FT
  | [.agg [.int .i64 a1, .int .i64 a2]], _ => some (True, .v (.agg [.int .i64 ((halfI (Iv.mk a1 a2))).lo, .int .i64 ((halfI (Iv.mk a1 a2))).hi]), [])
  | _, _ => none
theorem F_halfI_eq {a1 : Int} {a2 : Int} {g : List PC} : F_halfI [.agg [.int .i64 a1, .int .i64 a2]] g = some (True, .v (.agg [.int .i64 ((halfI (Iv.mk a1 a2))).lo, .int .i64 ((halfI (Iv.mk a1 a2))).hi]), []) := rfl
def dblI (a : Iv) : Iv := addI a a
def F_dblI : FT
  | [.agg [.int .i64 a1, .int .i64 a2]], _ => some (True, .v (.agg [.int .i64 ((dblI (Iv.mk a1 a2))).lo, .int .i64 ((dblI (Iv.mk a1 a2))).hi]), [])
  | _, _ => none
theorem F_dblI_eq {a1 : Int} {a2 : Int} {g : List PC} : F_dblI [.agg [.int .i64 a1, .int .i64 a2]] g = some (True, .v (.agg [.int .i64 ((dblI (Iv.mk a1 a2))).lo, .int .i64 ((dblI (Iv.mk a1 a2))).hi]), []) := rfl
def hullI (a b : Iv) : Iv := if okI a && okI b then ⟨min a.lo b.lo, max a.hi b.hi⟩ else whole
def F_hullI : FT
  | [.agg [.int .i64 a1, .int .i64 a2], .agg [.int .i64 b1, .int .i64 b2]], _ => some (True, .v (.agg [.int .i64 ((hullI (Iv.mk a1 a2) (Iv.mk b1 b2))).lo, .int .i64 ((hullI (Iv.mk a1 a2) (Iv.mk b1 b2))).hi]), [])
  | _, _ => none
theorem F_hullI_eq {a1 : Int} {a2 : Int} {b1 : Int} {b2 : Int} {g : List PC} : F_hullI [.agg [.int .i64 a1, .int .i64 a2], .agg [.int .i64 b1, .int .i64 b2]] g = some (True, .v (.agg [.int .i64 ((hullI (Iv.mk a1 a2) (Iv.mk b1 b2))).lo, .int .i64 ((hullI (Iv.mk a1 a2) (Iv.mk b1 b2))).hi]), []) := rfl
def insideI (a b : Iv) : Bool := !okI b || (okI a && (decide (b.lo ≤ a.lo) && decide (a.hi ≤ b.hi)))
def F_insideI : FT
  | [.agg [.int .i64 a1, .int .i64 a2], .agg [.int .i64 b1, .int .i64 b2]], _ => some (True, .v (.c (.p (.bool (insideI (Iv.mk a1 a2) (Iv.mk b1 b2))))), [])
  | _, _ => none
theorem F_insideI_eq {a1 : Int} {a2 : Int} {b1 : Int} {b2 : Int} {g : List PC} : F_insideI [.agg [.int .i64 a1, .int .i64 a2], .agg [.int .i64 b1, .int .i64 b2]] g = some (True, .v (.c (.p (.bool (insideI (Iv.mk a1 a2) (Iv.mk b1 b2))))), []) := rfl
def meetI (a b : Iv) : Iv × Bool := if okI a then (if okI b then (if min a.hi b.hi < max a.lo b.lo then (⟨0, 0⟩, false) else (⟨max a.lo b.lo, min a.hi b.hi⟩, true)) else (a, true)) else if okI b then (b, true) else (whole, true)
def F_meetI : FT
  | [.agg [.int .i64 a1, .int .i64 a2], .agg [.int .i64 b1, .int .i64 b2]], _ => some (True, .tup [.agg [.int .i64 (((meetI (Iv.mk a1 a2) (Iv.mk b1 b2)).1)).lo, .int .i64 (((meetI (Iv.mk a1 a2) (Iv.mk b1 b2)).1)).hi], .c (.p (.bool ((meetI (Iv.mk a1 a2) (Iv.mk b1 b2)).2)))], [])
  | _, _ => none
theorem F_meetI_eq {a1 : Int} {a2 : Int} {b1 : Int} {b2 : Int} {g : List PC} : F_meetI [.agg [.int .i64 a1, .int .i64 a2], .agg [.int .i64 b1, .int .i64 b2]] g = some (True, .tup [.agg [.int .i64 (((meetI (Iv.mk a1 a2) (Iv.mk b1 b2)).1)).lo, .int .i64 (((meetI (Iv.mk a1 a2) (Iv.mk b1 b2)).1)).hi], .c (.p (.bool ((meetI (Iv.mk a1 a2) (Iv.mk b1 b2)).2)))], []) := rfl
def F_overI : FT
  | [.agg [.int .i64 a1, .int .i64 a2], .agg [.int .i64 b1, .int .i64 b2]], _ => some (True, .v (.c (.p (.bool ((meetI (Iv.mk a1 a2) (Iv.mk b1 b2)).2)))), [])
  | _, _ => none
theorem F_overI_eq {a1 : Int} {a2 : Int} {b1 : Int} {b2 : Int} {g : List PC} : F_overI [.agg [.int .i64 a1, .int .i64 a2], .agg [.int .i64 b1, .int .i64 b2]] g = some (True, .v (.c (.p (.bool ((meetI (Iv.mk a1 a2) (Iv.mk b1 b2)).2)))), []) := rfl
def intI (n : Int) : Iv := if within n (-268435456) 268435456 then mkI (n * 4294967296) (n * 4294967296) else whole
def F_intI : FT
  | [.c (.p (.int .i64 n))], _ => some (True, .v (.agg [.int .i64 ((intI n)).lo, .int .i64 ((intI n)).hi]), [])
  | _, _ => none
theorem F_intI_eq {n : Int} {g : List PC} : F_intI [.c (.p (.int .i64 n))] g = some (True, .v (.agg [.int .i64 ((intI n)).lo, .int .i64 ((intI n)).hi]), []) := rfl
def signI (a : Iv) : Int := if okI a then (if 0 < a.lo then 1 else if a.hi < 0 then -1 else 0) else 0
def F_signI : FT
  | [.agg [.int .i64 a1, .int .i64 a2]], _ => some (True, .v (.c (.p (.int .i64 (signI (Iv.mk a1 a2))))), [])
  | _, _ => none
theorem F_signI_eq {a1 : Int} {a2 : Int} {g : List PC} : F_signI [.agg [.int .i64 a1, .int .i64 a2]] g = some (True, .v (.c (.p (.int .i64 (signI (Iv.mk a1 a2))))), []) := rfl
theorem hull_ok {a b c d : Int} (h1 : okI ⟨a, b⟩ = true) (h2 : okI ⟨c, d⟩ = true) : okI ⟨min a c, max b d⟩ = true := by
  rw [okI_mk] at *; omega
theorem dbl_eq (a : Iv) : dblI a = if okI a then mkI (2 * a.lo) (2 * a.hi) else whole := by
  unfold dblI addI
  cases okI a with
  | false => rfl
  | true => simp only [Bool.and_self, if_true]; rw [← Int.two_mul, ← Int.two_mul]

-- impl.DoubleI
theorem impl_DoubleI_dblI_ok : Fn Try.prog 89 F_dblI := by
  refine fn_of_go (O := orc [⟨44, F_addI, .inl impl_AddI_addI_ok⟩]) mixed T_ok (orc_sound _) Try.func89 (by kernel_rfl) rfl Try.ntmps89 (by kernel_rfl) Try.results89 ?_
  intro args g pre r new hF hpre
  unfold F_dblI at hF
  split at hF
  · rename_i a1 a2
    simp only [Option.some.injEq, Prod.mk.injEq] at hF
    obtain ⟨rfl, hr, rfl⟩ := hF
    refine ⟨by simp, ?_⟩
    simp (config := { maxSteps := 4000000, implicitDefEqProofs := false }) only [F_addI_eq, go_seq', go_reg, go_draw, rest_n, rest_r, rest_e, go_cond, go_block, go_ret_, go_skip, go_exit, blockK_n, blockK_r, blockK_e, ops_nil, ops_gate, ops_move, ops_assign, ops_pick, ops_box, ops_load, ops_store, ops_bin, ops_un, ops_conv, ops_fieldAddr, ops_extract, ops_builtin, ops_call, ops_alloc, ops_build, st1_some, stH_some, stC_nil, reqO_some, cndO_some, putE_some, putE_none, tell_some, look_hit, look_miss, opd_tmp, opd_int, opd_bool, opd_func, opdA_eq, opdP_eq, toA_v, toP_v, sp_eq, cells_p, cells_agg, cellsOf_p, cellsOf_agg, boxO_some, loadO_own, loadC_int, loadC_bool, loadC_pair, storeO_own, storeC_0, storeC_1, storeC_2, storeC_c, size_int, size_bool, size_pair, faddr_0, faddr_1, conv_int, un_not, un_neg, un_xor, ext_0, ext_1, ext_2, max_v, min_v, bin_add, bin_sub, bin_mul, bin_and, bin_or, bin_xor, bin_eql, bin_neq, bin_lss, bin_leq, bin_gtr, bin_geq, grd_b, grd_u, slotV_some, gateP_eq, gateO_some, asBoolS_b, slotOf_tmp, gslot_0, gslot_s, beq_t, beq_f, ↓cnd_t, ↓cnd_f, cnd_not, callR_eq, calleeO_fn, argsO_eq, pairT_some, capsA_nil, capsA_cons, trArgs_nil, trArgs_agg, trArgs_p, trArgs_ptr, ptrT_some, trArgs_clo, cloT_some, consT_some, trPts_nil, trPts_cons, ptsT_some, consP_some, loadCell_own, loadCell_giv, calleeO_clo, tellO_some, argsA_nil, argsA_cons, consO_some, orc_cons, ends_r, ends_n, resAll_nil, resAll_cons, resV_tmp, resV_cell, resC_own, cellV_pair, cellV_int, startEnv, Option.map_some, List.length_nil, List.length_cons, List.nil_append, List.cons_append, List.getElem?_cons_zero, List.getElem?_cons_succ, List.set_cons_zero, List.set_cons_succ, Bool.not_true, Bool.not_false, reduceIte, Nat.reduceEqDiff, Nat.reduceAdd, Nat.reduceLT, partsP_cons, partsP_nil, conP_some, T5, T9, T2, T3, T52, T38, T4, T23, T27, T54, dr_nil, dr_move, dr_assign, dr_box, dr_load, dr_bin, dr_un, dr_conv, dr_fieldAddr, dr_extract, dr_builtin, dr_call, dr_alloc, dr_index, dr_indexAddr, dr_build, dr_buildSlice, dr_makeFunc, dr_store, drawN_p, drawN_g, drawE_s, tail_nil, tail_as, tailV_some, ifS_t, bindsA_nil, bindsA_cons, waitsA_nil, waitsA_cons, allWait_0, allWait_s, pure_0, pure_s, pure_move, pure_assign, pure_bin, pure_un, pure_conv, pure_ext, binds_data, binds_chain, binds_guard, binds_phase, binds_text, binds_gc, heapA_none, heapA_some, sameLen_self, sameLen_nil, sameLen_cons, sameLen_l, sameLen_set, entries_nil, entries_cons, entC_f, entC_t, entC_n, dstsOf_nil, dstsOf_some, dstsOf_no, valsEnv_nil, valsEnv_some, valsEnv_none, endHeap_n, endHeap_m, ops_index, ops_indexAddr, ops_buildSlice, blt_lit, beq_lit, Bool.or_true, Bool.true_or, Bool.or_false, Bool.false_or, Bool.and_true, Bool.true_and, Bool.and_self, cond_true, cond_false, List.append_nil, Iv.eta, Option.map_none, T44, T58, alloc_eq, alloc_pair', alloc_int, alloc_bool, build_eq, buildO_01, buildO_0, buildO_1, buildO_n, buildO_a, bsl_eq, bslO_2, idx_eq, idxO_l0, idxO_l1, iad_eq, iadO_l0, iadO_l1, binP_eql', binP_neq', binB_eql', binB_neq', eqT_pt, eqT_pf, eqT_bt, eqT_bf, decide_true, decide_false, seqK_n, seqK_r, seqK_e, loopK_n, loopK_r, loopK_e, reqs_true, Int.zero_sub, wrap_lit, wrapu_lit, Int.reduceLE, Int.reduceLT, Int.reduceAdd, Int.reduceSub, Int.reduceMul, Int.reduceNeg, Int.reduceEq, ops_makeFunc, makeFunc_eq, ptrsO_some, ptrsOf_nil, ptrsOf_cons, consQ_some, funcV_nil, funcV_cons, Option.bind_some, loadO_giv, bin_shr_u64, bin_shl_u64, bin_shr_i64, bin_shl_i64, and_m32', Int.reduceToNat, Int.reducePow, Int.reduceMod, Int.reduceDiv, wrap_u64s, true_or, or_true, true_and, and_true]
    repeat' (first | with_reducible refine cnd_split (fun hc => ?_) (fun hc => ?_) | with_reducible refine Reqs.mk ?_ ?_)
    all_goals (first | trivial | (refine endS_v (t := (dblI (Iv.mk a1 a2))) hr ?_; try simp_all [dblI]))
    all_goals (try simp only [okI_mk, within_iff] at *)
    all_goals (try simp (disch := omega) only [wrap_om, wrapu_om, mkI_lin])
    all_goals (try simp_all [dblI])
    all_goals (try omega)
  · cases hF

-- integer
theorem intI_edge {n : Int} (h : within n (-268435455) 268435455 = false) : intI n = whole := by
  unfold intI
  split
  · rename_i hw
    rw [within_iff] at hw
    have : n = 268435456 ∨ n = -268435456 := by
      cases hq : within n (-268435455) 268435455 with
      | true => rw [hq] at h; cases h
      | false =>
        have : ¬ (-268435455 ≤ n ∧ n ≤ 268435455) := fun hh => by rw [within_iff.2 hh] at hq; cases hq
        omega
    rcases this with rfl | rfl <;> rfl
  · rfl
theorem intI_in {n : Int} (h : within n (-268435455) 268435455 = true) : IntKind.i64.wrap (n * 4294967296) = n * 4294967296 ∧ intI n = mkI (n * 4294967296) (n * 4294967296) := by
  rw [within_iff] at h
  refine ⟨wrap_om (by omega) (by omega), ?_⟩
  unfold intI
  rw [if_pos (by rw [within_iff]; omega)]

-- impl.Integer
theorem impl_Integer_intI_ok : Fn Try.prog 43 F_intI := by
  refine fn_of_go (O := orc [⟨39, F_whole, .inl impl_Whole_whole_ok⟩, ⟨78, F_within, .inl impl_within_within_ok⟩, ⟨81, F_bounded, .inl impl_bounded_bounded_ok⟩]) mixed T_ok (orc_sound _) Try.func43 (by kernel_rfl) rfl Try.ntmps43 (by kernel_rfl) Try.results43 ?_
  intro args g pre r new hF hpre
  unfold F_intI at hF
  split at hF
  · rename_i n
    simp only [Option.some.injEq, Prod.mk.injEq] at hF
    obtain ⟨rfl, hr, rfl⟩ := hF
    refine ⟨by simp, ?_⟩
    simp (config := { maxSteps := 4000000, implicitDefEqProofs := false }) only [F_bounded_eq, F_whole_eq, F_within_eq, go_seq', go_reg, go_draw, rest_n, rest_r, rest_e, go_cond, go_block, go_ret_, go_skip, go_exit, blockK_n, blockK_r, blockK_e, ops_nil, ops_gate, ops_move, ops_assign, ops_pick, ops_box, ops_load, ops_store, ops_bin, ops_un, ops_conv, ops_fieldAddr, ops_extract, ops_builtin, ops_call, ops_alloc, ops_build, st1_some, stH_some, stC_nil, reqO_some, cndO_some, putE_some, putE_none, tell_some, look_hit, look_miss, opd_tmp, opd_int, opd_bool, opd_func, opdA_eq, opdP_eq, toA_v, toP_v, sp_eq, cells_p, cells_agg, cellsOf_p, cellsOf_agg, boxO_some, loadO_own, loadC_int, loadC_bool, loadC_pair, storeO_own, storeC_0, storeC_1, storeC_2, storeC_c, size_int, size_bool, size_pair, faddr_0, faddr_1, conv_int, un_not, un_neg, un_xor, ext_0, ext_1, ext_2, max_v, min_v, bin_add, bin_sub, bin_mul, bin_and, bin_or, bin_xor, bin_eql, bin_neq, bin_lss, bin_leq, bin_gtr, bin_geq, grd_b, grd_u, slotV_some, gateP_eq, gateO_some, asBoolS_b, slotOf_tmp, gslot_0, gslot_s, beq_t, beq_f, ↓cnd_t, ↓cnd_f, cnd_not, callR_eq, calleeO_fn, argsO_eq, pairT_some, capsA_nil, capsA_cons, trArgs_nil, trArgs_agg, trArgs_p, trArgs_ptr, ptrT_some, trArgs_clo, cloT_some, consT_some, trPts_nil, trPts_cons, ptsT_some, consP_some, loadCell_own, loadCell_giv, calleeO_clo, tellO_some, argsA_nil, argsA_cons, consO_some, orc_cons, ends_r, ends_n, resAll_nil, resAll_cons, resV_tmp, resV_cell, resC_own, cellV_pair, cellV_int, startEnv, Option.map_some, List.length_nil, List.length_cons, List.nil_append, List.cons_append, List.getElem?_cons_zero, List.getElem?_cons_succ, List.set_cons_zero, List.set_cons_succ, Bool.not_true, Bool.not_false, reduceIte, Nat.reduceEqDiff, Nat.reduceAdd, Nat.reduceLT, partsP_cons, partsP_nil, conP_some, T5, T9, T2, T3, T52, T38, T4, T23, T27, T54, dr_nil, dr_move, dr_assign, dr_box, dr_load, dr_bin, dr_un, dr_conv, dr_fieldAddr, dr_extract, dr_builtin, dr_call, dr_alloc, dr_index, dr_indexAddr, dr_build, dr_buildSlice, dr_makeFunc, dr_store, drawN_p, drawN_g, drawE_s, tail_nil, tail_as, tailV_some, ifS_t, bindsA_nil, bindsA_cons, waitsA_nil, waitsA_cons, allWait_0, allWait_s, pure_0, pure_s, pure_move, pure_assign, pure_bin, pure_un, pure_conv, pure_ext, binds_data, binds_chain, binds_guard, binds_phase, binds_text, binds_gc, heapA_none, heapA_some, sameLen_self, sameLen_nil, sameLen_cons, sameLen_l, sameLen_set, entries_nil, entries_cons, entC_f, entC_t, entC_n, dstsOf_nil, dstsOf_some, dstsOf_no, valsEnv_nil, valsEnv_some, valsEnv_none, endHeap_n, endHeap_m, ops_index, ops_indexAddr, ops_buildSlice, blt_lit, beq_lit, Bool.or_true, Bool.true_or, Bool.or_false, Bool.false_or, Bool.and_true, Bool.true_and, Bool.and_self, cond_true, cond_false, List.append_nil, Iv.eta, Option.map_none, T44, T58, alloc_eq, alloc_pair', alloc_int, alloc_bool, build_eq, buildO_01, buildO_0, buildO_1, buildO_n, buildO_a, bsl_eq, bslO_2, idx_eq, idxO_l0, idxO_l1, iad_eq, iadO_l0, iadO_l1, binP_eql', binP_neq', binB_eql', binB_neq', eqT_pt, eqT_pf, eqT_bt, eqT_bf, decide_true, decide_false, seqK_n, seqK_r, seqK_e, loopK_n, loopK_r, loopK_e, reqs_true, Int.zero_sub, wrap_lit, wrapu_lit, Int.reduceLE, Int.reduceLT, Int.reduceAdd, Int.reduceSub, Int.reduceMul, Int.reduceNeg, Int.reduceEq, ops_makeFunc, makeFunc_eq, ptrsO_some, ptrsOf_nil, ptrsOf_cons, consQ_some, funcV_nil, funcV_cons, Option.bind_some, loadO_giv, bin_shr_u64, bin_shl_u64, bin_shr_i64, bin_shl_i64, and_m32', Int.reduceToNat, Int.reducePow, Int.reduceMod, Int.reduceDiv, wrap_u64s, true_or, or_true, true_and, and_true]
    repeat' (first | with_reducible refine cnd_split (fun hc => ?_) (fun hc => ?_) | with_reducible refine Reqs.mk ?_ ?_)
    all_goals (refine endS_v (t := (intI n)) hr ?_)
    all_goals first
      | (have h := within_iff.1 (by assumption : within n (-268435456) 268435456 = true)
         have e : IntKind.i64.wrap (n * 4294967296) = n * 4294967296 := wrap_om (by omega) (by omega)
         rw [e, intI, if_pos (by assumption)])
      | simp_all [intI]
  · cases hF

-- spec.Integer
theorem spec_Integer_intI_ok : Fn Try.prog 35 F_intI := by
  refine fn_of_go (O := orc [⟨27, F_whole, .inl spec_l04Whole_whole_ok⟩, ⟨62, F_within, .inl spec_l00In_within_ok⟩, ⟨68, F_mkI, .inl spec_l04Make_mkI_ok⟩]) mixed T_ok (orc_sound _) Try.func35 (by kernel_rfl) rfl Try.ntmps35 (by kernel_rfl) Try.results35 ?_
  intro args g pre r new hF hpre
  unfold F_intI at hF
  split at hF
  · rename_i n
    simp only [Option.some.injEq, Prod.mk.injEq] at hF
    obtain ⟨rfl, hr, rfl⟩ := hF
    refine ⟨by simp, ?_⟩
    simp (config := { maxSteps := 4000000, implicitDefEqProofs := false }) only [F_mkI_eq, F_whole_eq, F_within_eq, go_seq', go_reg, go_draw, rest_n, rest_r, rest_e, go_cond, go_block, go_ret_, go_skip, go_exit, blockK_n, blockK_r, blockK_e, ops_nil, ops_gate, ops_move, ops_assign, ops_pick, ops_box, ops_load, ops_store, ops_bin, ops_un, ops_conv, ops_fieldAddr, ops_extract, ops_builtin, ops_call, ops_alloc, ops_build, st1_some, stH_some, stC_nil, reqO_some, cndO_some, putE_some, putE_none, tell_some, look_hit, look_miss, opd_tmp, opd_int, opd_bool, opd_func, opdA_eq, opdP_eq, toA_v, toP_v, sp_eq, cells_p, cells_agg, cellsOf_p, cellsOf_agg, boxO_some, loadO_own, loadC_int, loadC_bool, loadC_pair, storeO_own, storeC_0, storeC_1, storeC_2, storeC_c, size_int, size_bool, size_pair, faddr_0, faddr_1, conv_int, un_not, un_neg, un_xor, ext_0, ext_1, ext_2, max_v, min_v, bin_add, bin_sub, bin_mul, bin_and, bin_or, bin_xor, bin_eql, bin_neq, bin_lss, bin_leq, bin_gtr, bin_geq, grd_b, grd_u, slotV_some, gateP_eq, gateO_some, asBoolS_b, slotOf_tmp, gslot_0, gslot_s, beq_t, beq_f, ↓cnd_t, ↓cnd_f, cnd_not, callR_eq, calleeO_fn, argsO_eq, pairT_some, capsA_nil, capsA_cons, trArgs_nil, trArgs_agg, trArgs_p, trArgs_ptr, ptrT_some, trArgs_clo, cloT_some, consT_some, trPts_nil, trPts_cons, ptsT_some, consP_some, loadCell_own, loadCell_giv, calleeO_clo, tellO_some, argsA_nil, argsA_cons, consO_some, orc_cons, ends_r, ends_n, resAll_nil, resAll_cons, resV_tmp, resV_cell, resC_own, cellV_pair, cellV_int, startEnv, Option.map_some, List.length_nil, List.length_cons, List.nil_append, List.cons_append, List.getElem?_cons_zero, List.getElem?_cons_succ, List.set_cons_zero, List.set_cons_succ, Bool.not_true, Bool.not_false, reduceIte, Nat.reduceEqDiff, Nat.reduceAdd, Nat.reduceLT, partsP_cons, partsP_nil, conP_some, T5, T9, T2, T3, T52, T38, T4, T23, T27, T54, dr_nil, dr_move, dr_assign, dr_box, dr_load, dr_bin, dr_un, dr_conv, dr_fieldAddr, dr_extract, dr_builtin, dr_call, dr_alloc, dr_index, dr_indexAddr, dr_build, dr_buildSlice, dr_makeFunc, dr_store, drawN_p, drawN_g, drawE_s, tail_nil, tail_as, tailV_some, ifS_t, bindsA_nil, bindsA_cons, waitsA_nil, waitsA_cons, allWait_0, allWait_s, pure_0, pure_s, pure_move, pure_assign, pure_bin, pure_un, pure_conv, pure_ext, binds_data, binds_chain, binds_guard, binds_phase, binds_text, binds_gc, heapA_none, heapA_some, sameLen_self, sameLen_nil, sameLen_cons, sameLen_l, sameLen_set, entries_nil, entries_cons, entC_f, entC_t, entC_n, dstsOf_nil, dstsOf_some, dstsOf_no, valsEnv_nil, valsEnv_some, valsEnv_none, endHeap_n, endHeap_m, ops_index, ops_indexAddr, ops_buildSlice, blt_lit, beq_lit, Bool.or_true, Bool.true_or, Bool.or_false, Bool.false_or, Bool.and_true, Bool.true_and, Bool.and_self, cond_true, cond_false, List.append_nil, Iv.eta, Option.map_none, T44, T58, alloc_eq, alloc_pair', alloc_int, alloc_bool, build_eq, buildO_01, buildO_0, buildO_1, buildO_n, buildO_a, bsl_eq, bslO_2, idx_eq, idxO_l0, idxO_l1, iad_eq, iadO_l0, iadO_l1, binP_eql', binP_neq', binB_eql', binB_neq', eqT_pt, eqT_pf, eqT_bt, eqT_bf, decide_true, decide_false, seqK_n, seqK_r, seqK_e, loopK_n, loopK_r, loopK_e, reqs_true, Int.zero_sub, wrap_lit, wrapu_lit, Int.reduceLE, Int.reduceLT, Int.reduceAdd, Int.reduceSub, Int.reduceMul, Int.reduceNeg, Int.reduceEq, ops_makeFunc, makeFunc_eq, ptrsO_some, ptrsOf_nil, ptrsOf_cons, consQ_some, funcV_nil, funcV_cons, Option.bind_some, loadO_giv, bin_shr_u64, bin_shl_u64, bin_shr_i64, bin_shl_i64, and_m32', Int.reduceToNat, Int.reducePow, Int.reduceMod, Int.reduceDiv, wrap_u64s, true_or, or_true, true_and, and_true]
    repeat' (first | with_reducible refine cnd_split (fun hc => ?_) (fun hc => ?_) | with_reducible refine Reqs.mk ?_ ?_)
    all_goals (refine endS_v (t := (intI n)) hr ?_)
    all_goals first
      | (have h := intI_in (by assumption); rw [h.1, h.2])
      | rw [intI_edge (by assumption)]
  · cases hF

end Go.Proofs.Ytmkpilmlgjnadaa.Eng
