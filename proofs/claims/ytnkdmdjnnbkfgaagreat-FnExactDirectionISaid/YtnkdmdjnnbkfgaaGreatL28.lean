/- What functions of the program compute, and that the program computes it: part 28. -/
import Derived.Test.YtnkdmdjnnbkfgaaGreatTab
import Derived.Test.YtnkdmdjnnbkfgaaGreatEng15
import Derived.Laws.BitsLemmas
import Derived.Laws.Bits64
import Derived.Laws.Bits64b
import Derived.Lib.Mul64
import Derived.Lib.BitFns
import Derived.Laws.Externs
import Derived.Test.YtnkdmdjnnbkfgaaGreatL1
import Derived.Test.YtnkdmdjnnbkfgaaGreatL2
import Derived.Test.YtnkdmdjnnbkfgaaGreatL3
import Derived.Test.YtnkdmdjnnbkfgaaGreatL4
import Derived.Test.YtnkdmdjnnbkfgaaGreatL12
import Derived.Test.YtnkdmdjnnbkfgaaGreatL18
import Derived.Test.YtnkdmdjnnbkfgaaGreatL19
import Derived.Test.YtnkdmdjnnbkfgaaGreatL25
import Derived.Test.YtnkdmdjnnbkfgaaGreatL26
namespace Go.Proofs.YtnkdmdjnnbkfgaaGreat.Eng
open Go Go.RowKit
set_option linter.unusedVariables false
set_option linter.unusedSimpArgs false
set_option maxRecDepth 100000
set_option maxHeartbeats 1000000
-- directions
def dirA (y x : Int) : Iv := if openOk y = true ∧ openOk x = true ∧ ¬ (y = 0 ∧ x = 0) then (if absZ x < absZ y then subI (turnI (if y < 0 then -1 else 1)) (atanI (divI ⟨x, x⟩ ⟨y, y⟩)) else if 0 < x then atanI (divI ⟨y, y⟩ ⟨x, x⟩) else if y < 0 then addI (atanI (divI ⟨y, y⟩ ⟨x, x⟩)) (turnI (-2)) else addI (atanI (divI ⟨y, y⟩ ⟨x, x⟩)) (turnI 2)) else whole
def F_dirA : FT
  | [.c (.p (.int .i64 y)), .c (.p (.int .i64 x))], _ => some (True, .v (.agg [.int .i64 ((dirA y x)).lo, .int .i64 ((dirA y x)).hi]), [])
  | _, _ => none
theorem F_dirA_eq {y : Int} {x : Int} {g : List PC} : F_dirA [.c (.p (.int .i64 y)), .c (.p (.int .i64 x))] g = some (True, .v (.agg [.int .i64 ((dirA y x)).lo, .int .i64 ((dirA y x)).hi]), []) := rfl
theorem dirA_w {y x : Int} (h : ¬ (openOk y = true ∧ openOk x = true ∧ ¬ (y = 0 ∧ x = 0))) : dirA y x = whole := by
  unfold dirA
  rw [if_neg h]
theorem dirA_1 {y x : Int} (h : openOk y = true ∧ openOk x = true ∧ ¬ (y = 0 ∧ x = 0)) (ha : absZ x < absZ y) (hy : y < 0) : dirA y x = subI (turnI (-1)) (atanI (divI ⟨x, x⟩ ⟨y, y⟩)) := by
  unfold dirA
  rw [if_pos h, if_pos ha, if_pos hy]
theorem dirA_2 {y x : Int} (h : openOk y = true ∧ openOk x = true ∧ ¬ (y = 0 ∧ x = 0)) (ha : absZ x < absZ y) (hy : ¬ y < 0) : dirA y x = subI (turnI 1) (atanI (divI ⟨x, x⟩ ⟨y, y⟩)) := by
  unfold dirA
  rw [if_pos h, if_pos ha, if_neg hy]
theorem dirA_3 {y x : Int} (h : openOk y = true ∧ openOk x = true ∧ ¬ (y = 0 ∧ x = 0)) (ha : ¬ absZ x < absZ y) (hx : 0 < x) : dirA y x = atanI (divI ⟨y, y⟩ ⟨x, x⟩) := by
  unfold dirA
  rw [if_pos h, if_neg ha, if_pos hx]
theorem dirA_4 {y x : Int} (h : openOk y = true ∧ openOk x = true ∧ ¬ (y = 0 ∧ x = 0)) (ha : ¬ absZ x < absZ y) (hx : ¬ 0 < x) (hy : y < 0) : dirA y x = addI (atanI (divI ⟨y, y⟩ ⟨x, x⟩)) (turnI (-2)) := by
  unfold dirA
  rw [if_pos h, if_neg ha, if_neg hx, if_pos hy]
theorem dirA_5 {y x : Int} (h : openOk y = true ∧ openOk x = true ∧ ¬ (y = 0 ∧ x = 0)) (ha : ¬ absZ x < absZ y) (hx : ¬ 0 < x) (hy : ¬ y < 0) : dirA y x = addI (atanI (divI ⟨y, y⟩ ⟨x, x⟩)) (turnI 2) := by
  unfold dirA
  rw [if_pos h, if_neg ha, if_neg hx, if_neg hy]
theorem abs_lt_iff {y x : Int} : absZ x < absZ y ↔ x < absZ y ∧ -x < absZ y := by
  unfold absZ
  repeat' split
  all_goals omega
def dirI (y x : Iv) : Iv := if okI y = true ∧ okI x = true ∧ ¬ ((okI y = false ∨ within 0 y.lo y.hi = true) ∧ (okI x = false ∨ within 0 x.lo x.hi = true)) ∧ ¬ (x.lo < 0 ∧ y.lo < 0 ∧ 0 ≤ y.hi) then hullI (hullI (dirA y.lo x.lo) (dirA y.lo x.hi)) (hullI (dirA y.hi x.lo) (dirA y.hi x.hi)) else whole
def F_dirI : FT
  | [.agg [.int .i64 y1, .int .i64 y2], .agg [.int .i64 x1, .int .i64 x2]], _ => some (True, .v (.agg [.int .i64 ((dirI (Iv.mk y1 y2) (Iv.mk x1 x2))).lo, .int .i64 ((dirI (Iv.mk y1 y2) (Iv.mk x1 x2))).hi]), [])
  | _, _ => none
theorem F_dirI_eq {y1 : Int} {y2 : Int} {x1 : Int} {x2 : Int} {g : List PC} : F_dirI [.agg [.int .i64 y1, .int .i64 y2], .agg [.int .i64 x1, .int .i64 x2]] g = some (True, .v (.agg [.int .i64 ((dirI (Iv.mk y1 y2) (Iv.mk x1 x2))).lo, .int .i64 ((dirI (Iv.mk y1 y2) (Iv.mk x1 x2))).hi]), []) := rfl

-- impl.DirectionAt
theorem impl_DirectionAt_dirA_ok : Fn Tryz.prog 17 F_dirA := by
  refine fn_of_go (O := orc [⟨14, F_atanI, .inl impl_AtanI_atanI_ok⟩, ⟨47, F_openOk, .inl impl_isOpen_openOk_ok⟩, ⟨48, F_whole, .inl impl_Whole_whole_ok⟩, ⟨49, F_absZ, .inl impl_abs_absZ_ok⟩, ⟨50, F_turnI, .inl impl_TurnI_turnI_ok⟩, ⟨51, F_subI, .inl impl_SubI_subI_ok⟩, ⟨52, F_divI, .inl impl_DivI_divI_ok⟩, ⟨53, F_atI, .inl impl_at_atI_ok⟩, ⟨54, F_addI, .inl impl_AddI_addI_ok⟩]) mixed T_ok (orc_sound _) Tryz.func17 (by kernel_rfl) rfl Tryz.ntmps17 (by kernel_rfl) Tryz.results17 ?_
  intro args g pre r new hF hpre
  unfold F_dirA at hF
  split at hF
  · rename_i y x
    simp only [Option.some.injEq, Prod.mk.injEq] at hF
    obtain ⟨rfl, hr, rfl⟩ := hF
    refine ⟨by simp, ?_⟩
    simp (config := { maxSteps := 4000000, implicitDefEqProofs := false }) only [F_absZ_eq, F_addI_eq, F_atI_eq, F_atanI_eq, F_divI_eq, F_openOk_eq, F_subI_eq, F_turnI_eq, F_whole_eq, go_seq', go_reg, go_draw, rest_n, rest_r, rest_e, go_cond, go_block, go_ret_, go_skip, go_exit, blockK_n, blockK_r, blockK_e, ops_nil, ops_gate, ops_move, ops_assign, ops_pick, ops_box, ops_load, ops_store, ops_bin, ops_un, ops_conv, ops_fieldAddr, ops_extract, ops_builtin, ops_call, ops_alloc, ops_build, st1_some, stH_some, stC_nil, reqO_some, cndO_some, putE_some, putE_none, tell_some, look_hit, look_miss, opd_tmp, opd_int, opd_bool, opd_func, opdA_eq, opdP_eq, toA_v, toP_v, sp_eq, cells_p, cells_agg, cellsOf_p, cellsOf_agg, boxO_some, loadO_own, loadC_int, loadC_bool, loadC_pair, storeO_own, storeC_0, storeC_1, storeC_2, storeC_c, size_int, size_bool, size_pair, faddr_0, faddr_1, conv_int, un_not, un_neg, un_xor, ext_0, ext_1, ext_2, max_v, min_v, bin_add, bin_sub, bin_mul, bin_and, bin_or, bin_xor, bin_eql, bin_neq, bin_lss, bin_leq, bin_gtr, bin_geq, grd_b, grd_u, slotV_some, gateP_eq, gateO_some, asBoolS_b, slotOf_tmp, gslot_0, gslot_s, beq_t, beq_f, ↓cnd_t, ↓cnd_f, cnd_not, callR_eq, calleeO_fn, argsO_eq, pairT_some, capsA_nil, capsA_cons, trArgs_nil, trArgs_agg, trArgs_p, trArgs_ptr, ptrT_some, trArgs_clo, cloT_some, consT_some, trPts_nil, trPts_cons, ptsT_some, consP_some, loadCell_own, loadCell_giv, calleeO_clo, tellO_some, argsA_nil, argsA_cons, consO_some, orc_cons, ends_r, ends_n, resAll_nil, resAll_cons, resV_tmp, resV_cell, resC_own, cellV_pair, cellV_int, startEnv, Option.map_some, List.length_nil, List.length_cons, List.nil_append, List.cons_append, List.getElem?_cons_zero, List.getElem?_cons_succ, List.set_cons_zero, List.set_cons_succ, Bool.not_true, Bool.not_false, reduceIte, Nat.reduceEqDiff, Nat.reduceAdd, Nat.reduceLT, partsP_cons, partsP_nil, conP_some, T5, T9, T2, T3, T51, T67, T4, T24, T23, T53, dr_nil, dr_move, dr_assign, dr_box, dr_load, dr_bin, dr_un, dr_conv, dr_fieldAddr, dr_extract, dr_builtin, dr_call, dr_alloc, dr_index, dr_indexAddr, dr_build, dr_buildSlice, dr_makeFunc, dr_store, drawN_p, drawN_g, drawE_s, ifS_t, isW_nil, isW_cons, boxOf_own, boxOf_giv, otherB_s, otherB_n, spares_s, spares_n, ldAt_0, ldAt_s, pure_fieldAddr, pure_field, pure_indexAddr, pure_index, pure_load, pure_call, pure_store, pure_alloc, pure_box, pure_build, dr_field, dr_pick, ops_field, field_0, field_1, okA_nil, okA_cons, headW_nil, headW_cons, headH_nil, headH_cons, bindsA_nil, bindsA_cons, waitsA_nil, waitsA_cons, allWait_0, allWait_s, pure_0, pure_s, pure_move, pure_assign, pure_bin, pure_un, pure_conv, pure_ext, binds_data, binds_chain, binds_guard, binds_phase, binds_text, binds_gc, heapA_nil, heapA_cons, sameLen_self, sameLen_nil, sameLen_cons, sameLen_l, sameLen_set, entries_nil, entries_cons, entC_f, entC_t, entC_n, dstsOf_nil, dstsOf_some, dstsOf_no, valsEnv_nil, valsEnv_some, valsEnv_none, ops_index, ops_indexAddr, ops_buildSlice, blt_lit, beq_lit, Bool.or_true, Bool.true_or, Bool.or_false, Bool.false_or, Bool.and_true, Bool.true_and, Bool.and_self, cond_true, cond_false, List.append_nil, Iv.eta, Option.map_none, T43, T58, alloc_eq, alloc_pair', alloc_int, alloc_bool, build_eq, buildO_01, buildO_0, buildO_1, buildO_n, buildO_a, bsl_eq, bslO_2, idx_eq, idxO_l0, idxO_l1, iad_eq, iadO_l0, iadO_l1, binP_eql', binP_neq', binB_eql', binB_neq', eqT_pt, eqT_pf, eqT_bt, eqT_bf, decide_true, decide_false, seqK_n, seqK_r, seqK_e, loopK_n, loopK_r, loopK_e, reqs_true, Int.zero_sub, wrap_lit, wrapu_lit, Int.reduceLE, Int.reduceLT, Int.reduceAdd, Int.reduceSub, Int.reduceMul, Int.reduceNeg, Int.reduceEq, ops_makeFunc, makeFunc_eq, ptrsO_some, ptrsOf_nil, ptrsOf_cons, consQ_some, funcV_nil, funcV_cons, Option.bind_some, loadO_giv, bin_shr_u64, bin_shl_u64, bin_shr_i64, bin_shl_i64, and_m32', Int.reduceToNat, Int.reducePow, Int.reduceMod, Int.reduceDiv, wrap_u64s, true_or, or_true, true_and, and_true]
    repeat' (first | with_reducible refine cnd_split (fun hc => ?_) (fun hc => ?_) | with_reducible refine Reqs.mk ?_ ?_)
    all_goals (try simp only [decide_eq_true_eq, decide_eq_false_iff_not] at *)
    all_goals first
      | trivial
      | (have h1 := openOk_iff.1 (by assumption : openOk y = true); omega)
      | (have h1 := openOk_iff.1 (by assumption : openOk x = true); omega)
      | (refine endS_v (t := (dirA y x)) hr ?_; rw [dirA_w (by simp_all)]; done)
      | (refine endS_v (t := (dirA y x)) hr ?_; rw [dirA_w (by rintro ⟨g1, g2, g3⟩; simp_all)]; done)
      | (have hh : openOk y = true ∧ openOk x = true ∧ ¬ (y = 0 ∧ x = 0) := ⟨by assumption, by assumption, by omega⟩
         refine endS_v (t := (dirA y x)) hr ?_
         first
         | (rw [dirA_1 hh (by assumption) (by assumption)]; done)
         | (rw [dirA_2 hh (by assumption) (by assumption)]; done)
         | (rw [dirA_3 hh (by assumption) (by assumption)]; done)
         | (rw [dirA_4 hh (by assumption) (by assumption) (by assumption)]; done)
         | (rw [dirA_5 hh (by assumption) (by assumption) (by assumption)]; done))
  · cases hF

-- spec.DirectionAt
theorem spec_DirectionAt_dirA_ok : Fn Tryz.prog 16 F_dirA := by
  refine fn_of_go (O := orc [⟨12, F_atanI, .inl spec_AtanI_atanI_ok⟩, ⟨40, F_openOk, .inl spec_l07Fix_openOk_ok⟩, ⟨41, F_whole, .inl spec_Whole_whole_ok⟩, ⟨42, F_subI, .inl spec_SubI_subI_ok⟩, ⟨43, F_turnI, .inl spec_TurnI_turnI_ok⟩, ⟨44, F_divI, .inl spec_DivI_divI_ok⟩, ⟨45, F_atI, .inl spec_l05At_atI_ok⟩, ⟨46, F_addI, .inl spec_AddI_addI_ok⟩]) mixed T_ok (orc_sound _) Tryz.func16 (by kernel_rfl) rfl Tryz.ntmps16 (by kernel_rfl) Tryz.results16 ?_
  intro args g pre r new hF hpre
  unfold F_dirA at hF
  split at hF
  · rename_i y x
    simp only [Option.some.injEq, Prod.mk.injEq] at hF
    obtain ⟨rfl, hr, rfl⟩ := hF
    refine ⟨by simp, ?_⟩
    simp (config := { maxSteps := 4000000, implicitDefEqProofs := false }) only [F_addI_eq, F_atI_eq, F_atanI_eq, F_divI_eq, F_openOk_eq, F_subI_eq, F_turnI_eq, F_whole_eq, go_seq', go_reg, go_draw, rest_n, rest_r, rest_e, go_cond, go_block, go_ret_, go_skip, go_exit, blockK_n, blockK_r, blockK_e, ops_nil, ops_gate, ops_move, ops_assign, ops_pick, ops_box, ops_load, ops_store, ops_bin, ops_un, ops_conv, ops_fieldAddr, ops_extract, ops_builtin, ops_call, ops_alloc, ops_build, st1_some, stH_some, stC_nil, reqO_some, cndO_some, putE_some, putE_none, tell_some, look_hit, look_miss, opd_tmp, opd_int, opd_bool, opd_func, opdA_eq, opdP_eq, toA_v, toP_v, sp_eq, cells_p, cells_agg, cellsOf_p, cellsOf_agg, boxO_some, loadO_own, loadC_int, loadC_bool, loadC_pair, storeO_own, storeC_0, storeC_1, storeC_2, storeC_c, size_int, size_bool, size_pair, faddr_0, faddr_1, conv_int, un_not, un_neg, un_xor, ext_0, ext_1, ext_2, max_v, min_v, bin_add, bin_sub, bin_mul, bin_and, bin_or, bin_xor, bin_eql, bin_neq, bin_lss, bin_leq, bin_gtr, bin_geq, grd_b, grd_u, slotV_some, gateP_eq, gateO_some, asBoolS_b, slotOf_tmp, gslot_0, gslot_s, beq_t, beq_f, ↓cnd_t, ↓cnd_f, cnd_not, callR_eq, calleeO_fn, argsO_eq, pairT_some, capsA_nil, capsA_cons, trArgs_nil, trArgs_agg, trArgs_p, trArgs_ptr, ptrT_some, trArgs_clo, cloT_some, consT_some, trPts_nil, trPts_cons, ptsT_some, consP_some, loadCell_own, loadCell_giv, calleeO_clo, tellO_some, argsA_nil, argsA_cons, consO_some, orc_cons, ends_r, ends_n, resAll_nil, resAll_cons, resV_tmp, resV_cell, resC_own, cellV_pair, cellV_int, startEnv, Option.map_some, List.length_nil, List.length_cons, List.nil_append, List.cons_append, List.getElem?_cons_zero, List.getElem?_cons_succ, List.set_cons_zero, List.set_cons_succ, Bool.not_true, Bool.not_false, reduceIte, Nat.reduceEqDiff, Nat.reduceAdd, Nat.reduceLT, partsP_cons, partsP_nil, conP_some, T5, T9, T2, T3, T51, T67, T4, T24, T23, T53, dr_nil, dr_move, dr_assign, dr_box, dr_load, dr_bin, dr_un, dr_conv, dr_fieldAddr, dr_extract, dr_builtin, dr_call, dr_alloc, dr_index, dr_indexAddr, dr_build, dr_buildSlice, dr_makeFunc, dr_store, drawN_p, drawN_g, drawE_s, ifS_t, isW_nil, isW_cons, boxOf_own, boxOf_giv, otherB_s, otherB_n, spares_s, spares_n, ldAt_0, ldAt_s, pure_fieldAddr, pure_field, pure_indexAddr, pure_index, pure_load, pure_call, pure_store, pure_alloc, pure_box, pure_build, dr_field, dr_pick, ops_field, field_0, field_1, okA_nil, okA_cons, headW_nil, headW_cons, headH_nil, headH_cons, bindsA_nil, bindsA_cons, waitsA_nil, waitsA_cons, allWait_0, allWait_s, pure_0, pure_s, pure_move, pure_assign, pure_bin, pure_un, pure_conv, pure_ext, binds_data, binds_chain, binds_guard, binds_phase, binds_text, binds_gc, heapA_nil, heapA_cons, sameLen_self, sameLen_nil, sameLen_cons, sameLen_l, sameLen_set, entries_nil, entries_cons, entC_f, entC_t, entC_n, dstsOf_nil, dstsOf_some, dstsOf_no, valsEnv_nil, valsEnv_some, valsEnv_none, ops_index, ops_indexAddr, ops_buildSlice, blt_lit, beq_lit, Bool.or_true, Bool.true_or, Bool.or_false, Bool.false_or, Bool.and_true, Bool.true_and, Bool.and_self, cond_true, cond_false, List.append_nil, Iv.eta, Option.map_none, T43, T58, alloc_eq, alloc_pair', alloc_int, alloc_bool, build_eq, buildO_01, buildO_0, buildO_1, buildO_n, buildO_a, bsl_eq, bslO_2, idx_eq, idxO_l0, idxO_l1, iad_eq, iadO_l0, iadO_l1, binP_eql', binP_neq', binB_eql', binB_neq', eqT_pt, eqT_pf, eqT_bt, eqT_bf, decide_true, decide_false, seqK_n, seqK_r, seqK_e, loopK_n, loopK_r, loopK_e, reqs_true, Int.zero_sub, wrap_lit, wrapu_lit, Int.reduceLE, Int.reduceLT, Int.reduceAdd, Int.reduceSub, Int.reduceMul, Int.reduceNeg, Int.reduceEq, ops_makeFunc, makeFunc_eq, ptrsO_some, ptrsOf_nil, ptrsOf_cons, consQ_some, funcV_nil, funcV_cons, Option.bind_some, loadO_giv, bin_shr_u64, bin_shl_u64, bin_shr_i64, bin_shl_i64, and_m32', Int.reduceToNat, Int.reducePow, Int.reduceMod, Int.reduceDiv, wrap_u64s, true_or, or_true, true_and, and_true]
    repeat' (first | with_reducible refine cnd_split (fun hc => ?_) (fun hc => ?_) | with_reducible refine Reqs.mk ?_ ?_)
    all_goals (try simp only [decide_eq_true_eq, decide_eq_false_iff_not] at *)
    all_goals first
      | trivial
      | (refine endS_v (t := (dirA y x)) hr ?_; rw [dirA_w (by simp_all)]; done)
      | (refine endS_v (t := (dirA y x)) hr ?_; rw [dirA_w (by rintro ⟨g1, g2, g3⟩; simp_all)]; done)
      | (have hh : openOk y = true ∧ openOk x = true ∧ ¬ (y = 0 ∧ x = 0) := ⟨by assumption, by assumption, by omega⟩
         have w1 := openOk_iff.1 hh.1
         have w2 := openOk_iff.1 hh.2.1
         have z1 : IntKind.i64.wrap (-y) = -y := wrap_om (by omega) (by omega)
         have z2 : IntKind.i64.wrap (-x) = -x := wrap_om (by omega) (by omega)
         simp only [z1, z2] at *
         refine endS_v (t := (dirA y x)) hr ?_
         first
         | (rw [dirA_1 hh (by unfold absZ; (repeat' split) <;> omega) (by assumption)]; done)
         | (rw [dirA_2 hh (by unfold absZ; (repeat' split) <;> omega) (by assumption)]; done)
         | (rw [dirA_3 hh (by unfold absZ; (repeat' split) <;> omega) (by assumption)]; done)
         | (rw [dirA_4 hh (by unfold absZ; (repeat' split) <;> omega) (by assumption) (by assumption)]; done)
         | (rw [dirA_5 hh (by unfold absZ; (repeat' split) <;> omega) (by assumption) (by assumption)]; done))
  · cases hF

-- impl.DirectionI
theorem impl_DirectionI_dirI_ok : Fn Tryz.prog 19 F_dirI := by
  refine fn_of_go (O := orc [⟨17, F_dirA, .inl impl_DirectionAt_dirA_ok⟩, ⟨38, F_hullI, .inl impl_HullI_hullI_ok⟩, ⟨48, F_whole, .inl impl_Whole_whole_ok⟩, ⟨56, F_areOk, .inl impl_areBounded_areOk_ok⟩, ⟨57, F_hasI, .inl impl_HasI_hasI_ok⟩]) mixed T_ok (orc_sound _) Tryz.func19 (by kernel_rfl) rfl Tryz.ntmps19 (by kernel_rfl) Tryz.results19 ?_
  intro args g pre r new hF hpre
  unfold F_dirI at hF
  split at hF
  · rename_i y1 y2 x1 x2
    simp only [Option.some.injEq, Prod.mk.injEq] at hF
    obtain ⟨rfl, hr, rfl⟩ := hF
    refine ⟨by simp, ?_⟩
    simp (config := { maxSteps := 4000000, implicitDefEqProofs := false }) only [F_areOk_eq, F_dirA_eq, F_hasI_eq, F_hullI_eq, F_whole_eq, go_seq', go_reg, go_draw, rest_n, rest_r, rest_e, go_cond, go_block, go_ret_, go_skip, go_exit, blockK_n, blockK_r, blockK_e, ops_nil, ops_gate, ops_move, ops_assign, ops_pick, ops_box, ops_load, ops_store, ops_bin, ops_un, ops_conv, ops_fieldAddr, ops_extract, ops_builtin, ops_call, ops_alloc, ops_build, st1_some, stH_some, stC_nil, reqO_some, cndO_some, putE_some, putE_none, tell_some, look_hit, look_miss, opd_tmp, opd_int, opd_bool, opd_func, opdA_eq, opdP_eq, toA_v, toP_v, sp_eq, cells_p, cells_agg, cellsOf_p, cellsOf_agg, boxO_some, loadO_own, loadC_int, loadC_bool, loadC_pair, storeO_own, storeC_0, storeC_1, storeC_2, storeC_c, size_int, size_bool, size_pair, faddr_0, faddr_1, conv_int, un_not, un_neg, un_xor, ext_0, ext_1, ext_2, max_v, min_v, bin_add, bin_sub, bin_mul, bin_and, bin_or, bin_xor, bin_eql, bin_neq, bin_lss, bin_leq, bin_gtr, bin_geq, grd_b, grd_u, slotV_some, gateP_eq, gateO_some, asBoolS_b, slotOf_tmp, gslot_0, gslot_s, beq_t, beq_f, ↓cnd_t, ↓cnd_f, cnd_not, callR_eq, calleeO_fn, argsO_eq, pairT_some, capsA_nil, capsA_cons, trArgs_nil, trArgs_agg, trArgs_p, trArgs_ptr, ptrT_some, trArgs_clo, cloT_some, consT_some, trPts_nil, trPts_cons, ptsT_some, consP_some, loadCell_own, loadCell_giv, calleeO_clo, tellO_some, argsA_nil, argsA_cons, consO_some, orc_cons, ends_r, ends_n, resAll_nil, resAll_cons, resV_tmp, resV_cell, resC_own, cellV_pair, cellV_int, startEnv, Option.map_some, List.length_nil, List.length_cons, List.nil_append, List.cons_append, List.getElem?_cons_zero, List.getElem?_cons_succ, List.set_cons_zero, List.set_cons_succ, Bool.not_true, Bool.not_false, reduceIte, Nat.reduceEqDiff, Nat.reduceAdd, Nat.reduceLT, partsP_cons, partsP_nil, conP_some, T5, T9, T2, T3, T51, T67, T4, T24, T23, T53, dr_nil, dr_move, dr_assign, dr_box, dr_load, dr_bin, dr_un, dr_conv, dr_fieldAddr, dr_extract, dr_builtin, dr_call, dr_alloc, dr_index, dr_indexAddr, dr_build, dr_buildSlice, dr_makeFunc, dr_store, drawN_p, drawN_g, drawE_s, ifS_t, isW_nil, isW_cons, boxOf_own, boxOf_giv, otherB_s, otherB_n, spares_s, spares_n, ldAt_0, ldAt_s, pure_fieldAddr, pure_field, pure_indexAddr, pure_index, pure_load, pure_call, pure_store, pure_alloc, pure_box, pure_build, dr_field, dr_pick, ops_field, field_0, field_1, okA_nil, okA_cons, headW_nil, headW_cons, headH_nil, headH_cons, bindsA_nil, bindsA_cons, waitsA_nil, waitsA_cons, allWait_0, allWait_s, pure_0, pure_s, pure_move, pure_assign, pure_bin, pure_un, pure_conv, pure_ext, binds_data, binds_chain, binds_guard, binds_phase, binds_text, binds_gc, heapA_nil, heapA_cons, sameLen_self, sameLen_nil, sameLen_cons, sameLen_l, sameLen_set, entries_nil, entries_cons, entC_f, entC_t, entC_n, dstsOf_nil, dstsOf_some, dstsOf_no, valsEnv_nil, valsEnv_some, valsEnv_none, ops_index, ops_indexAddr, ops_buildSlice, blt_lit, beq_lit, Bool.or_true, Bool.true_or, Bool.or_false, Bool.false_or, Bool.and_true, Bool.true_and, Bool.and_self, cond_true, cond_false, List.append_nil, Iv.eta, Option.map_none, T43, T58, alloc_eq, alloc_pair', alloc_int, alloc_bool, build_eq, buildO_01, buildO_0, buildO_1, buildO_n, buildO_a, bsl_eq, bslO_2, idx_eq, idxO_l0, idxO_l1, iad_eq, iadO_l0, iadO_l1, binP_eql', binP_neq', binB_eql', binB_neq', eqT_pt, eqT_pf, eqT_bt, eqT_bf, decide_true, decide_false, seqK_n, seqK_r, seqK_e, loopK_n, loopK_r, loopK_e, reqs_true, Int.zero_sub, wrap_lit, wrapu_lit, Int.reduceLE, Int.reduceLT, Int.reduceAdd, Int.reduceSub, Int.reduceMul, Int.reduceNeg, Int.reduceEq, ops_makeFunc, makeFunc_eq, ptrsO_some, ptrsOf_nil, ptrsOf_cons, consQ_some, funcV_nil, funcV_cons, Option.bind_some, loadO_giv, bin_shr_u64, bin_shl_u64, bin_shr_i64, bin_shl_i64, and_m32', Int.reduceToNat, Int.reducePow, Int.reduceMod, Int.reduceDiv, wrap_u64s, true_or, or_true, true_and, and_true]
    repeat' (first | with_reducible refine cnd_split (fun hc => ?_) (fun hc => ?_) | with_reducible refine Reqs.mk ?_ ?_)
    all_goals (try simp only [decide_eq_true_eq, decide_eq_false_iff_not] at *)
    all_goals first
      | trivial
      | (refine endS_v (t := (dirI (Iv.mk y1 y2) (Iv.mk x1 x2))) hr ?_; rw [dirI, if_neg (by first | (simp_all; done) | (simp_all <;> omega))]; done)
      | (refine endS_v (t := (dirI (Iv.mk y1 y2) (Iv.mk x1 x2))) hr ?_; rw [dirI, if_neg (by rintro ⟨g1, g2, g3, g4⟩; first | (simp_all; done) | (simp_all <;> omega))]; done)
      | (refine endS_v (t := (dirI (Iv.mk y1 y2) (Iv.mk x1 x2))) hr ?_; rw [dirI, if_pos (by simp_all <;> omega)]; done)
  · cases hF

-- spec.DirectionI
theorem spec_DirectionI_dirI_ok : Fn Tryz.prog 18 F_dirI := by
  refine fn_of_go (O := orc [⟨16, F_dirA, .inl spec_DirectionAt_dirA_ok⟩, ⟨32, F_notOk, .inl spec_IsWhole_notOk_ok⟩, ⟨34, F_hullI, .inl spec_HullI_hullI_ok⟩, ⟨41, F_whole, .inl spec_Whole_whole_ok⟩, ⟨55, F_hasI, .inl spec_HasI_hasI_ok⟩]) mixed T_ok (orc_sound _) Tryz.func18 (by kernel_rfl) rfl Tryz.ntmps18 (by kernel_rfl) Tryz.results18 ?_
  intro args g pre r new hF hpre
  unfold F_dirI at hF
  split at hF
  · rename_i y1 y2 x1 x2
    simp only [Option.some.injEq, Prod.mk.injEq] at hF
    obtain ⟨rfl, hr, rfl⟩ := hF
    refine ⟨by simp, ?_⟩
    simp (config := { maxSteps := 4000000, implicitDefEqProofs := false }) only [F_dirA_eq, F_hasI_eq, F_hullI_eq, F_notOk_eq, F_whole_eq, go_seq', go_reg, go_draw, rest_n, rest_r, rest_e, go_cond, go_block, go_ret_, go_skip, go_exit, blockK_n, blockK_r, blockK_e, ops_nil, ops_gate, ops_move, ops_assign, ops_pick, ops_box, ops_load, ops_store, ops_bin, ops_un, ops_conv, ops_fieldAddr, ops_extract, ops_builtin, ops_call, ops_alloc, ops_build, st1_some, stH_some, stC_nil, reqO_some, cndO_some, putE_some, putE_none, tell_some, look_hit, look_miss, opd_tmp, opd_int, opd_bool, opd_func, opdA_eq, opdP_eq, toA_v, toP_v, sp_eq, cells_p, cells_agg, cellsOf_p, cellsOf_agg, boxO_some, loadO_own, loadC_int, loadC_bool, loadC_pair, storeO_own, storeC_0, storeC_1, storeC_2, storeC_c, size_int, size_bool, size_pair, faddr_0, faddr_1, conv_int, un_not, un_neg, un_xor, ext_0, ext_1, ext_2, max_v, min_v, bin_add, bin_sub, bin_mul, bin_and, bin_or, bin_xor, bin_eql, bin_neq, bin_lss, bin_leq, bin_gtr, bin_geq, grd_b, grd_u, slotV_some, gateP_eq, gateO_some, asBoolS_b, slotOf_tmp, gslot_0, gslot_s, beq_t, beq_f, ↓cnd_t, ↓cnd_f, cnd_not, callR_eq, calleeO_fn, argsO_eq, pairT_some, capsA_nil, capsA_cons, trArgs_nil, trArgs_agg, trArgs_p, trArgs_ptr, ptrT_some, trArgs_clo, cloT_some, consT_some, trPts_nil, trPts_cons, ptsT_some, consP_some, loadCell_own, loadCell_giv, calleeO_clo, tellO_some, argsA_nil, argsA_cons, consO_some, orc_cons, ends_r, ends_n, resAll_nil, resAll_cons, resV_tmp, resV_cell, resC_own, cellV_pair, cellV_int, startEnv, Option.map_some, List.length_nil, List.length_cons, List.nil_append, List.cons_append, List.getElem?_cons_zero, List.getElem?_cons_succ, List.set_cons_zero, List.set_cons_succ, Bool.not_true, Bool.not_false, reduceIte, Nat.reduceEqDiff, Nat.reduceAdd, Nat.reduceLT, partsP_cons, partsP_nil, conP_some, T5, T9, T2, T3, T51, T67, T4, T24, T23, T53, dr_nil, dr_move, dr_assign, dr_box, dr_load, dr_bin, dr_un, dr_conv, dr_fieldAddr, dr_extract, dr_builtin, dr_call, dr_alloc, dr_index, dr_indexAddr, dr_build, dr_buildSlice, dr_makeFunc, dr_store, drawN_p, drawN_g, drawE_s, ifS_t, isW_nil, isW_cons, boxOf_own, boxOf_giv, otherB_s, otherB_n, spares_s, spares_n, ldAt_0, ldAt_s, pure_fieldAddr, pure_field, pure_indexAddr, pure_index, pure_load, pure_call, pure_store, pure_alloc, pure_box, pure_build, dr_field, dr_pick, ops_field, field_0, field_1, okA_nil, okA_cons, headW_nil, headW_cons, headH_nil, headH_cons, bindsA_nil, bindsA_cons, waitsA_nil, waitsA_cons, allWait_0, allWait_s, pure_0, pure_s, pure_move, pure_assign, pure_bin, pure_un, pure_conv, pure_ext, binds_data, binds_chain, binds_guard, binds_phase, binds_text, binds_gc, heapA_nil, heapA_cons, sameLen_self, sameLen_nil, sameLen_cons, sameLen_l, sameLen_set, entries_nil, entries_cons, entC_f, entC_t, entC_n, dstsOf_nil, dstsOf_some, dstsOf_no, valsEnv_nil, valsEnv_some, valsEnv_none, ops_index, ops_indexAddr, ops_buildSlice, blt_lit, beq_lit, Bool.or_true, Bool.true_or, Bool.or_false, Bool.false_or, Bool.and_true, Bool.true_and, Bool.and_self, cond_true, cond_false, List.append_nil, Iv.eta, Option.map_none, T43, T58, alloc_eq, alloc_pair', alloc_int, alloc_bool, build_eq, buildO_01, buildO_0, buildO_1, buildO_n, buildO_a, bsl_eq, bslO_2, idx_eq, idxO_l0, idxO_l1, iad_eq, iadO_l0, iadO_l1, binP_eql', binP_neq', binB_eql', binB_neq', eqT_pt, eqT_pf, eqT_bt, eqT_bf, decide_true, decide_false, seqK_n, seqK_r, seqK_e, loopK_n, loopK_r, loopK_e, reqs_true, Int.zero_sub, wrap_lit, wrapu_lit, Int.reduceLE, Int.reduceLT, Int.reduceAdd, Int.reduceSub, Int.reduceMul, Int.reduceNeg, Int.reduceEq, ops_makeFunc, makeFunc_eq, ptrsO_some, ptrsOf_nil, ptrsOf_cons, consQ_some, funcV_nil, funcV_cons, Option.bind_some, loadO_giv, bin_shr_u64, bin_shl_u64, bin_shr_i64, bin_shl_i64, and_m32', Int.reduceToNat, Int.reducePow, Int.reduceMod, Int.reduceDiv, wrap_u64s, true_or, or_true, true_and, and_true]
    repeat' (first | with_reducible refine cnd_split (fun hc => ?_) (fun hc => ?_) | with_reducible refine Reqs.mk ?_ ?_)
    all_goals (try simp only [decide_eq_true_eq, decide_eq_false_iff_not] at *)
    all_goals first
      | trivial
      | (refine endS_v (t := (dirI (Iv.mk y1 y2) (Iv.mk x1 x2))) hr ?_; rw [dirI, if_neg (by first | (simp_all; done) | (simp_all <;> omega))]; done)
      | (refine endS_v (t := (dirI (Iv.mk y1 y2) (Iv.mk x1 x2))) hr ?_; rw [dirI, if_neg (by rintro ⟨g1, g2, g3, g4⟩; first | (simp_all; done) | (simp_all <;> omega))]; done)
      | (refine endS_v (t := (dirI (Iv.mk y1 y2) (Iv.mk x1 x2))) hr ?_; rw [dirI, if_pos (by simp_all <;> omega)]; done)
  · cases hF

end Go.Proofs.YtnkdmdjnnbkfgaaGreat.Eng
