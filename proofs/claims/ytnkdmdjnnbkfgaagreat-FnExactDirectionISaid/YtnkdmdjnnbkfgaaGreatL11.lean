/- What functions of the program compute, and that the program computes it: part 11. -/
import Derived.Test.YtnkdmdjnnbkfgaaGreatTab
import Derived.Test.YtnkdmdjnnbkfgaaGreatEng15
import Derived.Laws.BitsLemmas
import Derived.Laws.Bits64
import Derived.Laws.Bits64b
import Derived.Lib.Mul64
import Derived.Lib.BitFns
import Derived.Laws.Externs
import Derived.Test.YtnkdmdjnnbkfgaaGreatL1
import Derived.Test.YtnkdmdjnnbkfgaaGreatL2
import Derived.Test.YtnkdmdjnnbkfgaaGreatL6
import Derived.Test.YtnkdmdjnnbkfgaaGreatL7
import Derived.Test.YtnkdmdjnnbkfgaaGreatL8
import Derived.Test.YtnkdmdjnnbkfgaaGreatL9
namespace Go.Proofs.YtnkdmdjnnbkfgaaGreat.Eng
open Go Go.RowKit
set_option linter.unusedVariables false
set_option linter.unusedSimpArgs false
set_option maxRecDepth 100000
set_option maxHeartbeats 1000000
-- sqrtDown
def sqrtDown (a : Int) : Int × Bool := if within a 0 1152921504606846976 then (rootW (a * 4294967296), true) else (0, false)
def F_sqrtDown : FT
  | [.c (.p (.int .i64 a))], _ => some (True, .tup [.c (.p (.int .i64 ((sqrtDown a).1))), .c (.p (.bool ((sqrtDown a).2)))], [])
  | _, _ => none
theorem F_sqrtDown_eq {a : Int} {g : List PC} : F_sqrtDown [.c (.p (.int .i64 a))] g = some (True, .tup [.c (.p (.int .i64 ((sqrtDown a).1))), .c (.p (.bool ((sqrtDown a).2)))], []) := rfl
theorem root_bd {a : Int} (h0 : 0 ≤ a) (h1 : a ≤ 1152921504606846976) : 0 ≤ rootW (a * 4294967296) ∧ rootW (a * 4294967296) ≤ 70368744177664 := by
  refine ⟨rootW_nonneg _, ?_⟩
  have hs := rootW_spec (w := a * 4294967296) (by omega) (by omega)
  apply Int.le_of_not_gt
  intro hgt
  have := Int.mul_le_mul (a := 70368744177665) (b := 70368744177665) (c := rootW (a * 4294967296)) (d := rootW (a * 4294967296)) (by omega) (by omega) (by omega) (by omega)
  omega
theorem sqrtDown_f {a : Int} (h : fixOk a = true) : fixed (sqrtFloor a 4294967296).1 (sqrtFloor a 4294967296).2 = sqrtDown a := by
  rw [fixOk_iff] at h
  unfold sqrtFloor sqrtDown
  by_cases h0 : 0 ≤ a
  · have hb := root_bd h0 h.2
    have hw : within a 0 1152921504606846976 = true := by rw [within_iff]; omega
    rw [if_neg (by omega), if_pos hw]
    have : fixOk (rootW (a * 4294967296)) = true := by rw [fixOk_iff]; omega
    simp [fixed, this]
  · have hw : ¬ within a 0 1152921504606846976 = true := by rw [within_iff]; omega
    rw [if_pos (by omega), if_neg hw]
    simp [fixed]
theorem sqrtFloor_f {a : Int} (h : within a 0 1152921504606846976 = true) : sqrtFloor a 4294967296 = sqrtDown a := by
  unfold sqrtFloor sqrtDown
  rw [if_pos h]
  rw [within_iff] at h
  rw [if_neg (by omega)]

-- impl.SqrtDown
theorem impl_SqrtDown_sqrtDown_ok : Fn Tryz.prog 170 F_sqrtDown := by
  refine fn_of_go (O := orc [⟨102, F_sqrtFloor, .inl impl_SqrtFloor_sqrtFloor_ok⟩, ⟨122, F_fixOk, .inl impl_ValidFix_fixOk_ok⟩, ⟨123, F_fixed, .inl impl_fixed_fixed_ok⟩]) mixed T_ok (orc_sound _) Tryz.func170 (by kernel_rfl) rfl Tryz.ntmps170 (by kernel_rfl) Tryz.results170 ?_
  intro args g pre r new hF hpre
  unfold F_sqrtDown at hF
  split at hF
  · rename_i a
    simp only [Option.some.injEq, Prod.mk.injEq] at hF
    obtain ⟨rfl, hr, rfl⟩ := hF
    refine ⟨by simp, ?_⟩
    simp (config := { maxSteps := 4000000, implicitDefEqProofs := false }) only [F_fixOk_eq, F_fixed_eq, F_sqrtFloor_eq, go_seq', go_reg, go_draw, rest_n, rest_r, rest_e, go_cond, go_block, go_ret_, go_skip, go_exit, blockK_n, blockK_r, blockK_e, ops_nil, ops_gate, ops_move, ops_assign, ops_pick, ops_box, ops_load, ops_store, ops_bin, ops_un, ops_conv, ops_fieldAddr, ops_extract, ops_builtin, ops_call, ops_alloc, ops_build, st1_some, stH_some, stC_nil, reqO_some, cndO_some, putE_some, putE_none, tell_some, look_hit, look_miss, opd_tmp, opd_int, opd_bool, opd_func, opdA_eq, opdP_eq, toA_v, toP_v, sp_eq, cells_p, cells_agg, cellsOf_p, cellsOf_agg, boxO_some, loadO_own, loadC_int, loadC_bool, loadC_pair, storeO_own, storeC_0, storeC_1, storeC_2, storeC_c, size_int, size_bool, size_pair, faddr_0, faddr_1, conv_int, un_not, un_neg, un_xor, ext_0, ext_1, ext_2, max_v, min_v, bin_add, bin_sub, bin_mul, bin_and, bin_or, bin_xor, bin_eql, bin_neq, bin_lss, bin_leq, bin_gtr, bin_geq, grd_b, grd_u, slotV_some, gateP_eq, gateO_some, asBoolS_b, slotOf_tmp, gslot_0, gslot_s, beq_t, beq_f, ↓cnd_t, ↓cnd_f, cnd_not, callR_eq, calleeO_fn, argsO_eq, pairT_some, capsA_nil, capsA_cons, trArgs_nil, trArgs_agg, trArgs_p, trArgs_ptr, ptrT_some, trArgs_clo, cloT_some, consT_some, trPts_nil, trPts_cons, ptsT_some, consP_some, loadCell_own, loadCell_giv, calleeO_clo, tellO_some, argsA_nil, argsA_cons, consO_some, orc_cons, ends_r, ends_n, resAll_nil, resAll_cons, resV_tmp, resV_cell, resC_own, cellV_pair, cellV_int, startEnv, Option.map_some, List.length_nil, List.length_cons, List.nil_append, List.cons_append, List.getElem?_cons_zero, List.getElem?_cons_succ, List.set_cons_zero, List.set_cons_succ, Bool.not_true, Bool.not_false, reduceIte, Nat.reduceEqDiff, Nat.reduceAdd, Nat.reduceLT, partsP_cons, partsP_nil, conP_some, T5, T9, T2, T3, T51, T67, T4, T24, T23, T53, dr_nil, dr_move, dr_assign, dr_box, dr_load, dr_bin, dr_un, dr_conv, dr_fieldAddr, dr_extract, dr_builtin, dr_call, dr_alloc, dr_index, dr_indexAddr, dr_build, dr_buildSlice, dr_makeFunc, dr_store, drawN_p, drawN_g, drawE_s, ifS_t, isW_nil, isW_cons, boxOf_own, boxOf_giv, otherB_s, otherB_n, spares_s, spares_n, ldAt_0, ldAt_s, pure_fieldAddr, pure_field, pure_indexAddr, pure_index, pure_load, pure_call, pure_store, pure_alloc, pure_box, pure_build, dr_field, dr_pick, ops_field, field_0, field_1, okA_nil, okA_cons, headW_nil, headW_cons, headH_nil, headH_cons, bindsA_nil, bindsA_cons, waitsA_nil, waitsA_cons, allWait_0, allWait_s, pure_0, pure_s, pure_move, pure_assign, pure_bin, pure_un, pure_conv, pure_ext, binds_data, binds_chain, binds_guard, binds_phase, binds_text, binds_gc, heapA_nil, heapA_cons, sameLen_self, sameLen_nil, sameLen_cons, sameLen_l, sameLen_set, entries_nil, entries_cons, entC_f, entC_t, entC_n, dstsOf_nil, dstsOf_some, dstsOf_no, valsEnv_nil, valsEnv_some, valsEnv_none, ops_index, ops_indexAddr, ops_buildSlice, blt_lit, beq_lit, Bool.or_true, Bool.true_or, Bool.or_false, Bool.false_or, Bool.and_true, Bool.true_and, Bool.and_self, cond_true, cond_false, List.append_nil, Iv.eta, Option.map_none, T43, T58, alloc_eq, alloc_pair', alloc_int, alloc_bool, build_eq, buildO_01, buildO_0, buildO_1, buildO_n, buildO_a, bsl_eq, bslO_2, idx_eq, idxO_l0, idxO_l1, iad_eq, iadO_l0, iadO_l1, binP_eql', binP_neq', binB_eql', binB_neq', eqT_pt, eqT_pf, eqT_bt, eqT_bf, decide_true, decide_false, seqK_n, seqK_r, seqK_e, loopK_n, loopK_r, loopK_e, reqs_true, Int.zero_sub, wrap_lit, wrapu_lit, Int.reduceLE, Int.reduceLT, Int.reduceAdd, Int.reduceSub, Int.reduceMul, Int.reduceNeg, Int.reduceEq, ops_makeFunc, makeFunc_eq, ptrsO_some, ptrsOf_nil, ptrsOf_cons, consQ_some, funcV_nil, funcV_cons, Option.bind_some, loadO_giv, bin_shr_u64, bin_shl_u64, bin_shr_i64, bin_shl_i64, and_m32', Int.reduceToNat, Int.reducePow, Int.reduceMod, Int.reduceDiv, wrap_u64s, true_or, or_true, true_and, and_true]
    repeat' (first | with_reducible refine cnd_split (fun hc => ?_) (fun hc => ?_) | with_reducible refine Reqs.mk ?_ ?_)
    all_goals first
      | (refine ⟨fix_in (by assumption), ?_⟩; unfold inR; omega)
      | (refine endS_ib (t := (sqrtDown a)) hr ?_; rw [← sqrtDown_f (by assumption)])
      | (refine endS_ib (t := (sqrtDown a)) hr ?_
         have h := hc
         have hw : ¬ within a 0 1152921504606846976 = true := by
           rw [within_iff]; intro hh
           have : fixOk a = true := by rw [fixOk_iff]; omega
           simp_all
         rw [sqrtDown, if_neg hw])
  · cases hF

-- spec.l03SqrtDown
theorem spec_l03SqrtDown_sqrtDown_ok : Fn Tryz.prog 163 F_sqrtDown := by
  refine fn_of_go (O := orc [⟨58, F_within, .inl spec_l00In_within_ok⟩, ⟨100, F_sqrtFloor, .inl spec_SqrtFloor_sqrtFloor_ok⟩]) mixed T_ok (orc_sound _) Tryz.func163 (by kernel_rfl) rfl Tryz.ntmps163 (by kernel_rfl) Tryz.results163 ?_
  intro args g pre r new hF hpre
  unfold F_sqrtDown at hF
  split at hF
  · rename_i a
    simp only [Option.some.injEq, Prod.mk.injEq] at hF
    obtain ⟨rfl, hr, rfl⟩ := hF
    refine ⟨by simp, ?_⟩
    simp (config := { maxSteps := 4000000, implicitDefEqProofs := false }) only [F_sqrtFloor_eq, F_within_eq, go_seq', go_reg, go_draw, rest_n, rest_r, rest_e, go_cond, go_block, go_ret_, go_skip, go_exit, blockK_n, blockK_r, blockK_e, ops_nil, ops_gate, ops_move, ops_assign, ops_pick, ops_box, ops_load, ops_store, ops_bin, ops_un, ops_conv, ops_fieldAddr, ops_extract, ops_builtin, ops_call, ops_alloc, ops_build, st1_some, stH_some, stC_nil, reqO_some, cndO_some, putE_some, putE_none, tell_some, look_hit, look_miss, opd_tmp, opd_int, opd_bool, opd_func, opdA_eq, opdP_eq, toA_v, toP_v, sp_eq, cells_p, cells_agg, cellsOf_p, cellsOf_agg, boxO_some, loadO_own, loadC_int, loadC_bool, loadC_pair, storeO_own, storeC_0, storeC_1, storeC_2, storeC_c, size_int, size_bool, size_pair, faddr_0, faddr_1, conv_int, un_not, un_neg, un_xor, ext_0, ext_1, ext_2, max_v, min_v, bin_add, bin_sub, bin_mul, bin_and, bin_or, bin_xor, bin_eql, bin_neq, bin_lss, bin_leq, bin_gtr, bin_geq, grd_b, grd_u, slotV_some, gateP_eq, gateO_some, asBoolS_b, slotOf_tmp, gslot_0, gslot_s, beq_t, beq_f, ↓cnd_t, ↓cnd_f, cnd_not, callR_eq, calleeO_fn, argsO_eq, pairT_some, capsA_nil, capsA_cons, trArgs_nil, trArgs_agg, trArgs_p, trArgs_ptr, ptrT_some, trArgs_clo, cloT_some, consT_some, trPts_nil, trPts_cons, ptsT_some, consP_some, loadCell_own, loadCell_giv, calleeO_clo, tellO_some, argsA_nil, argsA_cons, consO_some, orc_cons, ends_r, ends_n, resAll_nil, resAll_cons, resV_tmp, resV_cell, resC_own, cellV_pair, cellV_int, startEnv, Option.map_some, List.length_nil, List.length_cons, List.nil_append, List.cons_append, List.getElem?_cons_zero, List.getElem?_cons_succ, List.set_cons_zero, List.set_cons_succ, Bool.not_true, Bool.not_false, reduceIte, Nat.reduceEqDiff, Nat.reduceAdd, Nat.reduceLT, partsP_cons, partsP_nil, conP_some, T5, T9, T2, T3, T51, T67, T4, T24, T23, T53, dr_nil, dr_move, dr_assign, dr_box, dr_load, dr_bin, dr_un, dr_conv, dr_fieldAddr, dr_extract, dr_builtin, dr_call, dr_alloc, dr_index, dr_indexAddr, dr_build, dr_buildSlice, dr_makeFunc, dr_store, drawN_p, drawN_g, drawE_s, ifS_t, isW_nil, isW_cons, boxOf_own, boxOf_giv, otherB_s, otherB_n, spares_s, spares_n, ldAt_0, ldAt_s, pure_fieldAddr, pure_field, pure_indexAddr, pure_index, pure_load, pure_call, pure_store, pure_alloc, pure_box, pure_build, dr_field, dr_pick, ops_field, field_0, field_1, okA_nil, okA_cons, headW_nil, headW_cons, headH_nil, headH_cons, bindsA_nil, bindsA_cons, waitsA_nil, waitsA_cons, allWait_0, allWait_s, pure_0, pure_s, pure_move, pure_assign, pure_bin, pure_un, pure_conv, pure_ext, binds_data, binds_chain, binds_guard, binds_phase, binds_text, binds_gc, heapA_nil, heapA_cons, sameLen_self, sameLen_nil, sameLen_cons, sameLen_l, sameLen_set, entries_nil, entries_cons, entC_f, entC_t, entC_n, dstsOf_nil, dstsOf_some, dstsOf_no, valsEnv_nil, valsEnv_some, valsEnv_none, ops_index, ops_indexAddr, ops_buildSlice, blt_lit, beq_lit, Bool.or_true, Bool.true_or, Bool.or_false, Bool.false_or, Bool.and_true, Bool.true_and, Bool.and_self, cond_true, cond_false, List.append_nil, Iv.eta, Option.map_none, T43, T58, alloc_eq, alloc_pair', alloc_int, alloc_bool, build_eq, buildO_01, buildO_0, buildO_1, buildO_n, buildO_a, bsl_eq, bslO_2, idx_eq, idxO_l0, idxO_l1, iad_eq, iadO_l0, iadO_l1, binP_eql', binP_neq', binB_eql', binB_neq', eqT_pt, eqT_pf, eqT_bt, eqT_bf, decide_true, decide_false, seqK_n, seqK_r, seqK_e, loopK_n, loopK_r, loopK_e, reqs_true, Int.zero_sub, wrap_lit, wrapu_lit, Int.reduceLE, Int.reduceLT, Int.reduceAdd, Int.reduceSub, Int.reduceMul, Int.reduceNeg, Int.reduceEq, ops_makeFunc, makeFunc_eq, ptrsO_some, ptrsOf_nil, ptrsOf_cons, consQ_some, funcV_nil, funcV_cons, Option.bind_some, loadO_giv, bin_shr_u64, bin_shl_u64, bin_shr_i64, bin_shl_i64, and_m32', Int.reduceToNat, Int.reducePow, Int.reduceMod, Int.reduceDiv, wrap_u64s, true_or, or_true, true_and, and_true]
    repeat' (first | with_reducible refine cnd_split (fun hc => ?_) (fun hc => ?_) | with_reducible refine Reqs.mk ?_ ?_)
    all_goals first
      | (have h := (within_iff.1 (by assumption : within a 0 1152921504606846976 = true)); unfold inR; omega)
      | (refine endS_ib (t := (sqrtDown a)) hr ?_; rw [sqrtFloor_f (by assumption)])
      | (refine endS_ib (t := (sqrtDown a)) hr ?_; simp_all [sqrtDown])
  · cases hF

-- sqrtUp
def sqrtUp (a : Int) : Int × Bool := if within a 0 1152921504606846976 then (if rootW (a * 4294967296) * rootW (a * 4294967296) = a * 4294967296 then (rootW (a * 4294967296), true) else (rootW (a * 4294967296) + 1, true)) else (0, false)
def F_sqrtUp : FT
  | [.c (.p (.int .i64 a))], _ => some (True, .tup [.c (.p (.int .i64 ((sqrtUp a).1))), .c (.p (.bool ((sqrtUp a).2)))], [])
  | _, _ => none
theorem F_sqrtUp_eq {a : Int} {g : List PC} : F_sqrtUp [.c (.p (.int .i64 a))] g = some (True, .tup [.c (.p (.int .i64 ((sqrtUp a).1))), .c (.p (.bool ((sqrtUp a).2)))], []) := rfl
theorem wide_eq {x y : Int} : (decide (whi x = whi y) && decide (wlo x = wlo y)) = decide (x = y) := by
  rw [Bool.eq_iff_iff]
  simp only [Bool.and_eq_true, decide_eq_true_eq]
  unfold whi wlo
  omega
theorem and_m32i {a : Int} : IntKind.i64.wrap ((BitVec.ofInt IntKind.i64.bits a &&& BitVec.ofInt IntKind.i64.bits 4294967295).toNat : Nat) = a % 4294967296 := by
  have := @and_m32' a
  rw [bits_u64] at this
  rw [bits_i64, this, IntKind.wrap_i64]; omega
theorem sqrtDown_t {a : Int} (h : (sqrtDown a).2 = true) : (0 ≤ a ∧ a ≤ 1152921504606846976) ∧ (sqrtDown a).1 = rootW (a * 4294967296) ∧ 0 ≤ rootW (a * 4294967296) ∧ rootW (a * 4294967296) ≤ 70368744177664 := by
  unfold sqrtDown at h ⊢
  split at h
  · rename_i hw
    rw [if_pos hw]
    rw [within_iff] at hw
    exact ⟨hw, rfl, root_bd hw.1 hw.2⟩
  · cases h
theorem sqrtDown_n {a : Int} (h : (sqrtDown a).2 = false) : (sqrtDown a).1 = 0 ∧ sqrtUp a = (0, false) := by
  unfold sqrtDown at h ⊢
  unfold sqrtUp
  split at h
  · cases h
  · rename_i hw
    rw [if_neg hw, if_neg hw]; exact ⟨rfl, rfl⟩
theorem sqrtUp_t {a : Int} (h : 0 ≤ a ∧ a ≤ 1152921504606846976) : sqrtUp a = (if rootW (a * 4294967296) * rootW (a * 4294967296) = a * 4294967296 then (rootW (a * 4294967296), true) else (rootW (a * 4294967296) + 1, true)) := by
  unfold sqrtUp
  rw [if_pos (within_iff.2 h)]
theorem sqrtUp_bd (a : Int) : 0 ≤ (sqrtUp a).1 ∧ (sqrtUp a).1 ≤ 70368744177665 := by
  unfold sqrtUp
  split
  · rename_i hw
    rw [within_iff] at hw
    have := root_bd hw.1 hw.2
    split <;> simp only <;> omega
  · simp only; omega
theorem sqrtDown_bd (a : Int) : 0 ≤ (sqrtDown a).1 ∧ (sqrtDown a).1 ≤ 70368744177664 := by
  unfold sqrtDown
  split
  · rename_i hw
    rw [within_iff] at hw
    have := root_bd hw.1 hw.2
    simp only; omega
  · simp only; omega

-- impl.SqrtUp
theorem impl_SqrtUp_sqrtUp_ok : Fn Tryz.prog 171 F_sqrtUp := by
  refine fn_of_go (O := orc [⟨103, F_wideMul, .inl impl_WideMul_wideMul_ok⟩, ⟨123, F_fixed, .inl impl_fixed_fixed_ok⟩, ⟨170, F_sqrtDown, .inl impl_SqrtDown_sqrtDown_ok⟩]) mixed T_ok (orc_sound _) Tryz.func171 (by kernel_rfl) rfl Tryz.ntmps171 (by kernel_rfl) Tryz.results171 ?_
  intro args g pre r new hF hpre
  unfold F_sqrtUp at hF
  split at hF
  · rename_i a
    simp only [Option.some.injEq, Prod.mk.injEq] at hF
    obtain ⟨rfl, hr, rfl⟩ := hF
    refine ⟨by simp, ?_⟩
    simp (config := { maxSteps := 4000000, implicitDefEqProofs := false }) only [F_fixed_eq, F_sqrtDown_eq, F_wideMul_eq, go_seq', go_reg, go_draw, rest_n, rest_r, rest_e, go_cond, go_block, go_ret_, go_skip, go_exit, blockK_n, blockK_r, blockK_e, ops_nil, ops_gate, ops_move, ops_assign, ops_pick, ops_box, ops_load, ops_store, ops_bin, ops_un, ops_conv, ops_fieldAddr, ops_extract, ops_builtin, ops_call, ops_alloc, ops_build, st1_some, stH_some, stC_nil, reqO_some, cndO_some, putE_some, putE_none, tell_some, look_hit, look_miss, opd_tmp, opd_int, opd_bool, opd_func, opdA_eq, opdP_eq, toA_v, toP_v, sp_eq, cells_p, cells_agg, cellsOf_p, cellsOf_agg, boxO_some, loadO_own, loadC_int, loadC_bool, loadC_pair, storeO_own, storeC_0, storeC_1, storeC_2, storeC_c, size_int, size_bool, size_pair, faddr_0, faddr_1, conv_int, un_not, un_neg, un_xor, ext_0, ext_1, ext_2, max_v, min_v, bin_add, bin_sub, bin_mul, bin_and, bin_or, bin_xor, bin_eql, bin_neq, bin_lss, bin_leq, bin_gtr, bin_geq, grd_b, grd_u, slotV_some, gateP_eq, gateO_some, asBoolS_b, slotOf_tmp, gslot_0, gslot_s, beq_t, beq_f, ↓cnd_t, ↓cnd_f, cnd_not, callR_eq, calleeO_fn, argsO_eq, pairT_some, capsA_nil, capsA_cons, trArgs_nil, trArgs_agg, trArgs_p, trArgs_ptr, ptrT_some, trArgs_clo, cloT_some, consT_some, trPts_nil, trPts_cons, ptsT_some, consP_some, loadCell_own, loadCell_giv, calleeO_clo, tellO_some, argsA_nil, argsA_cons, consO_some, orc_cons, ends_r, ends_n, resAll_nil, resAll_cons, resV_tmp, resV_cell, resC_own, cellV_pair, cellV_int, startEnv, Option.map_some, List.length_nil, List.length_cons, List.nil_append, List.cons_append, List.getElem?_cons_zero, List.getElem?_cons_succ, List.set_cons_zero, List.set_cons_succ, Bool.not_true, Bool.not_false, reduceIte, Nat.reduceEqDiff, Nat.reduceAdd, Nat.reduceLT, partsP_cons, partsP_nil, conP_some, T5, T9, T2, T3, T51, T67, T4, T24, T23, T53, dr_nil, dr_move, dr_assign, dr_box, dr_load, dr_bin, dr_un, dr_conv, dr_fieldAddr, dr_extract, dr_builtin, dr_call, dr_alloc, dr_index, dr_indexAddr, dr_build, dr_buildSlice, dr_makeFunc, dr_store, drawN_p, drawN_g, drawE_s, ifS_t, isW_nil, isW_cons, boxOf_own, boxOf_giv, otherB_s, otherB_n, spares_s, spares_n, ldAt_0, ldAt_s, pure_fieldAddr, pure_field, pure_indexAddr, pure_index, pure_load, pure_call, pure_store, pure_alloc, pure_box, pure_build, dr_field, dr_pick, ops_field, field_0, field_1, okA_nil, okA_cons, headW_nil, headW_cons, headH_nil, headH_cons, bindsA_nil, bindsA_cons, waitsA_nil, waitsA_cons, allWait_0, allWait_s, pure_0, pure_s, pure_move, pure_assign, pure_bin, pure_un, pure_conv, pure_ext, binds_data, binds_chain, binds_guard, binds_phase, binds_text, binds_gc, heapA_nil, heapA_cons, sameLen_self, sameLen_nil, sameLen_cons, sameLen_l, sameLen_set, entries_nil, entries_cons, entC_f, entC_t, entC_n, dstsOf_nil, dstsOf_some, dstsOf_no, valsEnv_nil, valsEnv_some, valsEnv_none, ops_index, ops_indexAddr, ops_buildSlice, blt_lit, beq_lit, Bool.or_true, Bool.true_or, Bool.or_false, Bool.false_or, Bool.and_true, Bool.true_and, Bool.and_self, cond_true, cond_false, List.append_nil, Iv.eta, Option.map_none, T43, T58, alloc_eq, alloc_pair', alloc_int, alloc_bool, build_eq, buildO_01, buildO_0, buildO_1, buildO_n, buildO_a, bsl_eq, bslO_2, idx_eq, idxO_l0, idxO_l1, iad_eq, iadO_l0, iadO_l1, binP_eql', binP_neq', binB_eql', binB_neq', eqT_pt, eqT_pf, eqT_bt, eqT_bf, decide_true, decide_false, seqK_n, seqK_r, seqK_e, loopK_n, loopK_r, loopK_e, reqs_true, Int.zero_sub, wrap_lit, wrapu_lit, Int.reduceLE, Int.reduceLT, Int.reduceAdd, Int.reduceSub, Int.reduceMul, Int.reduceNeg, Int.reduceEq, ops_makeFunc, makeFunc_eq, ptrsO_some, ptrsOf_nil, ptrsOf_cons, consQ_some, funcV_nil, funcV_cons, Option.bind_some, loadO_giv, bin_shr_u64, bin_shl_u64, bin_shr_i64, bin_shl_i64, and_m32', Int.reduceToNat, Int.reducePow, Int.reduceMod, Int.reduceDiv, wrap_u64s, true_or, or_true, true_and, and_true, wide_eq]
    repeat' (first | with_reducible refine cnd_split (fun hc => ?_) (fun hc => ?_) | with_reducible refine Reqs.mk ?_ ?_)
    all_goals first
      | (have h := sqrtDown_t (by assumption); rw [h.2.1]; unfold inR; omega)
      | (have h := sqrtDown_t (by assumption); unfold inR; omega)
      | (have h := sqrtDown_n (by assumption); refine endS_ib (t := (sqrtUp a)) hr ?_; simp_all [fixed]; done)
      | (have h := sqrtDown_t (by assumption : (sqrtDown a).2 = true)
         have h9 : fixOk (rootW (a * 4294967296)) = true := by rw [fixOk_iff]; omega
         have h8 : fixOk (rootW (a * 4294967296) + 1) = true := by rw [fixOk_iff]; omega
         have h7 : IntKind.i64.wrap (rootW (a * 4294967296) + 1) = rootW (a * 4294967296) + 1 := wrap_om (by omega) (by omega)
         refine endS_ib (t := (sqrtUp a)) hr ?_
         rw [sqrtUp_t h.1]
         simp_all [fixed])
  · cases hF

-- spec.l03SqrtUp
theorem spec_l03SqrtUp_sqrtUp_ok : Fn Tryz.prog 164 F_sqrtUp := by
  refine fn_of_go (O := orc [⟨112, F_mulFloor, .inl spec_MulFloor_mulFloor_ok⟩, ⟨163, F_sqrtDown, .inl spec_l03SqrtDown_sqrtDown_ok⟩]) mixed T_ok (orc_sound _) Tryz.func164 (by kernel_rfl) rfl Tryz.ntmps164 (by kernel_rfl) Tryz.results164 ?_
  intro args g pre r new hF hpre
  unfold F_sqrtUp at hF
  split at hF
  · rename_i a
    simp only [Option.some.injEq, Prod.mk.injEq] at hF
    obtain ⟨rfl, hr, rfl⟩ := hF
    refine ⟨by simp, ?_⟩
    simp (config := { maxSteps := 4000000, implicitDefEqProofs := false }) only [F_mulFloor_eq, F_sqrtDown_eq, go_seq', go_reg, go_draw, rest_n, rest_r, rest_e, go_cond, go_block, go_ret_, go_skip, go_exit, blockK_n, blockK_r, blockK_e, ops_nil, ops_gate, ops_move, ops_assign, ops_pick, ops_box, ops_load, ops_store, ops_bin, ops_un, ops_conv, ops_fieldAddr, ops_extract, ops_builtin, ops_call, ops_alloc, ops_build, st1_some, stH_some, stC_nil, reqO_some, cndO_some, putE_some, putE_none, tell_some, look_hit, look_miss, opd_tmp, opd_int, opd_bool, opd_func, opdA_eq, opdP_eq, toA_v, toP_v, sp_eq, cells_p, cells_agg, cellsOf_p, cellsOf_agg, boxO_some, loadO_own, loadC_int, loadC_bool, loadC_pair, storeO_own, storeC_0, storeC_1, storeC_2, storeC_c, size_int, size_bool, size_pair, faddr_0, faddr_1, conv_int, un_not, un_neg, un_xor, ext_0, ext_1, ext_2, max_v, min_v, bin_add, bin_sub, bin_mul, bin_and, bin_or, bin_xor, bin_eql, bin_neq, bin_lss, bin_leq, bin_gtr, bin_geq, grd_b, grd_u, slotV_some, gateP_eq, gateO_some, asBoolS_b, slotOf_tmp, gslot_0, gslot_s, beq_t, beq_f, ↓cnd_t, ↓cnd_f, cnd_not, callR_eq, calleeO_fn, argsO_eq, pairT_some, capsA_nil, capsA_cons, trArgs_nil, trArgs_agg, trArgs_p, trArgs_ptr, ptrT_some, trArgs_clo, cloT_some, consT_some, trPts_nil, trPts_cons, ptsT_some, consP_some, loadCell_own, loadCell_giv, calleeO_clo, tellO_some, argsA_nil, argsA_cons, consO_some, orc_cons, ends_r, ends_n, resAll_nil, resAll_cons, resV_tmp, resV_cell, resC_own, cellV_pair, cellV_int, startEnv, Option.map_some, List.length_nil, List.length_cons, List.nil_append, List.cons_append, List.getElem?_cons_zero, List.getElem?_cons_succ, List.set_cons_zero, List.set_cons_succ, Bool.not_true, Bool.not_false, reduceIte, Nat.reduceEqDiff, Nat.reduceAdd, Nat.reduceLT, partsP_cons, partsP_nil, conP_some, T5, T9, T2, T3, T51, T67, T4, T24, T23, T53, dr_nil, dr_move, dr_assign, dr_box, dr_load, dr_bin, dr_un, dr_conv, dr_fieldAddr, dr_extract, dr_builtin, dr_call, dr_alloc, dr_index, dr_indexAddr, dr_build, dr_buildSlice, dr_makeFunc, dr_store, drawN_p, drawN_g, drawE_s, ifS_t, isW_nil, isW_cons, boxOf_own, boxOf_giv, otherB_s, otherB_n, spares_s, spares_n, ldAt_0, ldAt_s, pure_fieldAddr, pure_field, pure_indexAddr, pure_index, pure_load, pure_call, pure_store, pure_alloc, pure_box, pure_build, dr_field, dr_pick, ops_field, field_0, field_1, okA_nil, okA_cons, headW_nil, headW_cons, headH_nil, headH_cons, bindsA_nil, bindsA_cons, waitsA_nil, waitsA_cons, allWait_0, allWait_s, pure_0, pure_s, pure_move, pure_assign, pure_bin, pure_un, pure_conv, pure_ext, binds_data, binds_chain, binds_guard, binds_phase, binds_text, binds_gc, heapA_nil, heapA_cons, sameLen_self, sameLen_nil, sameLen_cons, sameLen_l, sameLen_set, entries_nil, entries_cons, entC_f, entC_t, entC_n, dstsOf_nil, dstsOf_some, dstsOf_no, valsEnv_nil, valsEnv_some, valsEnv_none, ops_index, ops_indexAddr, ops_buildSlice, blt_lit, beq_lit, Bool.or_true, Bool.true_or, Bool.or_false, Bool.false_or, Bool.and_true, Bool.true_and, Bool.and_self, cond_true, cond_false, List.append_nil, Iv.eta, Option.map_none, T43, T58, alloc_eq, alloc_pair', alloc_int, alloc_bool, build_eq, buildO_01, buildO_0, buildO_1, buildO_n, buildO_a, bsl_eq, bslO_2, idx_eq, idxO_l0, idxO_l1, iad_eq, iadO_l0, iadO_l1, binP_eql', binP_neq', binB_eql', binB_neq', eqT_pt, eqT_pf, eqT_bt, eqT_bf, decide_true, decide_false, seqK_n, seqK_r, seqK_e, loopK_n, loopK_r, loopK_e, reqs_true, Int.zero_sub, wrap_lit, wrapu_lit, Int.reduceLE, Int.reduceLT, Int.reduceAdd, Int.reduceSub, Int.reduceMul, Int.reduceNeg, Int.reduceEq, ops_makeFunc, makeFunc_eq, ptrsO_some, ptrsOf_nil, ptrsOf_cons, consQ_some, funcV_nil, funcV_cons, Option.bind_some, loadO_giv, bin_shr_u64, bin_shl_u64, bin_shr_i64, bin_shl_i64, and_m32', Int.reduceToNat, Int.reducePow, Int.reduceMod, Int.reduceDiv, wrap_u64s, true_or, or_true, true_and, and_true, and_m32i]
    repeat' (first | with_reducible refine cnd_split (fun hc => ?_) (fun hc => ?_) | with_reducible refine Reqs.mk ?_ ?_)
    all_goals first
      | (have h := sqrtDown_t (by assumption); rw [h.2.1]; unfold inR; omega)
      | (have h := sqrtDown_t (by assumption); unfold inR; omega)
      | (have h := sqrtDown_n (by assumption); refine endS_ib (t := (sqrtUp a)) hr ?_; simp_all; done)
      | (have h := sqrtDown_t (by assumption : (sqrtDown a).2 = true)
         have h7 : IntKind.i64.wrap (rootW (a * 4294967296) + 1) = rootW (a * 4294967296) + 1 := wrap_om (by omega) (by omega)
         refine endS_ib (t := (sqrtUp a)) hr ?_
         rw [sqrtUp_t h.1]
         obtain ⟨k1, k2, k3, k4⟩ := h
         generalize (sqrtDown a).1 = n at *
         subst k2
         have h5 := Int.mul_le_mul (a := rootW (a * 4294967296)) (b := rootW (a * 4294967296)) (c := 70368744177664) (d := 70368744177664) (by omega) (by omega) (by omega) (by omega)
         have h6 := Int.mul_nonneg k3 k3
         have hm : (mulFloor (rootW (a * 4294967296)) (rootW (a * 4294967296)) 32).1 = rootW (a * 4294967296) * rootW (a * 4294967296) / 4294967296 := by
           unfold mulFloor wideInt
           rw [if_pos (by rw [within_iff]; simp only [Int.reduceToNat, Int.reducePow]; omega)]; rfl
         simp only [hm, IntKind.wrap_i64, decide_eq_true_eq, decide_eq_false_iff_not, Bool.not_eq_true', Bool.not_eq_false', decide_eq_true_eq] at *
         generalize rootW (a * 4294967296) * rootW (a * 4294967296) = p at *
         split <;> simp only [Prod.mk.injEq, and_true] <;> omega)
  · cases hF

-- sqrtI
def sqrtI (a : Iv) : Iv := if okI a && decide (0 ≤ a.lo) then mkI (sqrtDown a.lo).1 (sqrtUp a.hi).1 else whole
def F_sqrtI : FT
  | [.agg [.int .i64 a1, .int .i64 a2]], _ => some (True, .v (.agg [.int .i64 ((sqrtI (Iv.mk a1 a2))).lo, .int .i64 ((sqrtI (Iv.mk a1 a2))).hi]), [])
  | _, _ => none
theorem F_sqrtI_eq {a1 : Int} {a2 : Int} {g : List PC} : F_sqrtI [.agg [.int .i64 a1, .int .i64 a2]] g = some (True, .v (.agg [.int .i64 ((sqrtI (Iv.mk a1 a2))).lo, .int .i64 ((sqrtI (Iv.mk a1 a2))).hi]), []) := rfl
theorem sqrt_ok2 {a b : Int} (h : okI ⟨a, b⟩ = true) (h0 : 0 ≤ a) : (sqrtDown a).2 = true ∧ (sqrtUp b).2 = true := by
  rw [okI_mk] at h
  have h1 : within a 0 1152921504606846976 = true := by rw [within_iff]; omega
  have h2 : within b 0 1152921504606846976 = true := by rw [within_iff]; omega
  refine ⟨by simp [sqrtDown, h1], ?_⟩
  unfold sqrtUp
  rw [if_pos h2]
  split <;> rfl

-- impl.SqrtI
theorem impl_SqrtI_sqrtI_ok : Fn Tryz.prog 148 F_sqrtI := by
  refine fn_of_go (O := orc [⟨36, F_notOk, .inl impl_IsWhole_notOk_ok⟩, ⟨48, F_whole, .inl impl_Whole_whole_ok⟩, ⟨99, F_bounded, .inl impl_bounded_bounded_ok⟩, ⟨170, F_sqrtDown, .inl impl_SqrtDown_sqrtDown_ok⟩, ⟨171, F_sqrtUp, .inl impl_SqrtUp_sqrtUp_ok⟩]) mixed T_ok (orc_sound _) Tryz.func148 (by kernel_rfl) rfl Tryz.ntmps148 (by kernel_rfl) Tryz.results148 ?_
  intro args g pre r new hF hpre
  unfold F_sqrtI at hF
  split at hF
  · rename_i a1 a2
    simp only [Option.some.injEq, Prod.mk.injEq] at hF
    obtain ⟨rfl, hr, rfl⟩ := hF
    refine ⟨by simp, ?_⟩
    simp (config := { maxSteps := 4000000, implicitDefEqProofs := false }) only [F_bounded_eq, F_notOk_eq, F_sqrtDown_eq, F_sqrtUp_eq, F_whole_eq, go_seq', go_reg, go_draw, rest_n, rest_r, rest_e, go_cond, go_block, go_ret_, go_skip, go_exit, blockK_n, blockK_r, blockK_e, ops_nil, ops_gate, ops_move, ops_assign, ops_pick, ops_box, ops_load, ops_store, ops_bin, ops_un, ops_conv, ops_fieldAddr, ops_extract, ops_builtin, ops_call, ops_alloc, ops_build, st1_some, stH_some, stC_nil, reqO_some, cndO_some, putE_some, putE_none, tell_some, look_hit, look_miss, opd_tmp, opd_int, opd_bool, opd_func, opdA_eq, opdP_eq, toA_v, toP_v, sp_eq, cells_p, cells_agg, cellsOf_p, cellsOf_agg, boxO_some, loadO_own, loadC_int, loadC_bool, loadC_pair, storeO_own, storeC_0, storeC_1, storeC_2, storeC_c, size_int, size_bool, size_pair, faddr_0, faddr_1, conv_int, un_not, un_neg, un_xor, ext_0, ext_1, ext_2, max_v, min_v, bin_add, bin_sub, bin_mul, bin_and, bin_or, bin_xor, bin_eql, bin_neq, bin_lss, bin_leq, bin_gtr, bin_geq, grd_b, grd_u, slotV_some, gateP_eq, gateO_some, asBoolS_b, slotOf_tmp, gslot_0, gslot_s, beq_t, beq_f, ↓cnd_t, ↓cnd_f, cnd_not, callR_eq, calleeO_fn, argsO_eq, pairT_some, capsA_nil, capsA_cons, trArgs_nil, trArgs_agg, trArgs_p, trArgs_ptr, ptrT_some, trArgs_clo, cloT_some, consT_some, trPts_nil, trPts_cons, ptsT_some, consP_some, loadCell_own, loadCell_giv, calleeO_clo, tellO_some, argsA_nil, argsA_cons, consO_some, orc_cons, ends_r, ends_n, resAll_nil, resAll_cons, resV_tmp, resV_cell, resC_own, cellV_pair, cellV_int, startEnv, Option.map_some, List.length_nil, List.length_cons, List.nil_append, List.cons_append, List.getElem?_cons_zero, List.getElem?_cons_succ, List.set_cons_zero, List.set_cons_succ, Bool.not_true, Bool.not_false, reduceIte, Nat.reduceEqDiff, Nat.reduceAdd, Nat.reduceLT, partsP_cons, partsP_nil, conP_some, T5, T9, T2, T3, T51, T67, T4, T24, T23, T53, dr_nil, dr_move, dr_assign, dr_box, dr_load, dr_bin, dr_un, dr_conv, dr_fieldAddr, dr_extract, dr_builtin, dr_call, dr_alloc, dr_index, dr_indexAddr, dr_build, dr_buildSlice, dr_makeFunc, dr_store, drawN_p, drawN_g, drawE_s, ifS_t, isW_nil, isW_cons, boxOf_own, boxOf_giv, otherB_s, otherB_n, spares_s, spares_n, ldAt_0, ldAt_s, pure_fieldAddr, pure_field, pure_indexAddr, pure_index, pure_load, pure_call, pure_store, pure_alloc, pure_box, pure_build, dr_field, dr_pick, ops_field, field_0, field_1, okA_nil, okA_cons, headW_nil, headW_cons, headH_nil, headH_cons, bindsA_nil, bindsA_cons, waitsA_nil, waitsA_cons, allWait_0, allWait_s, pure_0, pure_s, pure_move, pure_assign, pure_bin, pure_un, pure_conv, pure_ext, binds_data, binds_chain, binds_guard, binds_phase, binds_text, binds_gc, heapA_nil, heapA_cons, sameLen_self, sameLen_nil, sameLen_cons, sameLen_l, sameLen_set, entries_nil, entries_cons, entC_f, entC_t, entC_n, dstsOf_nil, dstsOf_some, dstsOf_no, valsEnv_nil, valsEnv_some, valsEnv_none, ops_index, ops_indexAddr, ops_buildSlice, blt_lit, beq_lit, Bool.or_true, Bool.true_or, Bool.or_false, Bool.false_or, Bool.and_true, Bool.true_and, Bool.and_self, cond_true, cond_false, List.append_nil, Iv.eta, Option.map_none, T43, T58, alloc_eq, alloc_pair', alloc_int, alloc_bool, build_eq, buildO_01, buildO_0, buildO_1, buildO_n, buildO_a, bsl_eq, bslO_2, idx_eq, idxO_l0, idxO_l1, iad_eq, iadO_l0, iadO_l1, binP_eql', binP_neq', binB_eql', binB_neq', eqT_pt, eqT_pf, eqT_bt, eqT_bf, decide_true, decide_false, seqK_n, seqK_r, seqK_e, loopK_n, loopK_r, loopK_e, reqs_true, Int.zero_sub, wrap_lit, wrapu_lit, Int.reduceLE, Int.reduceLT, Int.reduceAdd, Int.reduceSub, Int.reduceMul, Int.reduceNeg, Int.reduceEq, ops_makeFunc, makeFunc_eq, ptrsO_some, ptrsOf_nil, ptrsOf_cons, consQ_some, funcV_nil, funcV_cons, Option.bind_some, loadO_giv, bin_shr_u64, bin_shl_u64, bin_shr_i64, bin_shl_i64, and_m32', Int.reduceToNat, Int.reducePow, Int.reduceMod, Int.reduceDiv, wrap_u64s, true_or, or_true, true_and, and_true]
    repeat' (first | with_reducible refine cnd_split (fun hc => ?_) (fun hc => ?_) | with_reducible refine Reqs.mk ?_ ?_)
    all_goals (try simp only [decide_eq_true_eq, decide_eq_false_iff_not] at *)
    all_goals first
      | (refine endS_v (t := (sqrtI (Iv.mk a1 a2))) hr ?_; rw [sqrtI]; simp_all; done)
      | (refine endS_v (t := (sqrtI (Iv.mk a1 a2))) hr ?_
         have h0 : 0 ≤ a1 := by omega
         have h := sqrt_ok2 (by assumption) h0
         simp_all [sqrtI])
      | (refine endS_v (t := (sqrtI (Iv.mk a1 a2))) hr ?_
         have h0 : decide (0 ≤ a1) = false := by simp only [decide_eq_false_iff_not]; omega
         rw [sqrtI]
         simp only [h0, Bool.and_false, Bool.false_eq_true, if_false])
  · cases hF

-- spec.SqrtI
theorem spec_SqrtI_sqrtI_ok : Fn Tryz.prog 142 F_sqrtI := by
  refine fn_of_go (O := orc [⟨81, F_okI, .inl spec_l04Ok_okI_ok⟩, ⟨83, F_whole, .inl spec_l04Whole_whole_ok⟩, ⟨84, F_mkI, .inl spec_l04Make_mkI_ok⟩, ⟨163, F_sqrtDown, .inl spec_l03SqrtDown_sqrtDown_ok⟩, ⟨164, F_sqrtUp, .inl spec_l03SqrtUp_sqrtUp_ok⟩]) mixed T_ok (orc_sound _) Tryz.func142 (by kernel_rfl) rfl Tryz.ntmps142 (by kernel_rfl) Tryz.results142 ?_
  intro args g pre r new hF hpre
  unfold F_sqrtI at hF
  split at hF
  · rename_i a1 a2
    simp only [Option.some.injEq, Prod.mk.injEq] at hF
    obtain ⟨rfl, hr, rfl⟩ := hF
    refine ⟨by simp, ?_⟩
    simp (config := { maxSteps := 4000000, implicitDefEqProofs := false }) only [F_mkI_eq, F_okI_eq, F_sqrtDown_eq, F_sqrtUp_eq, F_whole_eq, go_seq', go_reg, go_draw, rest_n, rest_r, rest_e, go_cond, go_block, go_ret_, go_skip, go_exit, blockK_n, blockK_r, blockK_e, ops_nil, ops_gate, ops_move, ops_assign, ops_pick, ops_box, ops_load, ops_store, ops_bin, ops_un, ops_conv, ops_fieldAddr, ops_extract, ops_builtin, ops_call, ops_alloc, ops_build, st1_some, stH_some, stC_nil, reqO_some, cndO_some, putE_some, putE_none, tell_some, look_hit, look_miss, opd_tmp, opd_int, opd_bool, opd_func, opdA_eq, opdP_eq, toA_v, toP_v, sp_eq, cells_p, cells_agg, cellsOf_p, cellsOf_agg, boxO_some, loadO_own, loadC_int, loadC_bool, loadC_pair, storeO_own, storeC_0, storeC_1, storeC_2, storeC_c, size_int, size_bool, size_pair, faddr_0, faddr_1, conv_int, un_not, un_neg, un_xor, ext_0, ext_1, ext_2, max_v, min_v, bin_add, bin_sub, bin_mul, bin_and, bin_or, bin_xor, bin_eql, bin_neq, bin_lss, bin_leq, bin_gtr, bin_geq, grd_b, grd_u, slotV_some, gateP_eq, gateO_some, asBoolS_b, slotOf_tmp, gslot_0, gslot_s, beq_t, beq_f, ↓cnd_t, ↓cnd_f, cnd_not, callR_eq, calleeO_fn, argsO_eq, pairT_some, capsA_nil, capsA_cons, trArgs_nil, trArgs_agg, trArgs_p, trArgs_ptr, ptrT_some, trArgs_clo, cloT_some, consT_some, trPts_nil, trPts_cons, ptsT_some, consP_some, loadCell_own, loadCell_giv, calleeO_clo, tellO_some, argsA_nil, argsA_cons, consO_some, orc_cons, ends_r, ends_n, resAll_nil, resAll_cons, resV_tmp, resV_cell, resC_own, cellV_pair, cellV_int, startEnv, Option.map_some, List.length_nil, List.length_cons, List.nil_append, List.cons_append, List.getElem?_cons_zero, List.getElem?_cons_succ, List.set_cons_zero, List.set_cons_succ, Bool.not_true, Bool.not_false, reduceIte, Nat.reduceEqDiff, Nat.reduceAdd, Nat.reduceLT, partsP_cons, partsP_nil, conP_some, T5, T9, T2, T3, T51, T67, T4, T24, T23, T53, dr_nil, dr_move, dr_assign, dr_box, dr_load, dr_bin, dr_un, dr_conv, dr_fieldAddr, dr_extract, dr_builtin, dr_call, dr_alloc, dr_index, dr_indexAddr, dr_build, dr_buildSlice, dr_makeFunc, dr_store, drawN_p, drawN_g, drawE_s, ifS_t, isW_nil, isW_cons, boxOf_own, boxOf_giv, otherB_s, otherB_n, spares_s, spares_n, ldAt_0, ldAt_s, pure_fieldAddr, pure_field, pure_indexAddr, pure_index, pure_load, pure_call, pure_store, pure_alloc, pure_box, pure_build, dr_field, dr_pick, ops_field, field_0, field_1, okA_nil, okA_cons, headW_nil, headW_cons, headH_nil, headH_cons, bindsA_nil, bindsA_cons, waitsA_nil, waitsA_cons, allWait_0, allWait_s, pure_0, pure_s, pure_move, pure_assign, pure_bin, pure_un, pure_conv, pure_ext, binds_data, binds_chain, binds_guard, binds_phase, binds_text, binds_gc, heapA_nil, heapA_cons, sameLen_self, sameLen_nil, sameLen_cons, sameLen_l, sameLen_set, entries_nil, entries_cons, entC_f, entC_t, entC_n, dstsOf_nil, dstsOf_some, dstsOf_no, valsEnv_nil, valsEnv_some, valsEnv_none, ops_index, ops_indexAddr, ops_buildSlice, blt_lit, beq_lit, Bool.or_true, Bool.true_or, Bool.or_false, Bool.false_or, Bool.and_true, Bool.true_and, Bool.and_self, cond_true, cond_false, List.append_nil, Iv.eta, Option.map_none, T43, T58, alloc_eq, alloc_pair', alloc_int, alloc_bool, build_eq, buildO_01, buildO_0, buildO_1, buildO_n, buildO_a, bsl_eq, bslO_2, idx_eq, idxO_l0, idxO_l1, iad_eq, iadO_l0, iadO_l1, binP_eql', binP_neq', binB_eql', binB_neq', eqT_pt, eqT_pf, eqT_bt, eqT_bf, decide_true, decide_false, seqK_n, seqK_r, seqK_e, loopK_n, loopK_r, loopK_e, reqs_true, Int.zero_sub, wrap_lit, wrapu_lit, Int.reduceLE, Int.reduceLT, Int.reduceAdd, Int.reduceSub, Int.reduceMul, Int.reduceNeg, Int.reduceEq, ops_makeFunc, makeFunc_eq, ptrsO_some, ptrsOf_nil, ptrsOf_cons, consQ_some, funcV_nil, funcV_cons, Option.bind_some, loadO_giv, bin_shr_u64, bin_shl_u64, bin_shr_i64, bin_shl_i64, and_m32', Int.reduceToNat, Int.reducePow, Int.reduceMod, Int.reduceDiv, wrap_u64s, true_or, or_true, true_and, and_true]
    repeat' (first | with_reducible refine cnd_split (fun hc => ?_) (fun hc => ?_) | with_reducible refine Reqs.mk ?_ ?_)
    all_goals (try simp only [decide_eq_true_eq, decide_eq_false_iff_not] at *)
    all_goals first
      | (refine endS_v (t := (sqrtI (Iv.mk a1 a2))) hr ?_; rw [sqrtI]; simp_all; done)
      | (refine endS_v (t := (sqrtI (Iv.mk a1 a2))) hr ?_
         have h0 : 0 ≤ a1 := by omega
         have h := sqrt_ok2 (by assumption) h0
         simp_all [sqrtI])
      | (refine endS_v (t := (sqrtI (Iv.mk a1 a2))) hr ?_
         have h0 : decide (0 ≤ a1) = false := by simp only [decide_eq_false_iff_not]; omega
         rw [sqrtI]
         simp only [h0, Bool.and_false, Bool.false_eq_true, if_false])
  · cases hF

end Go.Proofs.YtnkdmdjnnbkfgaaGreat.Eng
