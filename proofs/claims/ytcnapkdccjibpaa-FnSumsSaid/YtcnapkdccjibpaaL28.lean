/- What functions of the program compute, and that the program computes it: part 28. -/
import Derived.Test.YtcnapkdccjibpaaTab
import Derived.Test.YtcnapkdccjibpaaEng16
import Derived.Laws.BitsLemmas
import Derived.Laws.Bits64
import Derived.Laws.Bits64b
import Derived.Lib.Mul64
import Derived.Lib.BitFns
import Derived.Laws.Externs
import Derived.Test.YtcnapkdccjibpaaL1
import Derived.Test.YtcnapkdccjibpaaL2
import Derived.Test.YtcnapkdccjibpaaL3
import Derived.Test.YtcnapkdccjibpaaL5
import Derived.Test.YtcnapkdccjibpaaL7
import Derived.Test.YtcnapkdccjibpaaL15
import Derived.Test.YtcnapkdccjibpaaL23
import Derived.Test.YtcnapkdccjibpaaL24
import Derived.Test.YtcnapkdccjibpaaL25
import Derived.Test.YtcnapkdccjibpaaL26
import Derived.Test.YtcnapkdccjibpaaL27
namespace Go.Proofs.Ytcnapkdccjibpaa.Eng
open Go Go.RowKit
set_option linter.unusedVariables false
set_option linter.unusedSimpArgs false
set_option maxRecDepth 100000
set_option maxHeartbeats 1000000
-- laws.FnSums
theorem laws_FnSums_lawFnSums_ok : Mn Try.prog 7 M_lawFnSums := by
  refine mn_of_go (O := orcM [⟨25, F_sinAt, .inl impl_SinAt_sinAt_ok⟩, ⟨26, F_cosAt, .inl impl_CosAt_cosAt_ok⟩, ⟨27, F_addI, .inl spec_AddI_addI_ok⟩, ⟨28, F_mulI, .inl spec_MulI_mulI_ok⟩, ⟨29, F_subI, .inl spec_SubI_subI_ok⟩, ⟨30, F_overI, .inl spec_OverlapI_overI_ok⟩, ⟨31, F_negI, .inl spec_NegI_negI_ok⟩] [⟨23, M_d8Long, false, no_one, laws_d8Long_d8Long_ok⟩, ⟨24, M_angles, false, no_one, spec_E8Angles_angles_ok⟩]) mixed T_ok (orcM_sound _ _) Try.func7 (by kernel_rfl) rfl Try.ntmps7 (by kernel_rfl) Try.results7 ?_
  intro m args hp pre r h' hM hpre
  unfold M_lawFnSums at hM
  split at hM
  · rename_i a n c a' n' c'
    simp only [Option.some.injEq, Prod.mk.injEq] at hM
    obtain ⟨rfl, hr, hh⟩ := hM
    subst hh hr
    obtain ⟨t1, t2⟩ := hpre
    refine ⟨by simp, ?_⟩
    by_cases c0 : (decide (1048576 < (n : Int)) || decide (1048576 < (n' : Int))) = true
    · simp (config := { maxSteps := 4000000, implicitDefEqProofs := false }) only [F_addI_eq, F_cosAt_eq, F_mulI_eq, F_negI_eq, F_overI_eq, F_sinAt_eq, F_subI_eq, WK0, WK1, WK2, WK3, WK4, WK5, WK6, WK7, WK8, WK9, WK10, WK11, WK12, WK13, WK14, WK15, WK16, WK17, WK18, WK19, WK20, WK21, WK22, WK23, WK24, WK25, WK26, WK27, WK28, look_hit, look_miss, List.map_cons, List.map_nil, Nat.add_zero, max_v, min_v, ↓cnd_t, ↓cnd_f, ↓grd_b, ↓grd_u, startEnv, Option.map_some, List.length_nil, List.length_cons, List.nil_append, List.cons_append, List.getElem?_cons_zero, List.getElem?_cons_succ, List.set_cons_zero, List.set_cons_succ, Bool.not_true, Bool.not_false, reduceIte, Nat.reduceEqDiff, Nat.reduceAdd, Nat.reduceLT, blt_lit, beq_lit, Bool.or_true, Bool.true_or, Bool.or_false, Bool.false_or, Bool.and_true, Bool.true_and, Bool.and_self, cond_true, cond_false, List.append_nil, Iv.eta, Option.map_none, idxO_l0, idxO_l1, decide_true, decide_false, reqs_true, Int.zero_sub, wrap_lit, wrapu_lit, Int.reduceLE, Int.reduceLT, Int.reduceAdd, Int.reduceSub, Int.reduceMul, Int.reduceNeg, Int.reduceEq, Option.bind_some, bin_shr_u64, bin_shl_u64, bin_shr_i64, bin_shl_i64, and_m32', Int.reduceToNat, Int.reducePow, Int.reduceMod, Int.reduceDiv, wrap_u64s, true_or, or_true, true_and, and_true, Option.isSome_none, Option.isSome_some, Nat.reduceLeDiff, Nat.reduceMul, Int.toNat_natCast, Int.cast_ofNat_Int, Int.natCast_zero, Int.natCast_one, List.isEmpty_nil, List.isEmpty_cons, List.replicate_zero, List.replicate_succ, T1, T2, T3, T4, T5, T6, T9, T10, T11, T12, T21, T22, T23, T24, T25, T26, T27, T28, T30, T31, T32, T33, T34, T35, T36, T37, T38, T39, T40, T41, T42, T44, T45, T46, T47, T48, T49, T50, T51, T52, T53, T55, T56, T57, T58, T59, T60, T61, T63, T64, T66, T67, T68, T69, T70, T71, T72, T73, T74, T75, T76, T77, T78, T79, T80, T81, T82, T83, T84, T86, T87, T88, T89, T91, T93, T94, T95, T98, T100, T106, T107, T108, T109, T110, T112, T113, M_d8Long_eq, c0]
      repeat' (first | with_reducible refine cnd_split (fun hc => ?_) (fun hc => ?_) | with_reducible refine Reqs.mk ?_ ?_)
      all_goals first | trivial | exact endM_same rfl trivial rfl rfl (by simp) rfl
    · have e0 : (decide (1048576 < (n : Int)) || decide (1048576 < (n' : Int))) = false := by simpa using c0
      simp only [Bool.or_eq_true, decide_eq_true_eq, not_or] at c0
      have b1 := angle_ok t1 (show n ≤ 1048576 by omega)
      have b2 := angle_ok t2 (show n' ≤ 1048576 by omega)
      obtain ⟨x, hx⟩ : ∃ x, angM m a n = x := ⟨_, rfl⟩
      obtain ⟨y, hy⟩ : ∃ y, angM m a' n' = y := ⟨_, rfl⟩
      rw [hx] at b1
      rw [hy] at b2
      have ox : angleOk x = true := angle_of (by omega)
      have oy : angleOk y = true := angle_of (by omega)
      have os : angleOk (x + y) = true := angle_of (by omega)
      have on : angleOk (-x) = true := angle_of (by omega)
      have f1 : (meetI (circ (x + y) 0) (addI (mulI (circ x 0) (circ y 1)) (mulI (circ x 1) (circ y 0)))).2 = true := sum_sin ox oy os
      have f2 : (meetI (circ (x + y) 1) (subI (mulI (circ x 1) (circ y 1)) (mulI (circ x 0) (circ y 0)))).2 = true := sum_cos ox oy os
      have f3 : (meetI (circ (-x) 0) (negI (circ x 0))).2 = true := neg_sin ox on
      have f4 : (meetI (circ (-x) 1) (circ x 1)).2 = true := neg_cos ox on
      have w1 : IntKind.i64.wrap (x + y) = x + y := wrap_om (by omega) (by omega)
      have w2 : IntKind.i64.wrap (-x) = -x := wrap_om (by omega) (by omega)
      simp (config := { maxSteps := 4000000, implicitDefEqProofs := false }) only [F_addI_eq, F_cosAt_eq, F_mulI_eq, F_negI_eq, F_overI_eq, F_sinAt_eq, F_subI_eq, WK0, WK1, WK2, WK3, WK4, WK5, WK6, WK7, WK8, WK9, WK10, WK11, WK12, WK13, WK14, WK15, WK16, WK17, WK18, WK19, WK20, WK21, WK22, WK23, WK24, WK25, WK26, WK27, WK28, look_hit, look_miss, List.map_cons, List.map_nil, Nat.add_zero, max_v, min_v, ↓cnd_t, ↓cnd_f, ↓grd_b, ↓grd_u, startEnv, Option.map_some, List.length_nil, List.length_cons, List.nil_append, List.cons_append, List.getElem?_cons_zero, List.getElem?_cons_succ, List.set_cons_zero, List.set_cons_succ, Bool.not_true, Bool.not_false, reduceIte, Nat.reduceEqDiff, Nat.reduceAdd, Nat.reduceLT, blt_lit, beq_lit, Bool.or_true, Bool.true_or, Bool.or_false, Bool.false_or, Bool.and_true, Bool.true_and, Bool.and_self, cond_true, cond_false, List.append_nil, Iv.eta, Option.map_none, idxO_l0, idxO_l1, decide_true, decide_false, reqs_true, Int.zero_sub, wrap_lit, wrapu_lit, Int.reduceLE, Int.reduceLT, Int.reduceAdd, Int.reduceSub, Int.reduceMul, Int.reduceNeg, Int.reduceEq, Option.bind_some, bin_shr_u64, bin_shl_u64, bin_shr_i64, bin_shl_i64, and_m32', Int.reduceToNat, Int.reducePow, Int.reduceMod, Int.reduceDiv, wrap_u64s, true_or, or_true, true_and, and_true, Option.isSome_none, Option.isSome_some, Nat.reduceLeDiff, Nat.reduceMul, Int.toNat_natCast, Int.cast_ofNat_Int, Int.natCast_zero, Int.natCast_one, List.isEmpty_nil, List.isEmpty_cons, List.replicate_zero, List.replicate_succ, T1, T2, T3, T4, T5, T6, T9, T10, T11, T12, T21, T22, T23, T24, T25, T26, T27, T28, T30, T31, T32, T33, T34, T35, T36, T37, T38, T39, T40, T41, T42, T44, T45, T46, T47, T48, T49, T50, T51, T52, T53, T55, T56, T57, T58, T59, T60, T61, T63, T64, T66, T67, T68, T69, T70, T71, T72, T73, T74, T75, T76, T77, T78, T79, T80, T81, T82, T83, T84, T86, T87, T88, T89, T91, T93, T94, T95, T98, T100, T106, T107, T108, T109, T110, T112, T113, M_d8Long_eq, M_angles_eq, e0, hx, hy, w1, w2, f1, f2, f3, f4, Iv.eta]
      repeat' (first | with_reducible refine cnd_split (fun hc => ?_) (fun hc => ?_) | with_reducible refine Reqs.mk ?_ ?_)
      all_goals first
        | trivial
        | exact endM_same rfl trivial rfl rfl (by simp) rfl
        | exact ⟨t1, by omega⟩
        | exact ⟨t2, by omega⟩
  · cases hM
theorem law_FnSums : Mn Try.prog 7 M_lawFnSums := laws_FnSums_lawFnSums_ok

end Go.Proofs.Ytcnapkdccjibpaa.Eng
