/- What functions of the program compute, and that the program computes it: part 18. -/
import Derived.Test.YtcnapkdccjibpaaTab
import Derived.Test.YtcnapkdccjibpaaEng16
import Derived.Laws.BitsLemmas
import Derived.Laws.Bits64
import Derived.Laws.Bits64b
import Derived.Lib.Mul64
import Derived.Lib.BitFns
import Derived.Laws.Externs
import Derived.Test.YtcnapkdccjibpaaL1
import Derived.Test.YtcnapkdccjibpaaL13
import Derived.Test.YtcnapkdccjibpaaL14
import Derived.Test.YtcnapkdccjibpaaL15
import Derived.Test.YtcnapkdccjibpaaL16
import Derived.Test.YtcnapkdccjibpaaL17
namespace Go.Proofs.Ytcnapkdccjibpaa.Eng
open Go Go.RowKit
set_option linter.unusedVariables false
set_option linter.unusedSimpArgs false
set_option maxRecDepth 100000
set_option maxHeartbeats 1000000
-- laws.FnExactPolyAt
theorem laws_FnExactPolyAt_lawPolyAt_ok : Mn Try.prog 5 M_lawPolyAt := by
  refine mn_of_go (O := orcB [⟨18, F_toI, .inl laws_toInterval_toI_ok⟩, ⟨20, F_eqI, .inl laws_eqInterval_eqI_ok⟩] [⟨8, M_szS, false, no_one, laws_szIntervalS_szS_ok⟩, ⟨10, M_toS, false, no_one, laws_toIntervalS_toS_ok⟩, ⟨12, M_eqS, false, no_one, laws_eqIntervalS_eqS_ok⟩, ⟨17, M_pv, false, no_one, spec_PolyAt_pv_ok⟩, ⟨19, M_pv, false, no_one, impl_PolyAt_pv_ok⟩]) mixed T_ok (orcB_sound _ _) Try.func5 (by kernel_rfl) rfl Try.ntmps5 (by kernel_rfl) Try.results5 ?_
  intro m args hp pre r h' hM hpre
  unfold M_lawPolyAt at hM
  split at hM
  · rename_i a n c p q
    simp only [Option.some.injEq, Prod.mk.injEq] at hM
    obtain ⟨rfl, hr, hh⟩ := hM
    subst hh hr
    obtain ⟨k1, k2⟩ := hpre
    refine ⟨by simp, ?_⟩
    by_cases c0 : (n : Int) ≤ 1048576
    · obtain ⟨D, hD⟩ : ∃ D : Int, (if (1048576 : Int) - (n : Int) < 0 then -1 else 1048576 - (n : Int)) = D := ⟨_, rfl⟩
      rw [if_neg (by omega)] at hD
      have e0 : decide (D < 0) = false := by simp only [decide_eq_false_iff_not]; omega
      have hD' : (if (1048576 : Int) - (n : Int) < 0 then -1 else 1048576 - (n : Int)) = D := by rw [if_neg (by omega)]; exact hD
      obtain ⟨L, hL⟩ : ∃ L, ivsAt m a n = L := ⟨_, rfl⟩
      obtain ⟨V, hV⟩ : ∃ V, polyV L ⟨p, q⟩ = V := ⟨_, rfl⟩
      have e2 := eqL_refl L
      have e3 : decide (V.lo = V.lo) = true := by simp
      have e4 : decide (V.hi = V.hi) = true := by simp
      by_cases hn : n = 0
      · have er : ∀ k, rowE k n = .emp k 0 := fun k => by unfold rowE; rw [if_pos hn]
        have hL0 : L = [] := by rw [← hL, hn]; rfl
        rw [hL0] at e2 hL hV
        simp (config := { maxSteps := 4000000, implicitDefEqProofs := false }) only [F_eqI_eq, F_toI_eq, WK0, WK1, WK2, WK3, WK4, WK5, WK6, WK7, WK8, WK9, WK10, WK11, WK12, WK13, WK14, WK15, WK16, WK17, WK18, WK19, WK20, WK21, WK22, WK23, WK24, WK25, WK26, WK27, WK28, WK29, WK30, look_hit, look_miss, List.map_cons, List.map_nil, Nat.add_zero, max_v, min_v, ↓cnd_t, ↓cnd_f, ↓grd_b, ↓grd_u, startEnv, Option.map_some, List.length_nil, List.length_cons, List.nil_append, List.cons_append, List.getElem?_cons_zero, List.getElem?_cons_succ, List.set_cons_zero, List.set_cons_succ, Bool.not_true, Bool.not_false, reduceIte, Nat.reduceEqDiff, Nat.reduceAdd, Nat.reduceLT, blt_lit, beq_lit, Bool.or_true, Bool.true_or, Bool.or_false, Bool.false_or, Bool.and_true, Bool.true_and, Bool.and_self, cond_true, cond_false, List.append_nil, Iv.eta, Option.map_none, idxO_l0, idxO_l1, decide_true, decide_false, reqs_true, Int.zero_sub, wrap_lit, wrapu_lit, Int.reduceLE, Int.reduceLT, Int.reduceAdd, Int.reduceSub, Int.reduceMul, Int.reduceNeg, Int.reduceEq, Option.bind_some, bin_shr_u64, bin_shl_u64, bin_shr_i64, bin_shl_i64, and_m32', Int.reduceToNat, Int.reducePow, Int.reduceMod, Int.reduceDiv, wrap_u64s, true_or, or_true, true_and, and_true, Option.isSome_none, Option.isSome_some, Nat.reduceLeDiff, Nat.reduceMul, Int.toNat_natCast, Int.cast_ofNat_Int, Int.natCast_zero, Int.natCast_one, List.isEmpty_nil, List.isEmpty_cons, List.replicate_zero, List.replicate_succ, T1, T2, T3, T4, T5, T6, T9, T10, T11, T12, T21, T22, T23, T24, T25, T26, T27, T28, T30, T31, T32, T33, T34, T35, T36, T37, T38, T39, T40, T41, T42, T44, T45, T46, T47, T48, T49, T50, T51, T52, T53, T55, T56, T57, T58, T59, T60, T61, T63, T64, T66, T67, T68, T69, T70, T71, T72, T73, T74, T75, T76, T77, T78, T79, T80, T81, T82, T83, T84, T86, T87, T88, T89, T91, T93, T94, T95, T98, T100, T106, T107, T108, T109, T110, T112, T113, lins_polyat, M_szS_eq, hD', e0, M_toS_eq, er, hL, rowOf_emp, M_pv_eq, pvO_some, hV, e3, e4, M_eqS_eq, eqO_some, e2]
        repeat' (first | exact end_true | with_reducible refine cnd_split (fun hc => ?_) (fun hc => ?_) | with_reducible refine Reqs.mk ?_ ?_ | with_reducible refine And.intro ?_ ?_)
        all_goals first | exact k1 | exact end_true | trivial | omega
      · have er : ∀ k, rowE k n = .row k 0 n 2 := fun k => by unfold rowE; rw [if_neg hn]
        have hQ := @rowQ_at m a n (by omega) (by omega)
        rw [hL] at hQ
        simp (config := { maxSteps := 4000000, implicitDefEqProofs := false }) only [F_eqI_eq, F_toI_eq, WK0, WK1, WK2, WK3, WK4, WK5, WK6, WK7, WK8, WK9, WK10, WK11, WK12, WK13, WK14, WK15, WK16, WK17, WK18, WK19, WK20, WK21, WK22, WK23, WK24, WK25, WK26, WK27, WK28, WK29, WK30, look_hit, look_miss, List.map_cons, List.map_nil, Nat.add_zero, max_v, min_v, ↓cnd_t, ↓cnd_f, ↓grd_b, ↓grd_u, startEnv, Option.map_some, List.length_nil, List.length_cons, List.nil_append, List.cons_append, List.getElem?_cons_zero, List.getElem?_cons_succ, List.set_cons_zero, List.set_cons_succ, Bool.not_true, Bool.not_false, reduceIte, Nat.reduceEqDiff, Nat.reduceAdd, Nat.reduceLT, blt_lit, beq_lit, Bool.or_true, Bool.true_or, Bool.or_false, Bool.false_or, Bool.and_true, Bool.true_and, Bool.and_self, cond_true, cond_false, List.append_nil, Iv.eta, Option.map_none, idxO_l0, idxO_l1, decide_true, decide_false, reqs_true, Int.zero_sub, wrap_lit, wrapu_lit, Int.reduceLE, Int.reduceLT, Int.reduceAdd, Int.reduceSub, Int.reduceMul, Int.reduceNeg, Int.reduceEq, Option.bind_some, bin_shr_u64, bin_shl_u64, bin_shr_i64, bin_shl_i64, and_m32', Int.reduceToNat, Int.reducePow, Int.reduceMod, Int.reduceDiv, wrap_u64s, true_or, or_true, true_and, and_true, Option.isSome_none, Option.isSome_some, Nat.reduceLeDiff, Nat.reduceMul, Int.toNat_natCast, Int.cast_ofNat_Int, Int.natCast_zero, Int.natCast_one, List.isEmpty_nil, List.isEmpty_cons, List.replicate_zero, List.replicate_succ, T1, T2, T3, T4, T5, T6, T9, T10, T11, T12, T21, T22, T23, T24, T25, T26, T27, T28, T30, T31, T32, T33, T34, T35, T36, T37, T38, T39, T40, T41, T42, T44, T45, T46, T47, T48, T49, T50, T51, T52, T53, T55, T56, T57, T58, T59, T60, T61, T63, T64, T66, T67, T68, T69, T70, T71, T72, T73, T74, T75, T76, T77, T78, T79, T80, T81, T82, T83, T84, T86, T87, T88, T89, T91, T93, T94, T95, T98, T100, T106, T107, T108, T109, T110, T112, T113, lins_polyat, M_szS_eq, hD', e0, M_toS_eq, er, hL, rowOf_row, ivsC_cells, hQ, M_pv_eq, pvO_some, hV, e3, e4, M_eqS_eq, eqO_some, e2]
        repeat' (first | exact end_true | with_reducible refine cnd_split (fun hc => ?_) (fun hc => ?_) | with_reducible refine Reqs.mk ?_ ?_ | with_reducible refine And.intro ?_ ?_)
        all_goals first | exact k1 | exact end_true | trivial | omega
    · have hD' : (if (1048576 : Int) - (n : Int) < 0 then -1 else 1048576 - (n : Int)) = -1 := by rw [if_pos (by omega)]
      have e0 : decide ((-1 : Int) < 0) = true := by decide
      simp (config := { maxSteps := 4000000, implicitDefEqProofs := false }) only [F_eqI_eq, F_toI_eq, WK0, WK1, WK2, WK3, WK4, WK5, WK6, WK7, WK8, WK9, WK10, WK11, WK12, WK13, WK14, WK15, WK16, WK17, WK18, WK19, WK20, WK21, WK22, WK23, WK24, WK25, WK26, WK27, WK28, WK29, WK30, look_hit, look_miss, List.map_cons, List.map_nil, Nat.add_zero, max_v, min_v, ↓cnd_t, ↓cnd_f, ↓grd_b, ↓grd_u, startEnv, Option.map_some, List.length_nil, List.length_cons, List.nil_append, List.cons_append, List.getElem?_cons_zero, List.getElem?_cons_succ, List.set_cons_zero, List.set_cons_succ, Bool.not_true, Bool.not_false, reduceIte, Nat.reduceEqDiff, Nat.reduceAdd, Nat.reduceLT, blt_lit, beq_lit, Bool.or_true, Bool.true_or, Bool.or_false, Bool.false_or, Bool.and_true, Bool.true_and, Bool.and_self, cond_true, cond_false, List.append_nil, Iv.eta, Option.map_none, idxO_l0, idxO_l1, decide_true, decide_false, reqs_true, Int.zero_sub, wrap_lit, wrapu_lit, Int.reduceLE, Int.reduceLT, Int.reduceAdd, Int.reduceSub, Int.reduceMul, Int.reduceNeg, Int.reduceEq, Option.bind_some, bin_shr_u64, bin_shl_u64, bin_shr_i64, bin_shl_i64, and_m32', Int.reduceToNat, Int.reducePow, Int.reduceMod, Int.reduceDiv, wrap_u64s, true_or, or_true, true_and, and_true, Option.isSome_none, Option.isSome_some, Nat.reduceLeDiff, Nat.reduceMul, Int.toNat_natCast, Int.cast_ofNat_Int, Int.natCast_zero, Int.natCast_one, List.isEmpty_nil, List.isEmpty_cons, List.replicate_zero, List.replicate_succ, T1, T2, T3, T4, T5, T6, T9, T10, T11, T12, T21, T22, T23, T24, T25, T26, T27, T28, T30, T31, T32, T33, T34, T35, T36, T37, T38, T39, T40, T41, T42, T44, T45, T46, T47, T48, T49, T50, T51, T52, T53, T55, T56, T57, T58, T59, T60, T61, T63, T64, T66, T67, T68, T69, T70, T71, T72, T73, T74, T75, T76, T77, T78, T79, T80, T81, T82, T83, T84, T86, T87, T88, T89, T91, T93, T94, T95, T98, T100, T106, T107, T108, T109, T110, T112, T113, lins_polyat, M_szS_eq, hD', e0]
      repeat' (first | with_reducible refine cnd_split (fun hc => ?_) (fun hc => ?_) | with_reducible refine Reqs.mk ?_ ?_)
      all_goals first | trivial | exact end_true | exact ⟨by omega, by omega, by omega⟩
  · cases hM
theorem law_FnExactPolyAt : Mn Try.prog 5 M_lawPolyAt := laws_FnExactPolyAt_lawPolyAt_ok

end Go.Proofs.Ytcnapkdccjibpaa.Eng
