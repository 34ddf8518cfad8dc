/- What functions of the program compute, and that the program computes it: part 36. -/
import Derived.Test.YtcnapkdccjibpaaGreatTab
import Derived.Test.YtcnapkdccjibpaaGreatEng16
import Derived.Laws.BitsLemmas
import Derived.Laws.Bits64
import Derived.Laws.Bits64b
import Derived.Lib.Mul64
import Derived.Lib.BitFns
import Derived.Laws.Externs
import Derived.Test.YtcnapkdccjibpaaGreatL1
import Derived.Test.YtcnapkdccjibpaaGreatL2
import Derived.Test.YtcnapkdccjibpaaGreatL3
import Derived.Test.YtcnapkdccjibpaaGreatL6
import Derived.Test.YtcnapkdccjibpaaGreatL8
import Derived.Test.YtcnapkdccjibpaaGreatL12
import Derived.Test.YtcnapkdccjibpaaGreatL13
import Derived.Test.YtcnapkdccjibpaaGreatL15
import Derived.Test.YtcnapkdccjibpaaGreatL16
import Derived.Test.YtcnapkdccjibpaaGreatL17
import Derived.Test.YtcnapkdccjibpaaGreatL20
import Derived.Test.YtcnapkdccjibpaaGreatL21
import Derived.Test.YtcnapkdccjibpaaGreatL26
import Derived.Test.YtcnapkdccjibpaaGreatL27
import Derived.Test.YtcnapkdccjibpaaGreatL33
import Derived.Test.YtcnapkdccjibpaaGreatL34
import Derived.Test.YtcnapkdccjibpaaGreatL35
namespace Go.Proofs.YtcnapkdccjibpaaGreat.Eng
open Go Go.RowKit
set_option linter.unusedVariables false
set_option linter.unusedSimpArgs false
set_option maxRecDepth 100000
set_option maxHeartbeats 1000000
-- laws.FnExp
theorem laws_FnExp_lawFnExp_ok : Mn Tryz.prog 4 M_lawFnExp := by
  refine mn_of_go (O := orcM [⟨10, F_addI, .inl spec_AddI_addI_ok⟩, ⟨11, F_sqrI, .inl spec_SqrI_sqrI_ok⟩, ⟨13, F_hasI, .inl spec_HasI_hasI_ok⟩, ⟨18, F_overI, .inl spec_OverlapI_overI_ok⟩, ⟨20, F_divI, .inl spec_DivI_divI_ok⟩, ⟨23, F_expI, .inl impl_ExpI_expI_ok⟩, ⟨24, F_sinhI, .inl impl_SinhI_sinhI_ok⟩, ⟨25, F_coshI, .inl impl_CoshI_coshI_ok⟩, ⟨26, F_logI, .inl impl_LogI_logI_ok⟩, ⟨27, F_mulI, .inl spec_MulI_mulI_ok⟩, ⟨28, F_subI, .inl spec_SubI_subI_ok⟩, ⟨29, F_intI, .inl spec_Integer_intI_ok⟩, ⟨30, F_tanhI, .inl impl_TanhI_tanhI_ok⟩, ⟨31, F_asinhI, .inl impl_AsinhI_asinhI_ok⟩, ⟨32, F_atanhI, .inl impl_AtanhI_atanhI_ok⟩, ⟨33, F_powI, .inl impl_PowerI_powI_ok⟩, ⟨34, F_dblI, .inl spec_DoubleI_dblI_ok⟩, ⟨35, F_expA, .inl impl_ExpAt_expA_ok⟩, ⟨36, F_notOk, .inl spec_IsWhole_notOk_ok⟩, ⟨37, F_logA, .inl impl_LogAt_logA_ok⟩] [⟨21, M_a2Long, false, no_one, laws_a2Long_a2Long_ok⟩, ⟨22, M_smalls, false, no_one, spec_A2Smalls_smalls_ok⟩]) mixed T_ok (orcM_sound _ _) Tryz.func4 (by kernel_rfl) rfl Tryz.ntmps4 (by kernel_rfl) Tryz.results4 ?_
  intro m args hp pre r h' hM hpre
  unfold M_lawFnExp at hM
  split at hM
  · rename_i a n c
    simp only [Option.some.injEq, Prod.mk.injEq] at hM
    obtain ⟨rfl, hr, hh⟩ := hM
    subst hh hr
    refine ⟨by simp, ?_⟩
    have en : decide ((3000 : Int) < ((0 : Nat) : Int)) = false := by decide
    by_cases c0 : (3000 : Int) < (n : Int)
    · have e0 : decide ((3000 : Int) < (n : Int)) = true := by simpa using c0
      simp (config := { maxSteps := 4000000, implicitDefEqProofs := false }) only [F_addI_eq, F_asinhI_eq, F_atanhI_eq, F_coshI_eq, F_dblI_eq, F_divI_eq, F_expA_eq, F_expI_eq, F_hasI_eq, F_intI_eq, F_logA_eq, F_logI_eq, F_mulI_eq, F_notOk_eq, F_overI_eq, F_powI_eq, F_sinhI_eq, F_sqrI_eq, F_subI_eq, F_tanhI_eq, WK0, WK1, WK2, WK3, WK4, WK5, WK6, WK7, WK8, WK9, WK10, WK11, WK12, WK13, WK14, WK15, WK16, WK17, WK18, WK19, WK20, WK21, WK22, WK23, WK24, WK25, WK26, WK27, WK28, look_hit, look_miss, List.map_cons, List.map_nil, Nat.add_zero, max_v, min_v, ↓cnd_t, ↓cnd_f, ↓grd_b, ↓grd_u, startEnv, Option.map_some, List.length_nil, List.length_cons, List.nil_append, List.cons_append, List.getElem?_cons_zero, List.getElem?_cons_succ, List.set_cons_zero, List.set_cons_succ, Bool.not_true, Bool.not_false, reduceIte, Nat.reduceEqDiff, Nat.reduceAdd, Nat.reduceLT, blt_lit, beq_lit, Bool.or_true, Bool.true_or, Bool.or_false, Bool.false_or, Bool.and_true, Bool.true_and, Bool.and_self, cond_true, cond_false, List.append_nil, Iv.eta, Option.map_none, idxO_l0, idxO_l1, decide_true, decide_false, reqs_true, Int.zero_sub, wrap_lit, wrapu_lit, Int.reduceLE, Int.reduceLT, Int.reduceAdd, Int.reduceSub, Int.reduceMul, Int.reduceNeg, Int.reduceEq, Option.bind_some, bin_shr_u64, bin_shl_u64, bin_shr_i64, bin_shl_i64, and_m32', Int.reduceToNat, Int.reducePow, Int.reduceMod, Int.reduceDiv, wrap_u64s, true_or, or_true, true_and, and_true, Option.isSome_none, Option.isSome_some, Nat.reduceLeDiff, Nat.reduceMul, Int.toNat_natCast, Int.cast_ofNat_Int, Int.natCast_zero, Int.natCast_one, List.isEmpty_nil, List.isEmpty_cons, List.replicate_zero, List.replicate_succ, T1, T2, T3, T4, T5, T6, T9, T10, T11, T12, T21, T22, T23, T24, T26, T27, T28, T29, T30, T31, T32, T33, T34, T35, T37, T38, T39, T40, T42, T43, T44, T45, T46, T47, T48, T50, T52, T54, T55, T56, T57, T58, T59, T60, T61, T62, T63, T64, T65, T66, T67, T68, T69, T70, T71, T72, T73, T75, T77, T78, T79, T80, T82, T83, T84, T85, T87, T89, T90, T91, T92, T95, T97, T103, T104, T105, T106, T107, T109, T110, M_a2Long_eq, e0, en]
      repeat' (first | with_reducible refine cnd_split (fun hc => ?_) (fun hc => ?_) | with_reducible refine Reqs.mk ?_ ?_)
      all_goals first | trivial | exact endM_same rfl trivial rfl rfl (by simp) rfl
    · have e0 : decide ((3000 : Int) < (n : Int)) = false := by simpa using c0
      have ok0 := sr0_ok (b := 0) hpre (show n ≤ 1048576 by omega) (by omega)
      have b1 := sm4_in (most := 6) ok0 (by omega)
      have b2 := sm4_in (most := 6) b1.2.2.2.2 (by omega)
      obtain ⟨p, hp⟩ : ∃ p, (smA m a n).1.lo = p := ⟨_, rfl⟩
      obtain ⟨q, hq⟩ : ∃ q, (smA m a n).1.hi = q := ⟨_, rfl⟩
      obtain ⟨p', hp'⟩ : ∃ p', (smB m a n).1.lo = p' := ⟨_, rfl⟩
      obtain ⟨q', hq'⟩ : ∃ q', (smB m a n).1.hi = q' := ⟨_, rfl⟩
      change okI (smA m a n).1 = true ∧ -(6 * 4294967296) ≤ (smA m a n).1.lo ∧ (smA m a n).1.hi ≤ 6 * 4294967296 + 4294906760 ∧ _ at b1
      change okI (smB m a n).1 = true ∧ -(6 * 4294967296) ≤ (smB m a n).1.lo ∧ (smB m a n).1.hi ≤ 6 * 4294967296 + 4294906760 ∧ _ at b2
      have k1 := okI_iff.1 b1.1
      have k2 := okI_iff.1 b2.1
      rw [hp, hq] at b1 k1
      rw [hp', hq'] at b2 k2
      obtain ⟨f1, f2, f3, f4, f5, f6, f7, f8⟩ := exp_law (p := p) (q := q) (p' := p') (q' := q') ⟨by omega, by omega⟩ ⟨by omega, by omega⟩ k1.2.1 ⟨by omega, by omega⟩ ⟨by omega, by omega⟩ k2.2.1
      obtain ⟨N, hN⟩ : ∃ N, p.tmod 4294967296 = N := ⟨_, rfl⟩
      have nb : -4294967296 < N ∧ N < 4294967296 := by
        rw [← hN]
        exact ⟨Int.lt_tmod_of_pos p (by decide), Int.tmod_lt_of_pos p (by decide)⟩
      have g := exp_wid nb.1 nb.2
      have gk := okI_iff.1 g.1
      have g1 := g.1
      have g2 : decide (IntKind.i64.wrap ((expA N).hi - (expA N).lo) ≤ 100) = true := by
        rw [wrap_om (by omega) (by omega)]
        simp only [decide_eq_true_eq]; omega
      have g3 := exp_num.1
      have g4 := exp_num.2
      have z0 : decide ((4294967296 : Int) = 0) = false := by decide
      simp (config := { maxSteps := 4000000, implicitDefEqProofs := false }) only [F_addI_eq, F_asinhI_eq, F_atanhI_eq, F_coshI_eq, F_dblI_eq, F_divI_eq, F_expA_eq, F_expI_eq, F_hasI_eq, F_intI_eq, F_logA_eq, F_logI_eq, F_mulI_eq, F_notOk_eq, F_overI_eq, F_powI_eq, F_sinhI_eq, F_sqrI_eq, F_subI_eq, F_tanhI_eq, WK0, WK1, WK2, WK3, WK4, WK5, WK6, WK7, WK8, WK9, WK10, WK11, WK12, WK13, WK14, WK15, WK16, WK17, WK18, WK19, WK20, WK21, WK22, WK23, WK24, WK25, WK26, WK27, WK28, look_hit, look_miss, List.map_cons, List.map_nil, Nat.add_zero, max_v, min_v, ↓cnd_t, ↓cnd_f, ↓grd_b, ↓grd_u, startEnv, Option.map_some, List.length_nil, List.length_cons, List.nil_append, List.cons_append, List.getElem?_cons_zero, List.getElem?_cons_succ, List.set_cons_zero, List.set_cons_succ, Bool.not_true, Bool.not_false, reduceIte, Nat.reduceEqDiff, Nat.reduceAdd, Nat.reduceLT, blt_lit, beq_lit, Bool.or_true, Bool.true_or, Bool.or_false, Bool.false_or, Bool.and_true, Bool.true_and, Bool.and_self, cond_true, cond_false, List.append_nil, Iv.eta, Option.map_none, idxO_l0, idxO_l1, decide_true, decide_false, reqs_true, Int.zero_sub, wrap_lit, wrapu_lit, Int.reduceLE, Int.reduceLT, Int.reduceAdd, Int.reduceSub, Int.reduceMul, Int.reduceNeg, Int.reduceEq, Option.bind_some, bin_shr_u64, bin_shl_u64, bin_shr_i64, bin_shl_i64, and_m32', Int.reduceToNat, Int.reducePow, Int.reduceMod, Int.reduceDiv, wrap_u64s, true_or, or_true, true_and, and_true, Option.isSome_none, Option.isSome_some, Nat.reduceLeDiff, Nat.reduceMul, Int.toNat_natCast, Int.cast_ofNat_Int, Int.natCast_zero, Int.natCast_one, List.isEmpty_nil, List.isEmpty_cons, List.replicate_zero, List.replicate_succ, T1, T2, T3, T4, T5, T6, T9, T10, T11, T12, T21, T22, T23, T24, T26, T27, T28, T29, T30, T31, T32, T33, T34, T35, T37, T38, T39, T40, T42, T43, T44, T45, T46, T47, T48, T50, T52, T54, T55, T56, T57, T58, T59, T60, T61, T62, T63, T64, T65, T66, T67, T68, T69, T70, T71, T72, T73, T75, T77, T78, T79, T80, T82, T83, T84, T85, T87, T89, T90, T91, T92, T95, T97, T103, T104, T105, T106, T107, T109, T110, M_a2Long_eq, e0, en, M_smalls_eq, hp, hq, hp', hq', hN, bin_rem_c, z0, f1, f2, f3, f4, f5, f6, f7, f8, g1, g2, g3, g4, Iv.eta]
      repeat' (first | with_reducible refine cnd_split (fun hc => ?_) (fun hc => ?_) | with_reducible refine Reqs.mk ?_ ?_)
      all_goals first
        | trivial
        | exact endM_same rfl trivial rfl rfl (by simp) rfl
        | exact ⟨hpre, by omega⟩
        | (unfold inR; omega)

  · cases hM
theorem law_FnExp : Mn Tryz.prog 4 M_lawFnExp := laws_FnExp_lawFnExp_ok

end Go.Proofs.YtcnapkdccjibpaaGreat.Eng
