/- What functions of the program compute, and that the program computes it: part 8. -/
import Derived.Test.YtcnapkdccjibpaaDoorTab
import Derived.Test.YtcnapkdccjibpaaDoorEng16
import Derived.Laws.BitsLemmas
import Derived.Laws.Bits64
import Derived.Laws.Bits64b
import Derived.Lib.Mul64
import Derived.Lib.BitFns
import Derived.Laws.Externs
import Derived.Test.YtcnapkdccjibpaaDoorL1
import Derived.Test.YtcnapkdccjibpaaDoorL2
import Derived.Test.YtcnapkdccjibpaaDoorL6
import Derived.Test.YtcnapkdccjibpaaDoorL7
namespace Go.Proofs.YtcnapkdccjibpaaDoor.Eng
open Go Go.RowKit
set_option linter.unusedVariables false
set_option linter.unusedSimpArgs false
set_option maxRecDepth 100000
set_option maxHeartbeats 1000000
-- spec.l04Text
theorem spec_l04Text_ivText_ok : Fn Tryd.prog 7 F_ivText := by
  refine fn_of_go (O := orc [⟨11, F_okI, .inl spec_l04Ok_okI_ok⟩, ⟨12, F_textB, .inl spec_l03Text_textB_ok⟩]) mixed T_ok (orc_sound _) Tryd.func7 (by kernel_rfl) rfl Tryd.ntmps7 (by kernel_rfl) Tryd.results7 ?_
  intro args g pre r new hF hpre
  unfold F_ivText at hF
  split at hF
  · rename_i a1 a2
    simp only [Option.some.injEq, Prod.mk.injEq] at hF
    obtain ⟨rfl, hr, rfl⟩ := hF
    refine ⟨by simp, ?_⟩
    have k1 := textD_len a1
    have k2 := textU_len a2
    obtain ⟨s1, hs1⟩ : ∃ s1, textD a1 9 = s1 := ⟨_, rfl⟩
    obtain ⟨s2, hs2⟩ : ∃ s2, textU a2 9 = s2 := ⟨_, rfl⟩
    rw [hs1] at k1
    rw [hs2] at k2
    have f1 : shortL s1 = true := shortL_of (by omega)
    have f2 : shortL s2 = true := shortL_of (by omega)
    have f3 : shortL (91 :: s1) = true := shortL_of (by simp; omega)
    have f4 : shortL (91 :: (s1 ++ [44, 32])) = true := shortL_of (by simp; omega)
    have f5 : shortL (91 :: (s1 ++ [44, 32] ++ s2)) = true := shortL_of (by simp; omega)
    cases hk : okI ⟨a1, a2⟩ with
    | true =>
      have hI := ivL_o hk
      simp only [hs1, hs2] at hI
      simp (config := { maxSteps := 4000000, implicitDefEqProofs := false }) only [F_okI_eq, F_textB_eq, WK0, WK1, WK2, WK3, WK4, WK5, WK6, WK7, WK8, WK9, WK10, WK11, WK12, WK13, WK14, WK15, WK16, WK17, WK18, WK19, WK20, WK21, WK22, WK23, WK24, WK25, WK26, WK27, WK28, look_hit, look_miss, List.map_cons, List.map_nil, Nat.add_zero, max_v, min_v, ↓cnd_t, ↓cnd_f, ↓grd_b, ↓grd_u, startEnv, Option.map_some, List.length_nil, List.length_cons, List.nil_append, List.cons_append, List.getElem?_cons_zero, List.getElem?_cons_succ, List.set_cons_zero, List.set_cons_succ, Bool.not_true, Bool.not_false, reduceIte, Nat.reduceEqDiff, Nat.reduceAdd, Nat.reduceLT, blt_lit, beq_lit, Bool.or_true, Bool.true_or, Bool.or_false, Bool.false_or, Bool.and_true, Bool.true_and, Bool.and_self, cond_true, cond_false, List.append_nil, Iv.eta, Option.map_none, idxO_l0, idxO_l1, decide_true, decide_false, reqs_true, Int.zero_sub, wrap_lit, wrapu_lit, Int.reduceLE, Int.reduceLT, Int.reduceAdd, Int.reduceSub, Int.reduceMul, Int.reduceNeg, Int.reduceEq, Option.bind_some, bin_shr_u64, bin_shl_u64, bin_shr_i64, bin_shl_i64, and_m32', Int.reduceToNat, Int.reducePow, Int.reduceMod, Int.reduceDiv, wrap_u64s, true_or, or_true, true_and, and_true, Option.isSome_none, Option.isSome_some, Nat.reduceLeDiff, Nat.reduceMul, Int.toNat_natCast, Int.cast_ofNat_Int, Int.natCast_zero, Int.natCast_one, List.isEmpty_nil, List.isEmpty_cons, List.replicate_zero, List.replicate_succ, T1, T2, T3, T4, T5, T6, T9, T10, T11, T12, T21, T22, T23, T24, T25, T26, T27, T28, T29, T30, T31, T32, T34, T35, T36, T37, T38, T39, T40, T41, T42, T43, T44, T45, T47, T48, T50, T51, T53, T56, T60, T61, T62, T63, T64, T65, T67, T69, T70, T71, T72, T74, T76, T77, T78, T79, T80, T82, T83, T84, T85, T86, T92, T93, T94, T95, T96, T99, hk, ite_tt, ite_ft, hs1, hs2, f1, f2, f3, f4, f5]
      repeat' (first | with_reducible refine cnd_split (fun hc => ?_) (fun hc => ?_) | with_reducible refine Reqs.mk ?_ ?_)
      all_goals first | trivial | (refine endS_s (t := (ivL (Iv.mk a1 a2))) hr ?_; rw [hI]; simp)
    | false =>
      have hI := ivL_w hk
      simp (config := { maxSteps := 4000000, implicitDefEqProofs := false }) only [F_okI_eq, F_textB_eq, WK0, WK1, WK2, WK3, WK4, WK5, WK6, WK7, WK8, WK9, WK10, WK11, WK12, WK13, WK14, WK15, WK16, WK17, WK18, WK19, WK20, WK21, WK22, WK23, WK24, WK25, WK26, WK27, WK28, look_hit, look_miss, List.map_cons, List.map_nil, Nat.add_zero, max_v, min_v, ↓cnd_t, ↓cnd_f, ↓grd_b, ↓grd_u, startEnv, Option.map_some, List.length_nil, List.length_cons, List.nil_append, List.cons_append, List.getElem?_cons_zero, List.getElem?_cons_succ, List.set_cons_zero, List.set_cons_succ, Bool.not_true, Bool.not_false, reduceIte, Nat.reduceEqDiff, Nat.reduceAdd, Nat.reduceLT, blt_lit, beq_lit, Bool.or_true, Bool.true_or, Bool.or_false, Bool.false_or, Bool.and_true, Bool.true_and, Bool.and_self, cond_true, cond_false, List.append_nil, Iv.eta, Option.map_none, idxO_l0, idxO_l1, decide_true, decide_false, reqs_true, Int.zero_sub, wrap_lit, wrapu_lit, Int.reduceLE, Int.reduceLT, Int.reduceAdd, Int.reduceSub, Int.reduceMul, Int.reduceNeg, Int.reduceEq, Option.bind_some, bin_shr_u64, bin_shl_u64, bin_shr_i64, bin_shl_i64, and_m32', Int.reduceToNat, Int.reducePow, Int.reduceMod, Int.reduceDiv, wrap_u64s, true_or, or_true, true_and, and_true, Option.isSome_none, Option.isSome_some, Nat.reduceLeDiff, Nat.reduceMul, Int.toNat_natCast, Int.cast_ofNat_Int, Int.natCast_zero, Int.natCast_one, List.isEmpty_nil, List.isEmpty_cons, List.replicate_zero, List.replicate_succ, T1, T2, T3, T4, T5, T6, T9, T10, T11, T12, T21, T22, T23, T24, T25, T26, T27, T28, T29, T30, T31, T32, T34, T35, T36, T37, T38, T39, T40, T41, T42, T43, T44, T45, T47, T48, T50, T51, T53, T56, T60, T61, T62, T63, T64, T65, T67, T69, T70, T71, T72, T74, T76, T77, T78, T79, T80, T82, T83, T84, T85, T86, T92, T93, T94, T95, T96, T99, hk]
      repeat' (first | with_reducible refine cnd_split (fun hc => ?_) (fun hc => ?_) | with_reducible refine Reqs.mk ?_ ?_)
      all_goals first | trivial | (refine endS_s (t := (ivL (Iv.mk a1 a2))) hr ?_; rw [hI])
  · cases hF

-- spec.IntervalText
theorem spec_IntervalText_ivText_ok : Fn Tryd.prog 4 F_ivText := by
  refine fn_of_go (O := orc [⟨7, F_ivText, .inl spec_l04Text_ivText_ok⟩]) mixed T_ok (orc_sound _) Tryd.func4 (by kernel_rfl) rfl Tryd.ntmps4 (by kernel_rfl) Tryd.results4 ?_
  intro args g pre r new hF hpre
  unfold F_ivText at hF
  split at hF
  · rename_i a1 a2
    simp only [Option.some.injEq, Prod.mk.injEq] at hF
    obtain ⟨rfl, hr, rfl⟩ := hF
    refine ⟨by simp, ?_⟩
    simp (config := { maxSteps := 4000000, implicitDefEqProofs := false }) only [F_ivText_eq, WK0, WK1, WK2, WK3, WK4, WK5, WK6, WK7, WK8, WK9, WK10, WK11, WK12, WK13, WK14, WK15, WK16, WK17, WK18, WK19, WK20, WK21, WK22, WK23, WK24, WK25, WK26, WK27, WK28, look_hit, look_miss, List.map_cons, List.map_nil, Nat.add_zero, max_v, min_v, ↓cnd_t, ↓cnd_f, ↓grd_b, ↓grd_u, startEnv, Option.map_some, List.length_nil, List.length_cons, List.nil_append, List.cons_append, List.getElem?_cons_zero, List.getElem?_cons_succ, List.set_cons_zero, List.set_cons_succ, Bool.not_true, Bool.not_false, reduceIte, Nat.reduceEqDiff, Nat.reduceAdd, Nat.reduceLT, blt_lit, beq_lit, Bool.or_true, Bool.true_or, Bool.or_false, Bool.false_or, Bool.and_true, Bool.true_and, Bool.and_self, cond_true, cond_false, List.append_nil, Iv.eta, Option.map_none, idxO_l0, idxO_l1, decide_true, decide_false, reqs_true, Int.zero_sub, wrap_lit, wrapu_lit, Int.reduceLE, Int.reduceLT, Int.reduceAdd, Int.reduceSub, Int.reduceMul, Int.reduceNeg, Int.reduceEq, Option.bind_some, bin_shr_u64, bin_shl_u64, bin_shr_i64, bin_shl_i64, and_m32', Int.reduceToNat, Int.reducePow, Int.reduceMod, Int.reduceDiv, wrap_u64s, true_or, or_true, true_and, and_true, Option.isSome_none, Option.isSome_some, Nat.reduceLeDiff, Nat.reduceMul, Int.toNat_natCast, Int.cast_ofNat_Int, Int.natCast_zero, Int.natCast_one, List.isEmpty_nil, List.isEmpty_cons, List.replicate_zero, List.replicate_succ, T1, T2, T3, T4, T5, T6, T9, T10, T11, T12, T21, T22, T23, T24, T25, T26, T27, T28, T29, T30, T31, T32, T34, T35, T36, T37, T38, T39, T40, T41, T42, T43, T44, T45, T47, T48, T50, T51, T53, T56, T60, T61, T62, T63, T64, T65, T67, T69, T70, T71, T72, T74, T76, T77, T78, T79, T80, T82, T83, T84, T85, T86, T92, T93, T94, T95, T96, T99]
    repeat' (first | with_reducible refine cnd_split (fun hc => ?_) (fun hc => ?_) | with_reducible refine Reqs.mk ?_ ?_)
    all_goals first | trivial | (refine endS_s (t := (ivL (Iv.mk a1 a2))) hr ?_; rfl)
  · cases hF

end Go.Proofs.YtcnapkdccjibpaaDoor.Eng
