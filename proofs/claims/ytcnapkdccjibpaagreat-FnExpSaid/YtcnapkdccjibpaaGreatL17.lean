/- What functions of the program compute, and that the program computes it: part 17. -/
import Derived.Test.YtcnapkdccjibpaaGreatTab
import Derived.Test.YtcnapkdccjibpaaGreatEng16
import Derived.Laws.BitsLemmas
import Derived.Laws.Bits64
import Derived.Laws.Bits64b
import Derived.Lib.Mul64
import Derived.Lib.BitFns
import Derived.Laws.Externs
import Derived.Test.YtcnapkdccjibpaaGreatL1
import Derived.Test.YtcnapkdccjibpaaGreatL2
import Derived.Test.YtcnapkdccjibpaaGreatL3
import Derived.Test.YtcnapkdccjibpaaGreatL6
import Derived.Test.YtcnapkdccjibpaaGreatL8
import Derived.Test.YtcnapkdccjibpaaGreatL12
import Derived.Test.YtcnapkdccjibpaaGreatL16
namespace Go.Proofs.YtcnapkdccjibpaaGreat.Eng
open Go Go.RowKit
set_option linter.unusedVariables false
set_option linter.unusedSimpArgs false
set_option maxRecDepth 100000
set_option maxHeartbeats 1000000
-- impl.LogAt
theorem impl_LogAt_logA_ok : Fn Tryz.prog 37 F_logA := by
  refine fn_of_go (O := orc [⟨71, F_whole, .inl impl_Whole_whole_ok⟩, ⟨74, F_divI, .inl impl_DivI_divI_ok⟩, ⟨83, F_subI, .inl impl_SubI_subI_ok⟩, ⟨86, F_addI, .inl impl_AddI_addI_ok⟩, ⟨90, F_intI, .inl impl_Integer_intI_ok⟩, ⟨92, F_atI, .inl impl_at_atI_ok⟩, ⟨94, F_sqrI, .inl impl_SqrI_sqrI_ok⟩, ⟨95, F_lnI, .inl impl_LogTwoI_lnI_ok⟩, ⟨99, F_mulI, .inl impl_MulI_mulI_ok⟩, ⟨100, F_fixOk, .inl impl_ValidFix_fixOk_ok⟩, ⟨102, F_widI, .inl impl_widened_widI_ok⟩, ⟨103, F_tw, .inl impl_twosOf_tw_ok⟩, ⟨104, F_quotI, .inl impl_Quotient_quotI_ok⟩]) mixed T_ok (orc_sound _) Tryz.func37 (by kernel_rfl) rfl Tryz.ntmps37 (by kernel_rfl) Tryz.results37 ?_
  intro args g pre r new hF hpre
  unfold F_logA at hF
  split at hF
  · rename_i n
    simp only [Option.some.injEq, Prod.mk.injEq] at hF
    obtain ⟨rfl, hr, rfl⟩ := hF
    refine ⟨by simp, ?_⟩
    by_cases hn : 1 ≤ n ∧ n ≤ 1152921504606846976
    · have hA := logA_in (within_iff.2 hn)
      have c1 : fixOk n = true := by rw [fixOk_iff]; omega
      have c2 : decide (n ≤ 0) = false := by simp only [decide_eq_false_iff_not]; omega
      have hge := twU_ge 64 n 0
      have hgd := twD_ge 64 n 0
      have w1 : IntKind.i64.wrap (-n) = -n := wrap_om (by omega) (by omega)
      by_cases hU : 0 < twU 64 n 0
      · have hT := tw_pos hU
        obtain ⟨u, eu⟩ : ∃ u, twU 64 n 0 = u := ⟨_, rfl⟩
        rw [eu] at hT hU hge
        have u64 : u ≤ 64 := by omega
        have c3 : decide (0 < (u : Int)) = true := by simp only [decide_eq_true_eq]; omega
        have w2 : IntKind.i64.wrap (-(-n / 2 ^ u)) = -(-n / 2 ^ u) := up_in hn
        have hM : logM n = ⟨n / 2 ^ u, -(-n / 2 ^ u)⟩ := by
          unfold logM
          rw [if_pos (by omega), show (tw n).toNat = u by omega]
        have hZ : divI (subI ⟨n / 2 ^ u, -(-n / 2 ^ u)⟩ (intI 1)) (addI ⟨n / 2 ^ u, -(-n / 2 ^ u)⟩ (intI 1)) = logZ n := by
          unfold logZ; rw [hM]
        simp (config := { maxSteps := 4000000, implicitDefEqProofs := false }) only [F_addI_eq, F_atI_eq, F_divI_eq, F_fixOk_eq, F_intI_eq, F_lnI_eq, F_mulI_eq, F_quotI_eq, F_sqrI_eq, F_subI_eq, F_tw_eq, F_whole_eq, F_widI_eq, WK0, WK1, WK2, WK3, WK4, WK5, WK6, WK7, WK8, WK9, WK10, WK11, WK12, WK13, WK14, WK15, WK16, WK17, WK18, WK19, WK20, WK21, WK22, WK23, WK24, WK25, WK26, WK27, WK28, look_hit, look_miss, List.map_cons, List.map_nil, Nat.add_zero, max_v, min_v, ↓cnd_t, ↓cnd_f, ↓grd_b, ↓grd_u, startEnv, Option.map_some, List.length_nil, List.length_cons, List.nil_append, List.cons_append, List.getElem?_cons_zero, List.getElem?_cons_succ, List.set_cons_zero, List.set_cons_succ, Bool.not_true, Bool.not_false, reduceIte, Nat.reduceEqDiff, Nat.reduceAdd, Nat.reduceLT, blt_lit, beq_lit, Bool.or_true, Bool.true_or, Bool.or_false, Bool.false_or, Bool.and_true, Bool.true_and, Bool.and_self, cond_true, cond_false, List.append_nil, Iv.eta, Option.map_none, idxO_l0, idxO_l1, decide_true, decide_false, reqs_true, Int.zero_sub, wrap_lit, wrapu_lit, Int.reduceLE, Int.reduceLT, Int.reduceAdd, Int.reduceSub, Int.reduceMul, Int.reduceNeg, Int.reduceEq, Option.bind_some, bin_shr_u64, bin_shl_u64, bin_shr_i64, bin_shl_i64, and_m32', Int.reduceToNat, Int.reducePow, Int.reduceMod, Int.reduceDiv, wrap_u64s, true_or, or_true, true_and, and_true, Option.isSome_none, Option.isSome_some, Nat.reduceLeDiff, Nat.reduceMul, Int.toNat_natCast, Int.cast_ofNat_Int, Int.natCast_zero, Int.natCast_one, List.isEmpty_nil, List.isEmpty_cons, List.replicate_zero, List.replicate_succ, T1, T2, T3, T4, T5, T6, T9, T10, T11, T12, T21, T22, T23, T24, T26, T27, T28, T29, T30, T31, T32, T33, T34, T35, T37, T38, T39, T40, T42, T43, T44, T45, T46, T47, T48, T50, T52, T54, T55, T56, T57, T58, T59, T60, T61, T62, T63, T64, T65, T66, T67, T68, T69, T70, T71, T72, T73, T75, T77, T78, T79, T80, T82, T83, T84, T85, T87, T89, T90, T91, T92, T95, T97, T103, T104, T105, T106, T107, T109, T110, c1, c2, hT, c3, w1, w2, hZ, bin_shr_si u64]
        repeat' (first | with_reducible refine cnd_split (fun hc => ?_) (fun hc => ?_) | with_reducible refine Reqs.mk ?_ ?_)
        all_goals (first | trivial | exact hn | (unfold inR; omega) | skip)
        refine go_loop (α := Nat × Iv) (fun a => a.1) (fun a e h => h = [[.int .i64 0, .int .i64 0], [.int .i64 (logM n).lo, .int .i64 (logM n).hi], [.int .i64 (logZ n).lo, .int .i64 (logZ n).hi], [.int .i64 (sqrI (logZ n)).lo, .int .i64 (sqrI (logZ n)).hi], [.int .i64 a.2.lo, .int .i64 a.2.hi]] ∧ look e 2 = some (.v (.c (.ptr (.own 0 0)))) ∧ look e 3 = some (.v (.c (.p (.int .i64 (tw n))))) ∧ look e 5 = some (.v (.c (.ptr (.own 2 0)))) ∧ look e 6 = some (.v (.c (.ptr (.own 3 0)))) ∧ look e 7 = some (.v (.c (.ptr (.own 4 0)))) ∧ look e 8 = some (.v (.c (.p (.int .i64 (2 * (a.1 : Int) - 1))))) ∧ a.1 ≤ 5 ∧ logL a.1 (sqrI (logZ n)) a.2 = logL 5 (sqrI (logZ n)) (quotI 1 11)) (5, quotI 1 11) ⟨by rw [hM], rfl, by rw [hT]; rfl, rfl, rfl, rfl, rfl, by simp only; omega, rfl⟩ ?_
        rintro X ⟨k, p⟩ e h ⟨rfl, l2, l3, l5, l6, l7, l8, hk, hs⟩ hX
        simp only at l8 hk hs hX
        cases k with
        | zero =>
          obtain ⟨C, eC⟩ : ∃ C : Int, 2 * ((0 : Nat) : Int) - 1 = C := ⟨_, rfl⟩
          rw [eC] at l8
          have z0 : decide (1 ≤ C) = false := by simp only [decide_eq_false_iff_not]; omega
          simp (config := { maxSteps := 4000000, implicitDefEqProofs := false }) only [F_addI_eq, F_atI_eq, F_divI_eq, F_fixOk_eq, F_intI_eq, F_lnI_eq, F_mulI_eq, F_quotI_eq, F_sqrI_eq, F_subI_eq, F_tw_eq, F_whole_eq, F_widI_eq, WK0, WK1, WK2, WK3, WK4, WK5, WK6, WK7, WK8, WK9, WK10, WK11, WK12, WK13, WK14, WK15, WK16, WK17, WK18, WK19, WK20, WK21, WK22, WK23, WK24, WK25, WK26, WK27, WK28, look_hit, look_miss, List.map_cons, List.map_nil, Nat.add_zero, max_v, min_v, ↓cnd_t, ↓cnd_f, ↓grd_b, ↓grd_u, startEnv, Option.map_some, List.length_nil, List.length_cons, List.nil_append, List.cons_append, List.getElem?_cons_zero, List.getElem?_cons_succ, List.set_cons_zero, List.set_cons_succ, Bool.not_true, Bool.not_false, reduceIte, Nat.reduceEqDiff, Nat.reduceAdd, Nat.reduceLT, blt_lit, beq_lit, Bool.or_true, Bool.true_or, Bool.or_false, Bool.false_or, Bool.and_true, Bool.true_and, Bool.and_self, cond_true, cond_false, List.append_nil, Iv.eta, Option.map_none, idxO_l0, idxO_l1, decide_true, decide_false, reqs_true, Int.zero_sub, wrap_lit, wrapu_lit, Int.reduceLE, Int.reduceLT, Int.reduceAdd, Int.reduceSub, Int.reduceMul, Int.reduceNeg, Int.reduceEq, Option.bind_some, bin_shr_u64, bin_shl_u64, bin_shr_i64, bin_shl_i64, and_m32', Int.reduceToNat, Int.reducePow, Int.reduceMod, Int.reduceDiv, wrap_u64s, true_or, or_true, true_and, and_true, Option.isSome_none, Option.isSome_some, Nat.reduceLeDiff, Nat.reduceMul, Int.toNat_natCast, Int.cast_ofNat_Int, Int.natCast_zero, Int.natCast_one, List.isEmpty_nil, List.isEmpty_cons, List.replicate_zero, List.replicate_succ, T1, T2, T3, T4, T5, T6, T9, T10, T11, T12, T21, T22, T23, T24, T26, T27, T28, T29, T30, T31, T32, T33, T34, T35, T37, T38, T39, T40, T42, T43, T44, T45, T46, T47, T48, T50, T52, T54, T55, T56, T57, T58, T59, T60, T61, T62, T63, T64, T65, T66, T67, T68, T69, T70, T71, T72, T73, T75, T77, T78, T79, T80, T82, T83, T84, T85, T87, T89, T90, T91, T92, T95, T97, T103, T104, T105, T106, T107, T109, T110, l2, l3, l5, l6, l7, l8, z0]
          repeat' (first | with_reducible refine cnd_split (fun hc => ?_) (fun hc => ?_) | with_reducible refine Reqs.mk ?_ ?_)
          all_goals first
            | rfl
            | trivial
            | (refine endS_v (t := (logA n)) hr ?_; rw [hA, ← hs, logL])
        | succ k =>
          have eC : 2 * ((k + 1 : Nat) : Int) - 1 = 2 * (k : Int) + 1 := by omega
          rw [eC] at l8
          rw [logL] at hs
          have z0 : decide (1 ≤ 2 * (k : Int) + 1) = true := by simp only [decide_eq_true_eq]; omega
          have z1 : IntKind.i64.wrap (2 * (k : Int) + 1 - 2) = 2 * (k : Int) - 1 := by rw [wrap_om (by omega) (by omega)]; omega
          simp (config := { maxSteps := 4000000, implicitDefEqProofs := false }) only [F_addI_eq, F_atI_eq, F_divI_eq, F_fixOk_eq, F_intI_eq, F_lnI_eq, F_mulI_eq, F_quotI_eq, F_sqrI_eq, F_subI_eq, F_tw_eq, F_whole_eq, F_widI_eq, WK0, WK1, WK2, WK3, WK4, WK5, WK6, WK7, WK8, WK9, WK10, WK11, WK12, WK13, WK14, WK15, WK16, WK17, WK18, WK19, WK20, WK21, WK22, WK23, WK24, WK25, WK26, WK27, WK28, look_hit, look_miss, List.map_cons, List.map_nil, Nat.add_zero, max_v, min_v, ↓cnd_t, ↓cnd_f, ↓grd_b, ↓grd_u, startEnv, Option.map_some, List.length_nil, List.length_cons, List.nil_append, List.cons_append, List.getElem?_cons_zero, List.getElem?_cons_succ, List.set_cons_zero, List.set_cons_succ, Bool.not_true, Bool.not_false, reduceIte, Nat.reduceEqDiff, Nat.reduceAdd, Nat.reduceLT, blt_lit, beq_lit, Bool.or_true, Bool.true_or, Bool.or_false, Bool.false_or, Bool.and_true, Bool.true_and, Bool.and_self, cond_true, cond_false, List.append_nil, Iv.eta, Option.map_none, idxO_l0, idxO_l1, decide_true, decide_false, reqs_true, Int.zero_sub, wrap_lit, wrapu_lit, Int.reduceLE, Int.reduceLT, Int.reduceAdd, Int.reduceSub, Int.reduceMul, Int.reduceNeg, Int.reduceEq, Option.bind_some, bin_shr_u64, bin_shl_u64, bin_shr_i64, bin_shl_i64, and_m32', Int.reduceToNat, Int.reducePow, Int.reduceMod, Int.reduceDiv, wrap_u64s, true_or, or_true, true_and, and_true, Option.isSome_none, Option.isSome_some, Nat.reduceLeDiff, Nat.reduceMul, Int.toNat_natCast, Int.cast_ofNat_Int, Int.natCast_zero, Int.natCast_one, List.isEmpty_nil, List.isEmpty_cons, List.replicate_zero, List.replicate_succ, T1, T2, T3, T4, T5, T6, T9, T10, T11, T12, T21, T22, T23, T24, T26, T27, T28, T29, T30, T31, T32, T33, T34, T35, T37, T38, T39, T40, T42, T43, T44, T45, T46, T47, T48, T50, T52, T54, T55, T56, T57, T58, T59, T60, T61, T62, T63, T64, T65, T66, T67, T68, T69, T70, T71, T72, T73, T75, T77, T78, T79, T80, T82, T83, T84, T85, T87, T89, T90, T91, T92, T95, T97, T103, T104, T105, T106, T107, T109, T110, l2, l3, l5, l6, l7, l8, z0, z1]
          repeat' (first | with_reducible refine cnd_split (fun hc => ?_) (fun hc => ?_) | with_reducible refine Reqs.mk ?_ ?_)
          all_goals first
            | (unfold inR; omega)
            | (refine hX (k, _) _ _ (Nat.lt_succ_self k) ⟨rfl, ?_, ?_, ?_, ?_, ?_, ?_, by simp only; omega, hs⟩
               all_goals (try simp only [look])
               all_goals simp [l2, l3, l5, l6, l7])
      · have hT := tw_neg hU
        have hx := twD_hi 64 n 0
        obtain ⟨d, ed⟩ : ∃ d, twD 64 n 0 = d := ⟨_, rfl⟩
        rw [ed] at hT hgd hx
        have d64 : d ≤ 64 := by omega
        have c3 : decide (0 < -(d : Int)) = false := by simp only [decide_eq_false_iff_not]; omega
        have c4 : IntKind.i64.wrap (-(-(d : Int))) = (d : Int) := by rw [wrap_om (by omega) (by omega)]; omega
        have hP : (0 : Int) < 2 ^ d := Int.pow_pos (by omega)
        have h0 : 0 ≤ n * 2 ^ d := Int.mul_nonneg (by omega) (by omega)
        have w2 : IntKind.i64.wrap (n * 2 ^ d) = n * 2 ^ d := by
          refine wrap_om (by omega) ?_
          by_cases hd0 : d = 0
          · subst hd0; simp; omega
          · obtain ⟨j, rfl⟩ : ∃ j, d = j + 1 := ⟨d - 1, by omega⟩
            have := hx (by omega)
            simp only [Nat.add_sub_cancel] at this
            rw [Int.pow_succ, ← Int.mul_assoc]; omega
        have hM : logM n = ⟨n * 2 ^ d, n * 2 ^ d⟩ := by
          unfold logM
          rw [if_neg (by omega), show (-tw n).toNat = d by omega]
        have hZ : divI (subI ⟨n * 2 ^ d, n * 2 ^ d⟩ (intI 1)) (addI ⟨n * 2 ^ d, n * 2 ^ d⟩ (intI 1)) = logZ n := by
          unfold logZ; rw [hM]
        simp (config := { maxSteps := 4000000, implicitDefEqProofs := false }) only [F_addI_eq, F_atI_eq, F_divI_eq, F_fixOk_eq, F_intI_eq, F_lnI_eq, F_mulI_eq, F_quotI_eq, F_sqrI_eq, F_subI_eq, F_tw_eq, F_whole_eq, F_widI_eq, WK0, WK1, WK2, WK3, WK4, WK5, WK6, WK7, WK8, WK9, WK10, WK11, WK12, WK13, WK14, WK15, WK16, WK17, WK18, WK19, WK20, WK21, WK22, WK23, WK24, WK25, WK26, WK27, WK28, look_hit, look_miss, List.map_cons, List.map_nil, Nat.add_zero, max_v, min_v, ↓cnd_t, ↓cnd_f, ↓grd_b, ↓grd_u, startEnv, Option.map_some, List.length_nil, List.length_cons, List.nil_append, List.cons_append, List.getElem?_cons_zero, List.getElem?_cons_succ, List.set_cons_zero, List.set_cons_succ, Bool.not_true, Bool.not_false, reduceIte, Nat.reduceEqDiff, Nat.reduceAdd, Nat.reduceLT, blt_lit, beq_lit, Bool.or_true, Bool.true_or, Bool.or_false, Bool.false_or, Bool.and_true, Bool.true_and, Bool.and_self, cond_true, cond_false, List.append_nil, Iv.eta, Option.map_none, idxO_l0, idxO_l1, decide_true, decide_false, reqs_true, Int.zero_sub, wrap_lit, wrapu_lit, Int.reduceLE, Int.reduceLT, Int.reduceAdd, Int.reduceSub, Int.reduceMul, Int.reduceNeg, Int.reduceEq, Option.bind_some, bin_shr_u64, bin_shl_u64, bin_shr_i64, bin_shl_i64, and_m32', Int.reduceToNat, Int.reducePow, Int.reduceMod, Int.reduceDiv, wrap_u64s, true_or, or_true, true_and, and_true, Option.isSome_none, Option.isSome_some, Nat.reduceLeDiff, Nat.reduceMul, Int.toNat_natCast, Int.cast_ofNat_Int, Int.natCast_zero, Int.natCast_one, List.isEmpty_nil, List.isEmpty_cons, List.replicate_zero, List.replicate_succ, T1, T2, T3, T4, T5, T6, T9, T10, T11, T12, T21, T22, T23, T24, T26, T27, T28, T29, T30, T31, T32, T33, T34, T35, T37, T38, T39, T40, T42, T43, T44, T45, T46, T47, T48, T50, T52, T54, T55, T56, T57, T58, T59, T60, T61, T62, T63, T64, T65, T66, T67, T68, T69, T70, T71, T72, T73, T75, T77, T78, T79, T80, T82, T83, T84, T85, T87, T89, T90, T91, T92, T95, T97, T103, T104, T105, T106, T107, T109, T110, c1, c2, hT, c3, c4, w1, w2, hZ, bin_shl_si d64]
        repeat' (first | with_reducible refine cnd_split (fun hc => ?_) (fun hc => ?_) | with_reducible refine Reqs.mk ?_ ?_)
        all_goals (first | trivial | exact hn | (unfold inR; omega) | skip)
        refine go_loop (α := Nat × Iv) (fun a => a.1) (fun a e h => h = [[.int .i64 0, .int .i64 0], [.int .i64 (logM n).lo, .int .i64 (logM n).hi], [.int .i64 (logZ n).lo, .int .i64 (logZ n).hi], [.int .i64 (sqrI (logZ n)).lo, .int .i64 (sqrI (logZ n)).hi], [.int .i64 a.2.lo, .int .i64 a.2.hi]] ∧ look e 2 = some (.v (.c (.ptr (.own 0 0)))) ∧ look e 3 = some (.v (.c (.p (.int .i64 (tw n))))) ∧ look e 5 = some (.v (.c (.ptr (.own 2 0)))) ∧ look e 6 = some (.v (.c (.ptr (.own 3 0)))) ∧ look e 7 = some (.v (.c (.ptr (.own 4 0)))) ∧ look e 8 = some (.v (.c (.p (.int .i64 (2 * (a.1 : Int) - 1))))) ∧ a.1 ≤ 5 ∧ logL a.1 (sqrI (logZ n)) a.2 = logL 5 (sqrI (logZ n)) (quotI 1 11)) (5, quotI 1 11) ⟨by rw [hM], rfl, by rw [hT]; rfl, rfl, rfl, rfl, rfl, by simp only; omega, rfl⟩ ?_
        rintro X ⟨k, p⟩ e h ⟨rfl, l2, l3, l5, l6, l7, l8, hk, hs⟩ hX
        simp only at l8 hk hs hX
        cases k with
        | zero =>
          obtain ⟨C, eC⟩ : ∃ C : Int, 2 * ((0 : Nat) : Int) - 1 = C := ⟨_, rfl⟩
          rw [eC] at l8
          have z0 : decide (1 ≤ C) = false := by simp only [decide_eq_false_iff_not]; omega
          simp (config := { maxSteps := 4000000, implicitDefEqProofs := false }) only [F_addI_eq, F_atI_eq, F_divI_eq, F_fixOk_eq, F_intI_eq, F_lnI_eq, F_mulI_eq, F_quotI_eq, F_sqrI_eq, F_subI_eq, F_tw_eq, F_whole_eq, F_widI_eq, WK0, WK1, WK2, WK3, WK4, WK5, WK6, WK7, WK8, WK9, WK10, WK11, WK12, WK13, WK14, WK15, WK16, WK17, WK18, WK19, WK20, WK21, WK22, WK23, WK24, WK25, WK26, WK27, WK28, look_hit, look_miss, List.map_cons, List.map_nil, Nat.add_zero, max_v, min_v, ↓cnd_t, ↓cnd_f, ↓grd_b, ↓grd_u, startEnv, Option.map_some, List.length_nil, List.length_cons, List.nil_append, List.cons_append, List.getElem?_cons_zero, List.getElem?_cons_succ, List.set_cons_zero, List.set_cons_succ, Bool.not_true, Bool.not_false, reduceIte, Nat.reduceEqDiff, Nat.reduceAdd, Nat.reduceLT, blt_lit, beq_lit, Bool.or_true, Bool.true_or, Bool.or_false, Bool.false_or, Bool.and_true, Bool.true_and, Bool.and_self, cond_true, cond_false, List.append_nil, Iv.eta, Option.map_none, idxO_l0, idxO_l1, decide_true, decide_false, reqs_true, Int.zero_sub, wrap_lit, wrapu_lit, Int.reduceLE, Int.reduceLT, Int.reduceAdd, Int.reduceSub, Int.reduceMul, Int.reduceNeg, Int.reduceEq, Option.bind_some, bin_shr_u64, bin_shl_u64, bin_shr_i64, bin_shl_i64, and_m32', Int.reduceToNat, Int.reducePow, Int.reduceMod, Int.reduceDiv, wrap_u64s, true_or, or_true, true_and, and_true, Option.isSome_none, Option.isSome_some, Nat.reduceLeDiff, Nat.reduceMul, Int.toNat_natCast, Int.cast_ofNat_Int, Int.natCast_zero, Int.natCast_one, List.isEmpty_nil, List.isEmpty_cons, List.replicate_zero, List.replicate_succ, T1, T2, T3, T4, T5, T6, T9, T10, T11, T12, T21, T22, T23, T24, T26, T27, T28, T29, T30, T31, T32, T33, T34, T35, T37, T38, T39, T40, T42, T43, T44, T45, T46, T47, T48, T50, T52, T54, T55, T56, T57, T58, T59, T60, T61, T62, T63, T64, T65, T66, T67, T68, T69, T70, T71, T72, T73, T75, T77, T78, T79, T80, T82, T83, T84, T85, T87, T89, T90, T91, T92, T95, T97, T103, T104, T105, T106, T107, T109, T110, l2, l3, l5, l6, l7, l8, z0]
          repeat' (first | with_reducible refine cnd_split (fun hc => ?_) (fun hc => ?_) | with_reducible refine Reqs.mk ?_ ?_)
          all_goals first
            | rfl
            | trivial
            | (refine endS_v (t := (logA n)) hr ?_; rw [hA, ← hs, logL])
        | succ k =>
          have eC : 2 * ((k + 1 : Nat) : Int) - 1 = 2 * (k : Int) + 1 := by omega
          rw [eC] at l8
          rw [logL] at hs
          have z0 : decide (1 ≤ 2 * (k : Int) + 1) = true := by simp only [decide_eq_true_eq]; omega
          have z1 : IntKind.i64.wrap (2 * (k : Int) + 1 - 2) = 2 * (k : Int) - 1 := by rw [wrap_om (by omega) (by omega)]; omega
          simp (config := { maxSteps := 4000000, implicitDefEqProofs := false }) only [F_addI_eq, F_atI_eq, F_divI_eq, F_fixOk_eq, F_intI_eq, F_lnI_eq, F_mulI_eq, F_quotI_eq, F_sqrI_eq, F_subI_eq, F_tw_eq, F_whole_eq, F_widI_eq, WK0, WK1, WK2, WK3, WK4, WK5, WK6, WK7, WK8, WK9, WK10, WK11, WK12, WK13, WK14, WK15, WK16, WK17, WK18, WK19, WK20, WK21, WK22, WK23, WK24, WK25, WK26, WK27, WK28, look_hit, look_miss, List.map_cons, List.map_nil, Nat.add_zero, max_v, min_v, ↓cnd_t, ↓cnd_f, ↓grd_b, ↓grd_u, startEnv, Option.map_some, List.length_nil, List.length_cons, List.nil_append, List.cons_append, List.getElem?_cons_zero, List.getElem?_cons_succ, List.set_cons_zero, List.set_cons_succ, Bool.not_true, Bool.not_false, reduceIte, Nat.reduceEqDiff, Nat.reduceAdd, Nat.reduceLT, blt_lit, beq_lit, Bool.or_true, Bool.true_or, Bool.or_false, Bool.false_or, Bool.and_true, Bool.true_and, Bool.and_self, cond_true, cond_false, List.append_nil, Iv.eta, Option.map_none, idxO_l0, idxO_l1, decide_true, decide_false, reqs_true, Int.zero_sub, wrap_lit, wrapu_lit, Int.reduceLE, Int.reduceLT, Int.reduceAdd, Int.reduceSub, Int.reduceMul, Int.reduceNeg, Int.reduceEq, Option.bind_some, bin_shr_u64, bin_shl_u64, bin_shr_i64, bin_shl_i64, and_m32', Int.reduceToNat, Int.reducePow, Int.reduceMod, Int.reduceDiv, wrap_u64s, true_or, or_true, true_and, and_true, Option.isSome_none, Option.isSome_some, Nat.reduceLeDiff, Nat.reduceMul, Int.toNat_natCast, Int.cast_ofNat_Int, Int.natCast_zero, Int.natCast_one, List.isEmpty_nil, List.isEmpty_cons, List.replicate_zero, List.replicate_succ, T1, T2, T3, T4, T5, T6, T9, T10, T11, T12, T21, T22, T23, T24, T26, T27, T28, T29, T30, T31, T32, T33, T34, T35, T37, T38, T39, T40, T42, T43, T44, T45, T46, T47, T48, T50, T52, T54, T55, T56, T57, T58, T59, T60, T61, T62, T63, T64, T65, T66, T67, T68, T69, T70, T71, T72, T73, T75, T77, T78, T79, T80, T82, T83, T84, T85, T87, T89, T90, T91, T92, T95, T97, T103, T104, T105, T106, T107, T109, T110, l2, l3, l5, l6, l7, l8, z0, z1]
          repeat' (first | with_reducible refine cnd_split (fun hc => ?_) (fun hc => ?_) | with_reducible refine Reqs.mk ?_ ?_)
          all_goals first
            | (unfold inR; omega)
            | (refine hX (k, _) _ _ (Nat.lt_succ_self k) ⟨rfl, ?_, ?_, ?_, ?_, ?_, ?_, by simp only; omega, hs⟩
               all_goals (try simp only [look])
               all_goals simp [l2, l3, l5, l6, l7])
    · have c1 : (fixOk n && decide (1 ≤ n)) = false := by
        cases h : fixOk n with
        | false => rfl
        | true => rw [fixOk_iff] at h; simp only [Bool.true_and, decide_eq_false_iff_not]; omega
      have hA : logA n = whole := logA_w (by
        cases h : within n 1 1152921504606846976 with
        | false => rfl
        | true => rw [within_iff] at h; omega)
      simp (config := { maxSteps := 4000000, implicitDefEqProofs := false }) only [F_addI_eq, F_atI_eq, F_divI_eq, F_fixOk_eq, F_intI_eq, F_lnI_eq, F_mulI_eq, F_quotI_eq, F_sqrI_eq, F_subI_eq, F_tw_eq, F_whole_eq, F_widI_eq, WK0, WK1, WK2, WK3, WK4, WK5, WK6, WK7, WK8, WK9, WK10, WK11, WK12, WK13, WK14, WK15, WK16, WK17, WK18, WK19, WK20, WK21, WK22, WK23, WK24, WK25, WK26, WK27, WK28, look_hit, look_miss, List.map_cons, List.map_nil, Nat.add_zero, max_v, min_v, ↓cnd_t, ↓cnd_f, ↓grd_b, ↓grd_u, startEnv, Option.map_some, List.length_nil, List.length_cons, List.nil_append, List.cons_append, List.getElem?_cons_zero, List.getElem?_cons_succ, List.set_cons_zero, List.set_cons_succ, Bool.not_true, Bool.not_false, reduceIte, Nat.reduceEqDiff, Nat.reduceAdd, Nat.reduceLT, blt_lit, beq_lit, Bool.or_true, Bool.true_or, Bool.or_false, Bool.false_or, Bool.and_true, Bool.true_and, Bool.and_self, cond_true, cond_false, List.append_nil, Iv.eta, Option.map_none, idxO_l0, idxO_l1, decide_true, decide_false, reqs_true, Int.zero_sub, wrap_lit, wrapu_lit, Int.reduceLE, Int.reduceLT, Int.reduceAdd, Int.reduceSub, Int.reduceMul, Int.reduceNeg, Int.reduceEq, Option.bind_some, bin_shr_u64, bin_shl_u64, bin_shr_i64, bin_shl_i64, and_m32', Int.reduceToNat, Int.reducePow, Int.reduceMod, Int.reduceDiv, wrap_u64s, true_or, or_true, true_and, and_true, Option.isSome_none, Option.isSome_some, Nat.reduceLeDiff, Nat.reduceMul, Int.toNat_natCast, Int.cast_ofNat_Int, Int.natCast_zero, Int.natCast_one, List.isEmpty_nil, List.isEmpty_cons, List.replicate_zero, List.replicate_succ, T1, T2, T3, T4, T5, T6, T9, T10, T11, T12, T21, T22, T23, T24, T26, T27, T28, T29, T30, T31, T32, T33, T34, T35, T37, T38, T39, T40, T42, T43, T44, T45, T46, T47, T48, T50, T52, T54, T55, T56, T57, T58, T59, T60, T61, T62, T63, T64, T65, T66, T67, T68, T69, T70, T71, T72, T73, T75, T77, T78, T79, T80, T82, T83, T84, T85, T87, T89, T90, T91, T92, T95, T97, T103, T104, T105, T106, T107, T109, T110]
      repeat' (first | with_reducible refine cnd_split (fun hc => ?_) (fun hc => ?_) | with_reducible refine Reqs.mk ?_ ?_)
      all_goals (try simp only [decide_eq_true_eq, decide_eq_false_iff_not] at *)
      all_goals first
        | trivial
        | (refine endS_v (t := (logA n)) hr ?_; rw [hA]; done)
        | (exfalso; have := fixOk_iff.1 (by assumption : fixOk n = true); omega)
  · cases hF

end Go.Proofs.YtcnapkdccjibpaaGreat.Eng
