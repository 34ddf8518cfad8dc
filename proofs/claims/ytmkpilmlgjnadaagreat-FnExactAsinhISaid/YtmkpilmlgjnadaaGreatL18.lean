/- What functions of the program compute, and that the program computes it: part 18. -/
import Derived.Test.YtmkpilmlgjnadaaGreatTab
import Derived.Test.YtmkpilmlgjnadaaGreatEng16
import Derived.Laws.BitsLemmas
import Derived.Laws.Bits64
import Derived.Laws.Bits64b
import Derived.Lib.Mul64
import Derived.Lib.BitFns
import Derived.Laws.Externs
import Derived.Test.YtmkpilmlgjnadaaGreatL1
import Derived.Test.YtmkpilmlgjnadaaGreatL2
import Derived.Test.YtmkpilmlgjnadaaGreatL3
import Derived.Test.YtmkpilmlgjnadaaGreatL6
import Derived.Test.YtmkpilmlgjnadaaGreatL8
import Derived.Test.YtmkpilmlgjnadaaGreatL12
import Derived.Test.YtmkpilmlgjnadaaGreatL15
import Derived.Test.YtmkpilmlgjnadaaGreatL17
namespace Go.Proofs.YtmkpilmlgjnadaaGreat.Eng
open Go Go.RowKit
set_option linter.unusedVariables false
set_option linter.unusedSimpArgs false
set_option maxRecDepth 100000
set_option maxHeartbeats 1000000
-- spec.LogAt
theorem spec_LogAt_logA_ok : Fn Tryz.prog 74 F_logA := by
  refine fn_of_go (O := orc [⟨21, F_whole, .inl spec_l04Whole_whole_ok⟩, ⟨45, F_subI, .inl spec_SubI_subI_ok⟩, ⟨48, F_divI, .inl spec_DivI_divI_ok⟩, ⟨49, F_intI, .inl spec_Integer_intI_ok⟩, ⟨69, F_addI, .inl spec_AddI_addI_ok⟩, ⟨71, F_sqrI, .inl spec_SqrI_sqrI_ok⟩, ⟨72, F_oneI, .inl spec_l08One_oneI_ok⟩, ⟨73, F_lnI, .inl spec_LogTwoI_lnI_ok⟩, ⟨100, F_within, .inl spec_l00In_within_ok⟩, ⟨122, F_quotI, .inl spec_Quotient_quotI_ok⟩, ⟨123, F_mulI, .inl spec_MulI_mulI_ok⟩, ⟨124, F_widI, .inl spec_l08Widen_widI_ok⟩]) mixed T_ok (orc_sound _) Tryz.func74 (by kernel_rfl) rfl Tryz.ntmps74 (by kernel_rfl) Tryz.results74 ?_
  intro args g pre r new hF hpre
  unfold F_logA at hF
  split at hF
  · rename_i n
    simp only [Option.some.injEq, Prod.mk.injEq] at hF
    obtain ⟨rfl, hr, rfl⟩ := hF
    refine ⟨by simp, ?_⟩
    by_cases hn : 1 ≤ n ∧ n ≤ 1152921504606846976
    · have hA := logA_in (within_iff.2 hn)
      have c1 : within n 1 1152921504606846976 = true := within_iff.2 hn
      have hge := twU_ge 64 n 0
      have hgd := twD_ge 64 n 0
      have hst := twU_stop hn 64 0 (by omega)
      have w1 : IntKind.i64.wrap (-n) = -n := wrap_om (by omega) (by omega)
      simp (config := { maxSteps := 4000000, implicitDefEqProofs := false }) only [F_addI_eq, F_divI_eq, F_intI_eq, F_lnI_eq, F_mulI_eq, F_oneI_eq, F_quotI_eq, F_sqrI_eq, F_subI_eq, F_whole_eq, F_widI_eq, F_within_eq, WK0, WK1, WK2, WK3, WK4, WK5, WK6, WK7, WK8, WK9, WK10, WK11, WK12, WK13, WK14, WK15, WK16, WK17, WK18, WK19, WK20, WK21, WK22, WK23, look_hit, look_miss, List.map_cons, List.map_nil, Nat.add_zero, max_v, min_v, ↓cnd_t, ↓cnd_f, startEnv, Option.map_some, List.length_nil, List.length_cons, List.nil_append, List.cons_append, List.getElem?_cons_zero, List.getElem?_cons_succ, List.set_cons_zero, List.set_cons_succ, Bool.not_true, Bool.not_false, reduceIte, Nat.reduceEqDiff, Nat.reduceAdd, Nat.reduceLT, blt_lit, beq_lit, Bool.or_true, Bool.true_or, Bool.or_false, Bool.false_or, Bool.and_true, Bool.true_and, Bool.and_self, cond_true, cond_false, List.append_nil, Iv.eta, Option.map_none, idxO_l0, idxO_l1, decide_true, decide_false, reqs_true, Int.zero_sub, wrap_lit, wrapu_lit, Int.reduceLE, Int.reduceLT, Int.reduceAdd, Int.reduceSub, Int.reduceMul, Int.reduceNeg, Int.reduceEq, Option.bind_some, bin_shr_u64, bin_shl_u64, bin_shr_i64, bin_shl_i64, and_m32', Int.reduceToNat, Int.reducePow, Int.reduceMod, Int.reduceDiv, wrap_u64s, true_or, or_true, true_and, and_true, Option.isSome_none, Option.isSome_some, Nat.reduceLeDiff, Nat.reduceMul, Int.toNat_natCast, Int.cast_ofNat_Int, Int.natCast_zero, Int.natCast_one, List.isEmpty_nil, List.isEmpty_cons, List.replicate_zero, List.replicate_succ, T1, T2, T3, T4, T5, T6, T9, T10, T11, T12, T21, T22, T23, T24, T25, T26, T27, T28, T29, T30, T31, T32, T33, T34, T35, T36, T37, T38, T39, T40, T41, T43, T44, T45, T46, T47, T48, T49, T50, T51, T53, T54, T55, T56, T57, T58, T59, T61, T63, T65, T67, T68, T70, T72, T73, T74, T75, T76, T77, T78, T81, T83, T89, T90, T91, T92, T93, T95, T96, c1]
      refine goS_mono (Q := fun ex st => ex = .exit 0 ∧ st.heap = [[.int .i64 0, .int .i64 0], [.int .i64 (n / 2 ^ (twU 64 n 0)), .int .i64 (-(-n / 2 ^ (twU 64 n 0)))]] ∧ look st.env 0 = some (.v (.c (.p (.int .i64 n)))) ∧ look st.env 2 = some (.v (.c (.ptr (.own 0 0)))) ∧ look st.env 3 = some (.v (.c (.p (.int .i64 (twU 64 n 0 : Int))))) ∧ look st.env 4 = some (.v (.c (.ptr (.own 1 0))))) ?after1 ?loop1
      case loop1 =>
        refine go_loop (α := Nat × Nat) (fun a => a.1) (fun a e h => h = [[.int .i64 0, .int .i64 0], [.int .i64 (n / 2 ^ a.2), .int .i64 (-(-n / 2 ^ a.2))]] ∧ look e 0 = some (.v (.c (.p (.int .i64 n)))) ∧ look e 2 = some (.v (.c (.ptr (.own 0 0)))) ∧ look e 3 = some (.v (.c (.p (.int .i64 (a.2 : Int))))) ∧ look e 4 = some (.v (.c (.ptr (.own 1 0)))) ∧ a.1 + a.2 = 64 ∧ twU a.1 n a.2 = twU 64 n 0) (64, 0) ⟨by simp, rfl, rfl, rfl, rfl, rfl, rfl⟩ ?_
        rintro X ⟨f, u⟩ e h ⟨rfl, l0, l2, l3, l4, hf, hs⟩ hX
        simp only at l3 hf hs hX
        have z1 : IntKind.i64.wrap ((u : Int) + 1) = ((u + 1 : Nat) : Int) := by rw [wrap_om (by omega) (by omega)]; omega
        have z2 : ((u + 1 : Nat) : Int) % 18446744073709551616 = ((u + 1 : Nat) : Int) := by omega
        by_cases hc : 6442450944 ≤ n / 2 ^ u
        · have c0 : decide (6442450944 ≤ n / 2 ^ u) = true := by simp only [decide_eq_true_eq]; exact hc
          cases f with
          | zero => exfalso; rw [div_2_64 hn (by omega)] at hc; omega
          | succ f =>
            rw [twU, if_pos hc] at hs
            have u64 : u + 1 ≤ 64 := by omega
            have w2 : IntKind.i64.wrap (-(-n / 2 ^ (u + 1))) = -(-n / 2 ^ (u + 1)) := up_in hn
            simp (config := { maxSteps := 4000000, implicitDefEqProofs := false }) only [F_addI_eq, F_divI_eq, F_intI_eq, F_lnI_eq, F_mulI_eq, F_oneI_eq, F_quotI_eq, F_sqrI_eq, F_subI_eq, F_whole_eq, F_widI_eq, F_within_eq, WK0, WK1, WK2, WK3, WK4, WK5, WK6, WK7, WK8, WK9, WK10, WK11, WK12, WK13, WK14, WK15, WK16, WK17, WK18, WK19, WK20, WK21, WK22, WK23, look_hit, look_miss, List.map_cons, List.map_nil, Nat.add_zero, max_v, min_v, ↓cnd_t, ↓cnd_f, startEnv, Option.map_some, List.length_nil, List.length_cons, List.nil_append, List.cons_append, List.getElem?_cons_zero, List.getElem?_cons_succ, List.set_cons_zero, List.set_cons_succ, Bool.not_true, Bool.not_false, reduceIte, Nat.reduceEqDiff, Nat.reduceAdd, Nat.reduceLT, blt_lit, beq_lit, Bool.or_true, Bool.true_or, Bool.or_false, Bool.false_or, Bool.and_true, Bool.true_and, Bool.and_self, cond_true, cond_false, List.append_nil, Iv.eta, Option.map_none, idxO_l0, idxO_l1, decide_true, decide_false, reqs_true, Int.zero_sub, wrap_lit, wrapu_lit, Int.reduceLE, Int.reduceLT, Int.reduceAdd, Int.reduceSub, Int.reduceMul, Int.reduceNeg, Int.reduceEq, Option.bind_some, bin_shr_u64, bin_shl_u64, bin_shr_i64, bin_shl_i64, and_m32', Int.reduceToNat, Int.reducePow, Int.reduceMod, Int.reduceDiv, wrap_u64s, true_or, or_true, true_and, and_true, Option.isSome_none, Option.isSome_some, Nat.reduceLeDiff, Nat.reduceMul, Int.toNat_natCast, Int.cast_ofNat_Int, Int.natCast_zero, Int.natCast_one, List.isEmpty_nil, List.isEmpty_cons, List.replicate_zero, List.replicate_succ, T1, T2, T3, T4, T5, T6, T9, T10, T11, T12, T21, T22, T23, T24, T25, T26, T27, T28, T29, T30, T31, T32, T33, T34, T35, T36, T37, T38, T39, T40, T41, T43, T44, T45, T46, T47, T48, T49, T50, T51, T53, T54, T55, T56, T57, T58, T59, T61, T63, T65, T67, T68, T70, T72, T73, T74, T75, T76, T77, T78, T81, T83, T89, T90, T91, T92, T93, T95, T96, l0, l2, l3, l4, c0, z1, z2, w1, w2, bin_shr_si u64]
            refine hX (f, u + 1) _ _ (Nat.lt_succ_self f) ⟨rfl, ?_, ?_, ?_, ?_, by simp only; omega, hs⟩
            all_goals (try simp only [look])
            all_goals simp [l0, l2, l4]
        · have c0 : decide (6442450944 ≤ n / 2 ^ u) = false := by simp only [decide_eq_false_iff_not]; exact hc
          have hu : twU 64 n 0 = u := by
            rw [← hs]
            cases f with
            | zero => rfl
            | succ f => rw [twU, if_neg hc]
          rw [hu]
          simp (config := { maxSteps := 4000000, implicitDefEqProofs := false }) only [F_addI_eq, F_divI_eq, F_intI_eq, F_lnI_eq, F_mulI_eq, F_oneI_eq, F_quotI_eq, F_sqrI_eq, F_subI_eq, F_whole_eq, F_widI_eq, F_within_eq, WK0, WK1, WK2, WK3, WK4, WK5, WK6, WK7, WK8, WK9, WK10, WK11, WK12, WK13, WK14, WK15, WK16, WK17, WK18, WK19, WK20, WK21, WK22, WK23, look_hit, look_miss, List.map_cons, List.map_nil, Nat.add_zero, max_v, min_v, ↓cnd_t, ↓cnd_f, startEnv, Option.map_some, List.length_nil, List.length_cons, List.nil_append, List.cons_append, List.getElem?_cons_zero, List.getElem?_cons_succ, List.set_cons_zero, List.set_cons_succ, Bool.not_true, Bool.not_false, reduceIte, Nat.reduceEqDiff, Nat.reduceAdd, Nat.reduceLT, blt_lit, beq_lit, Bool.or_true, Bool.true_or, Bool.or_false, Bool.false_or, Bool.and_true, Bool.true_and, Bool.and_self, cond_true, cond_false, List.append_nil, Iv.eta, Option.map_none, idxO_l0, idxO_l1, decide_true, decide_false, reqs_true, Int.zero_sub, wrap_lit, wrapu_lit, Int.reduceLE, Int.reduceLT, Int.reduceAdd, Int.reduceSub, Int.reduceMul, Int.reduceNeg, Int.reduceEq, Option.bind_some, bin_shr_u64, bin_shl_u64, bin_shr_i64, bin_shl_i64, and_m32', Int.reduceToNat, Int.reducePow, Int.reduceMod, Int.reduceDiv, wrap_u64s, true_or, or_true, true_and, and_true, Option.isSome_none, Option.isSome_some, Nat.reduceLeDiff, Nat.reduceMul, Int.toNat_natCast, Int.cast_ofNat_Int, Int.natCast_zero, Int.natCast_one, List.isEmpty_nil, List.isEmpty_cons, List.replicate_zero, List.replicate_succ, T1, T2, T3, T4, T5, T6, T9, T10, T11, T12, T21, T22, T23, T24, T25, T26, T27, T28, T29, T30, T31, T32, T33, T34, T35, T36, T37, T38, T39, T40, T41, T43, T44, T45, T46, T47, T48, T49, T50, T51, T53, T54, T55, T56, T57, T58, T59, T61, T63, T65, T67, T68, T70, T72, T73, T74, T75, T76, T77, T78, T81, T83, T89, T90, T91, T92, T93, T95, T96, l0, l2, l3, l4, c0]
          all_goals first
            | trivial
            | (refine ⟨rfl, rfl, ?_, ?_, ?_, ?_⟩ <;> simp [look, l0, l2, l3, l4]; done)
            | (simp [look, l0, l2, l3, l4]; done)
      case after1 =>
        rintro ex ⟨e, h⟩ ⟨rfl, rfl, l0, l2, l3, l4⟩
        simp only at l0 l2 l3 l4
        simp (config := { maxSteps := 4000000, implicitDefEqProofs := false }) only [F_addI_eq, F_divI_eq, F_intI_eq, F_lnI_eq, F_mulI_eq, F_oneI_eq, F_quotI_eq, F_sqrI_eq, F_subI_eq, F_whole_eq, F_widI_eq, F_within_eq, WK0, WK1, WK2, WK3, WK4, WK5, WK6, WK7, WK8, WK9, WK10, WK11, WK12, WK13, WK14, WK15, WK16, WK17, WK18, WK19, WK20, WK21, WK22, WK23, look_hit, look_miss, List.map_cons, List.map_nil, Nat.add_zero, max_v, min_v, ↓cnd_t, ↓cnd_f, startEnv, Option.map_some, List.length_nil, List.length_cons, List.nil_append, List.cons_append, List.getElem?_cons_zero, List.getElem?_cons_succ, List.set_cons_zero, List.set_cons_succ, Bool.not_true, Bool.not_false, reduceIte, Nat.reduceEqDiff, Nat.reduceAdd, Nat.reduceLT, blt_lit, beq_lit, Bool.or_true, Bool.true_or, Bool.or_false, Bool.false_or, Bool.and_true, Bool.true_and, Bool.and_self, cond_true, cond_false, List.append_nil, Iv.eta, Option.map_none, idxO_l0, idxO_l1, decide_true, decide_false, reqs_true, Int.zero_sub, wrap_lit, wrapu_lit, Int.reduceLE, Int.reduceLT, Int.reduceAdd, Int.reduceSub, Int.reduceMul, Int.reduceNeg, Int.reduceEq, Option.bind_some, bin_shr_u64, bin_shl_u64, bin_shr_i64, bin_shl_i64, and_m32', Int.reduceToNat, Int.reducePow, Int.reduceMod, Int.reduceDiv, wrap_u64s, true_or, or_true, true_and, and_true, Option.isSome_none, Option.isSome_some, Nat.reduceLeDiff, Nat.reduceMul, Int.toNat_natCast, Int.cast_ofNat_Int, Int.natCast_zero, Int.natCast_one, List.isEmpty_nil, List.isEmpty_cons, List.replicate_zero, List.replicate_succ, T1, T2, T3, T4, T5, T6, T9, T10, T11, T12, T21, T22, T23, T24, T25, T26, T27, T28, T29, T30, T31, T32, T33, T34, T35, T36, T37, T38, T39, T40, T41, T43, T44, T45, T46, T47, T48, T49, T50, T51, T53, T54, T55, T56, T57, T58, T59, T61, T63, T65, T67, T68, T70, T72, T73, T74, T75, T76, T77, T78, T81, T83, T89, T90, T91, T92, T93, T95, T96, l0, l2, l3, l4]
        refine goS_mono (Q := fun ex st => ex = .exit 2 ∧ st.heap = [[.int .i64 0, .int .i64 0], [.int .i64 (logM n).lo, .int .i64 (logM n).hi]] ∧ look st.env 2 = some (.v (.c (.ptr (.own 0 0)))) ∧ look st.env 3 = some (.v (.c (.p (.int .i64 (tw n))))) ∧ look st.env 4 = some (.v (.c (.ptr (.own 1 0))))) ?after2 ?loop2
        case loop2 =>
          by_cases hU : 0 < twU 64 n 0
          · have hlo := twU_lo 64 n 0 hU
            have hT := tw_pos hU
            obtain ⟨u, eu⟩ : ∃ u, twU 64 n 0 = u + 1 := ⟨twU 64 n 0 - 1, by omega⟩
            rw [eu] at hlo hT l3 ⊢
            simp only [Nat.add_sub_cancel] at hlo
            have hlow : 3221225472 ≤ n / 2 ^ (u + 1) := by
              rw [Int.pow_succ, ← Int.ediv_ediv_of_nonneg (by exact Int.le_of_lt (Int.pow_pos (by omega)))]
              omega
            have c0 : decide (n / 2 ^ (u + 1) < 3221225472) = false := by simp only [decide_eq_false_iff_not]; omega
            have hM : logM n = ⟨n / 2 ^ (u + 1), -(-n / 2 ^ (u + 1))⟩ := by
              unfold logM
              rw [if_pos (by omega), show (tw n).toNat = u + 1 by omega]
            rw [hM, hT]
            simp (config := { maxSteps := 4000000, implicitDefEqProofs := false }) only [F_addI_eq, F_divI_eq, F_intI_eq, F_lnI_eq, F_mulI_eq, F_oneI_eq, F_quotI_eq, F_sqrI_eq, F_subI_eq, F_whole_eq, F_widI_eq, F_within_eq, WK0, WK1, WK2, WK3, WK4, WK5, WK6, WK7, WK8, WK9, WK10, WK11, WK12, WK13, WK14, WK15, WK16, WK17, WK18, WK19, WK20, WK21, WK22, WK23, look_hit, look_miss, List.map_cons, List.map_nil, Nat.add_zero, max_v, min_v, ↓cnd_t, ↓cnd_f, startEnv, Option.map_some, List.length_nil, List.length_cons, List.nil_append, List.cons_append, List.getElem?_cons_zero, List.getElem?_cons_succ, List.set_cons_zero, List.set_cons_succ, Bool.not_true, Bool.not_false, reduceIte, Nat.reduceEqDiff, Nat.reduceAdd, Nat.reduceLT, blt_lit, beq_lit, Bool.or_true, Bool.true_or, Bool.or_false, Bool.false_or, Bool.and_true, Bool.true_and, Bool.and_self, cond_true, cond_false, List.append_nil, Iv.eta, Option.map_none, idxO_l0, idxO_l1, decide_true, decide_false, reqs_true, Int.zero_sub, wrap_lit, wrapu_lit, Int.reduceLE, Int.reduceLT, Int.reduceAdd, Int.reduceSub, Int.reduceMul, Int.reduceNeg, Int.reduceEq, Option.bind_some, bin_shr_u64, bin_shl_u64, bin_shr_i64, bin_shl_i64, and_m32', Int.reduceToNat, Int.reducePow, Int.reduceMod, Int.reduceDiv, wrap_u64s, true_or, or_true, true_and, and_true, Option.isSome_none, Option.isSome_some, Nat.reduceLeDiff, Nat.reduceMul, Int.toNat_natCast, Int.cast_ofNat_Int, Int.natCast_zero, Int.natCast_one, List.isEmpty_nil, List.isEmpty_cons, List.replicate_zero, List.replicate_succ, T1, T2, T3, T4, T5, T6, T9, T10, T11, T12, T21, T22, T23, T24, T25, T26, T27, T28, T29, T30, T31, T32, T33, T34, T35, T36, T37, T38, T39, T40, T41, T43, T44, T45, T46, T47, T48, T49, T50, T51, T53, T54, T55, T56, T57, T58, T59, T61, T63, T65, T67, T68, T70, T72, T73, T74, T75, T76, T77, T78, T81, T83, T89, T90, T91, T92, T93, T95, T96, go_turn_eq, again_n, again_r, again_e, l0, l2, l3, l4, c0]
            all_goals first
              | trivial
              | (refine ⟨rfl, rfl, ?_, ?_, ?_⟩ <;> simp [look, l0, l2, l3, l4]; done)
              | (simp [look, l0, l2, l3, l4]; done)
          · have hU0 : twU 64 n 0 = 0 := by omega
            rw [hU0] at l3 ⊢
            refine go_loop (α := Nat × Nat) (fun a => a.1) (fun a e h => h = [[.int .i64 0, .int .i64 0], [.int .i64 (n * 2 ^ a.2), .int .i64 (n * 2 ^ a.2)]] ∧ look e 0 = some (.v (.c (.p (.int .i64 n)))) ∧ look e 2 = some (.v (.c (.ptr (.own 0 0)))) ∧ look e 3 = some (.v (.c (.p (.int .i64 (-(a.2 : Int)))))) ∧ look e 4 = some (.v (.c (.ptr (.own 1 0)))) ∧ a.1 + a.2 = 64 ∧ n * 2 ^ a.2 ≤ 1152921504606846976 ∧ twD a.1 n a.2 = twD 64 n 0) (64, 0) ⟨by simp, l0, l2, by rw [l3]; rfl, l4, rfl, by simp only; omega, rfl⟩ ?_
            clear l0 l2 l3 l4
            rintro X ⟨f, d⟩ e h ⟨rfl, l0, l2, l3, l4, hf, hb, hs⟩ hX
            simp only at l3 hf hb hs hX
            by_cases hc : n * 2 ^ d < 3221225472
            · have c0 : decide (n * 2 ^ d < 3221225472) = true := by simp only [decide_eq_true_eq]; exact hc
              cases f with
              | zero =>
                exfalso
                have := twD_stop hn.1 0 64 (by omega)
                simp only [twD] at this
                have hd : d = 64 := by omega
                subst hd
                omega
              | succ f =>
                rw [twD, if_pos hc] at hs
                have d64 : d + 1 ≤ 64 := by omega
                have z1 : IntKind.i64.wrap (-(d : Int) - 1) = -((d + 1 : Nat) : Int) := by rw [wrap_om (by omega) (by omega)]; omega
                have z2 : IntKind.i64.wrap (-(-((d + 1 : Nat) : Int))) = ((d + 1 : Nat) : Int) := by rw [wrap_om (by omega) (by omega)]; omega
                have z3 : ((d + 1 : Nat) : Int) % 18446744073709551616 = ((d + 1 : Nat) : Int) := by omega
                have hP : (0 : Int) < 2 ^ d := Int.pow_pos (by omega)
                have h0 : 0 ≤ n * 2 ^ d := Int.mul_nonneg (by omega) (by omega)
                have hb2 : n * 2 ^ (d + 1) ≤ 1152921504606846976 := by rw [Int.pow_succ, ← Int.mul_assoc]; omega
                have h02 : 0 ≤ n * 2 ^ (d + 1) := by rw [Int.pow_succ, ← Int.mul_assoc]; omega
                have z4 : IntKind.i64.wrap (n * 2 ^ (d + 1)) = n * 2 ^ (d + 1) := wrap_om (by omega) (by omega)
                simp (config := { maxSteps := 4000000, implicitDefEqProofs := false }) only [F_addI_eq, F_divI_eq, F_intI_eq, F_lnI_eq, F_mulI_eq, F_oneI_eq, F_quotI_eq, F_sqrI_eq, F_subI_eq, F_whole_eq, F_widI_eq, F_within_eq, WK0, WK1, WK2, WK3, WK4, WK5, WK6, WK7, WK8, WK9, WK10, WK11, WK12, WK13, WK14, WK15, WK16, WK17, WK18, WK19, WK20, WK21, WK22, WK23, look_hit, look_miss, List.map_cons, List.map_nil, Nat.add_zero, max_v, min_v, ↓cnd_t, ↓cnd_f, startEnv, Option.map_some, List.length_nil, List.length_cons, List.nil_append, List.cons_append, List.getElem?_cons_zero, List.getElem?_cons_succ, List.set_cons_zero, List.set_cons_succ, Bool.not_true, Bool.not_false, reduceIte, Nat.reduceEqDiff, Nat.reduceAdd, Nat.reduceLT, blt_lit, beq_lit, Bool.or_true, Bool.true_or, Bool.or_false, Bool.false_or, Bool.and_true, Bool.true_and, Bool.and_self, cond_true, cond_false, List.append_nil, Iv.eta, Option.map_none, idxO_l0, idxO_l1, decide_true, decide_false, reqs_true, Int.zero_sub, wrap_lit, wrapu_lit, Int.reduceLE, Int.reduceLT, Int.reduceAdd, Int.reduceSub, Int.reduceMul, Int.reduceNeg, Int.reduceEq, Option.bind_some, bin_shr_u64, bin_shl_u64, bin_shr_i64, bin_shl_i64, and_m32', Int.reduceToNat, Int.reducePow, Int.reduceMod, Int.reduceDiv, wrap_u64s, true_or, or_true, true_and, and_true, Option.isSome_none, Option.isSome_some, Nat.reduceLeDiff, Nat.reduceMul, Int.toNat_natCast, Int.cast_ofNat_Int, Int.natCast_zero, Int.natCast_one, List.isEmpty_nil, List.isEmpty_cons, List.replicate_zero, List.replicate_succ, T1, T2, T3, T4, T5, T6, T9, T10, T11, T12, T21, T22, T23, T24, T25, T26, T27, T28, T29, T30, T31, T32, T33, T34, T35, T36, T37, T38, T39, T40, T41, T43, T44, T45, T46, T47, T48, T49, T50, T51, T53, T54, T55, T56, T57, T58, T59, T61, T63, T65, T67, T68, T70, T72, T73, T74, T75, T76, T77, T78, T81, T83, T89, T90, T91, T92, T93, T95, T96, l0, l2, l3, l4, c0, z1, z2, z3, z4, bin_shl_si d64]
                refine hX (f, d + 1) _ _ (Nat.lt_succ_self f) ⟨rfl, ?_, ?_, ?_, ?_, by simp only; omega, hb2, hs⟩
                all_goals (try simp only [look])
                all_goals simp [l0, l2, l4]
            · have c0 : decide (n * 2 ^ d < 3221225472) = false := by simp only [decide_eq_false_iff_not]; exact hc
              have hd : twD 64 n 0 = d := by
                rw [← hs]
                cases f with
                | zero => rfl
                | succ f => rw [twD, if_neg hc]
              have hT := tw_neg hU
              rw [hd] at hT
              have hM : logM n = ⟨n * 2 ^ d, n * 2 ^ d⟩ := by
                unfold logM
                rw [if_neg (by omega), show (-tw n).toNat = d by omega]
              rw [hM, hT]
              simp (config := { maxSteps := 4000000, implicitDefEqProofs := false }) only [F_addI_eq, F_divI_eq, F_intI_eq, F_lnI_eq, F_mulI_eq, F_oneI_eq, F_quotI_eq, F_sqrI_eq, F_subI_eq, F_whole_eq, F_widI_eq, F_within_eq, WK0, WK1, WK2, WK3, WK4, WK5, WK6, WK7, WK8, WK9, WK10, WK11, WK12, WK13, WK14, WK15, WK16, WK17, WK18, WK19, WK20, WK21, WK22, WK23, look_hit, look_miss, List.map_cons, List.map_nil, Nat.add_zero, max_v, min_v, ↓cnd_t, ↓cnd_f, startEnv, Option.map_some, List.length_nil, List.length_cons, List.nil_append, List.cons_append, List.getElem?_cons_zero, List.getElem?_cons_succ, List.set_cons_zero, List.set_cons_succ, Bool.not_true, Bool.not_false, reduceIte, Nat.reduceEqDiff, Nat.reduceAdd, Nat.reduceLT, blt_lit, beq_lit, Bool.or_true, Bool.true_or, Bool.or_false, Bool.false_or, Bool.and_true, Bool.true_and, Bool.and_self, cond_true, cond_false, List.append_nil, Iv.eta, Option.map_none, idxO_l0, idxO_l1, decide_true, decide_false, reqs_true, Int.zero_sub, wrap_lit, wrapu_lit, Int.reduceLE, Int.reduceLT, Int.reduceAdd, Int.reduceSub, Int.reduceMul, Int.reduceNeg, Int.reduceEq, Option.bind_some, bin_shr_u64, bin_shl_u64, bin_shr_i64, bin_shl_i64, and_m32', Int.reduceToNat, Int.reducePow, Int.reduceMod, Int.reduceDiv, wrap_u64s, true_or, or_true, true_and, and_true, Option.isSome_none, Option.isSome_some, Nat.reduceLeDiff, Nat.reduceMul, Int.toNat_natCast, Int.cast_ofNat_Int, Int.natCast_zero, Int.natCast_one, List.isEmpty_nil, List.isEmpty_cons, List.replicate_zero, List.replicate_succ, T1, T2, T3, T4, T5, T6, T9, T10, T11, T12, T21, T22, T23, T24, T25, T26, T27, T28, T29, T30, T31, T32, T33, T34, T35, T36, T37, T38, T39, T40, T41, T43, T44, T45, T46, T47, T48, T49, T50, T51, T53, T54, T55, T56, T57, T58, T59, T61, T63, T65, T67, T68, T70, T72, T73, T74, T75, T76, T77, T78, T81, T83, T89, T90, T91, T92, T93, T95, T96, l0, l2, l3, l4, c0]
              all_goals first
                | trivial
                | (refine ⟨rfl, rfl, ?_, ?_, ?_⟩ <;> simp [look, l0, l2, l3, l4]; done)
                | (simp [look, l0, l2, l3, l4]; done)
        case after2 =>
          clear l0 l2 l3 l4
          rintro ex ⟨e, h⟩ ⟨rfl, rfl, l2, l3, l4⟩
          simp only at l2 l3 l4
          have hZ : divI (subI (logM n) (intI 1)) (addI (logM n) (intI 1)) = logZ n := rfl
          simp (config := { maxSteps := 4000000, implicitDefEqProofs := false }) only [F_addI_eq, F_divI_eq, F_intI_eq, F_lnI_eq, F_mulI_eq, F_oneI_eq, F_quotI_eq, F_sqrI_eq, F_subI_eq, F_whole_eq, F_widI_eq, F_within_eq, WK0, WK1, WK2, WK3, WK4, WK5, WK6, WK7, WK8, WK9, WK10, WK11, WK12, WK13, WK14, WK15, WK16, WK17, WK18, WK19, WK20, WK21, WK22, WK23, look_hit, look_miss, List.map_cons, List.map_nil, Nat.add_zero, max_v, min_v, ↓cnd_t, ↓cnd_f, startEnv, Option.map_some, List.length_nil, List.length_cons, List.nil_append, List.cons_append, List.getElem?_cons_zero, List.getElem?_cons_succ, List.set_cons_zero, List.set_cons_succ, Bool.not_true, Bool.not_false, reduceIte, Nat.reduceEqDiff, Nat.reduceAdd, Nat.reduceLT, blt_lit, beq_lit, Bool.or_true, Bool.true_or, Bool.or_false, Bool.false_or, Bool.and_true, Bool.true_and, Bool.and_self, cond_true, cond_false, List.append_nil, Iv.eta, Option.map_none, idxO_l0, idxO_l1, decide_true, decide_false, reqs_true, Int.zero_sub, wrap_lit, wrapu_lit, Int.reduceLE, Int.reduceLT, Int.reduceAdd, Int.reduceSub, Int.reduceMul, Int.reduceNeg, Int.reduceEq, Option.bind_some, bin_shr_u64, bin_shl_u64, bin_shr_i64, bin_shl_i64, and_m32', Int.reduceToNat, Int.reducePow, Int.reduceMod, Int.reduceDiv, wrap_u64s, true_or, or_true, true_and, and_true, Option.isSome_none, Option.isSome_some, Nat.reduceLeDiff, Nat.reduceMul, Int.toNat_natCast, Int.cast_ofNat_Int, Int.natCast_zero, Int.natCast_one, List.isEmpty_nil, List.isEmpty_cons, List.replicate_zero, List.replicate_succ, T1, T2, T3, T4, T5, T6, T9, T10, T11, T12, T21, T22, T23, T24, T25, T26, T27, T28, T29, T30, T31, T32, T33, T34, T35, T36, T37, T38, T39, T40, T41, T43, T44, T45, T46, T47, T48, T49, T50, T51, T53, T54, T55, T56, T57, T58, T59, T61, T63, T65, T67, T68, T70, T72, T73, T74, T75, T76, T77, T78, T81, T83, T89, T90, T91, T92, T93, T95, T96, l2, l3, l4, hZ]
          repeat' (first | with_reducible refine cnd_split (fun hc => ?_) (fun hc => ?_) | with_reducible refine Reqs.mk ?_ ?_)
          all_goals (first | trivial | (unfold inR; omega) | skip)
          refine go_loop (α := Nat × Iv) (fun a => a.1) (fun a e h => h = [[.int .i64 0, .int .i64 0], [.int .i64 (logM n).lo, .int .i64 (logM n).hi], [.int .i64 (logZ n).lo, .int .i64 (logZ n).hi], [.int .i64 (sqrI (logZ n)).lo, .int .i64 (sqrI (logZ n)).hi], [.int .i64 a.2.lo, .int .i64 a.2.hi]] ∧ look e 2 = some (.v (.c (.ptr (.own 0 0)))) ∧ look e 3 = some (.v (.c (.p (.int .i64 (tw n))))) ∧ look e 5 = some (.v (.c (.ptr (.own 2 0)))) ∧ look e 6 = some (.v (.c (.ptr (.own 3 0)))) ∧ look e 7 = some (.v (.c (.ptr (.own 4 0)))) ∧ look e 8 = some (.v (.c (.p (.int .i64 (2 * (a.1 : Int) - 1))))) ∧ a.1 ≤ 5 ∧ logL a.1 (sqrI (logZ n)) a.2 = logL 5 (sqrI (logZ n)) (quotI 1 11)) (5, quotI 1 11) ⟨rfl, by simp [look, l2], by simp [look, l3], by simp [look], by simp [look], by simp [look], by simp [look], by simp only; omega, rfl⟩ ?_
          rintro X ⟨k, p⟩ e h ⟨rfl, l2, l3, l5, l6, l7, l8, hk, hs⟩ hX
          simp only at l8 hk hs hX
          cases k with
          | zero =>
            obtain ⟨C, eC⟩ : ∃ C : Int, 2 * ((0 : Nat) : Int) - 1 = C := ⟨_, rfl⟩
            rw [eC] at l8
            have z0 : decide (1 ≤ C) = false := by simp only [decide_eq_false_iff_not]; omega
            simp (config := { maxSteps := 4000000, implicitDefEqProofs := false }) only [F_addI_eq, F_divI_eq, F_intI_eq, F_lnI_eq, F_mulI_eq, F_oneI_eq, F_quotI_eq, F_sqrI_eq, F_subI_eq, F_whole_eq, F_widI_eq, F_within_eq, WK0, WK1, WK2, WK3, WK4, WK5, WK6, WK7, WK8, WK9, WK10, WK11, WK12, WK13, WK14, WK15, WK16, WK17, WK18, WK19, WK20, WK21, WK22, WK23, look_hit, look_miss, List.map_cons, List.map_nil, Nat.add_zero, max_v, min_v, ↓cnd_t, ↓cnd_f, startEnv, Option.map_some, List.length_nil, List.length_cons, List.nil_append, List.cons_append, List.getElem?_cons_zero, List.getElem?_cons_succ, List.set_cons_zero, List.set_cons_succ, Bool.not_true, Bool.not_false, reduceIte, Nat.reduceEqDiff, Nat.reduceAdd, Nat.reduceLT, blt_lit, beq_lit, Bool.or_true, Bool.true_or, Bool.or_false, Bool.false_or, Bool.and_true, Bool.true_and, Bool.and_self, cond_true, cond_false, List.append_nil, Iv.eta, Option.map_none, idxO_l0, idxO_l1, decide_true, decide_false, reqs_true, Int.zero_sub, wrap_lit, wrapu_lit, Int.reduceLE, Int.reduceLT, Int.reduceAdd, Int.reduceSub, Int.reduceMul, Int.reduceNeg, Int.reduceEq, Option.bind_some, bin_shr_u64, bin_shl_u64, bin_shr_i64, bin_shl_i64, and_m32', Int.reduceToNat, Int.reducePow, Int.reduceMod, Int.reduceDiv, wrap_u64s, true_or, or_true, true_and, and_true, Option.isSome_none, Option.isSome_some, Nat.reduceLeDiff, Nat.reduceMul, Int.toNat_natCast, Int.cast_ofNat_Int, Int.natCast_zero, Int.natCast_one, List.isEmpty_nil, List.isEmpty_cons, List.replicate_zero, List.replicate_succ, T1, T2, T3, T4, T5, T6, T9, T10, T11, T12, T21, T22, T23, T24, T25, T26, T27, T28, T29, T30, T31, T32, T33, T34, T35, T36, T37, T38, T39, T40, T41, T43, T44, T45, T46, T47, T48, T49, T50, T51, T53, T54, T55, T56, T57, T58, T59, T61, T63, T65, T67, T68, T70, T72, T73, T74, T75, T76, T77, T78, T81, T83, T89, T90, T91, T92, T93, T95, T96, l2, l3, l5, l6, l7, l8, z0]
            repeat' (first | with_reducible refine cnd_split (fun hc => ?_) (fun hc => ?_) | with_reducible refine Reqs.mk ?_ ?_)
            all_goals first
              | rfl
              | trivial
              | (refine endS_v (t := (logA n)) hr ?_; rw [hA, ← hs, logL])
          | succ k =>
            have eC : 2 * ((k + 1 : Nat) : Int) - 1 = 2 * (k : Int) + 1 := by omega
            rw [eC] at l8
            rw [logL] at hs
            have z0 : decide (1 ≤ 2 * (k : Int) + 1) = true := by simp only [decide_eq_true_eq]; omega
            have z1 : IntKind.i64.wrap (2 * (k : Int) + 1 - 2) = 2 * (k : Int) - 1 := by rw [wrap_om (by omega) (by omega)]; omega
            simp (config := { maxSteps := 4000000, implicitDefEqProofs := false }) only [F_addI_eq, F_divI_eq, F_intI_eq, F_lnI_eq, F_mulI_eq, F_oneI_eq, F_quotI_eq, F_sqrI_eq, F_subI_eq, F_whole_eq, F_widI_eq, F_within_eq, WK0, WK1, WK2, WK3, WK4, WK5, WK6, WK7, WK8, WK9, WK10, WK11, WK12, WK13, WK14, WK15, WK16, WK17, WK18, WK19, WK20, WK21, WK22, WK23, look_hit, look_miss, List.map_cons, List.map_nil, Nat.add_zero, max_v, min_v, ↓cnd_t, ↓cnd_f, startEnv, Option.map_some, List.length_nil, List.length_cons, List.nil_append, List.cons_append, List.getElem?_cons_zero, List.getElem?_cons_succ, List.set_cons_zero, List.set_cons_succ, Bool.not_true, Bool.not_false, reduceIte, Nat.reduceEqDiff, Nat.reduceAdd, Nat.reduceLT, blt_lit, beq_lit, Bool.or_true, Bool.true_or, Bool.or_false, Bool.false_or, Bool.and_true, Bool.true_and, Bool.and_self, cond_true, cond_false, List.append_nil, Iv.eta, Option.map_none, idxO_l0, idxO_l1, decide_true, decide_false, reqs_true, Int.zero_sub, wrap_lit, wrapu_lit, Int.reduceLE, Int.reduceLT, Int.reduceAdd, Int.reduceSub, Int.reduceMul, Int.reduceNeg, Int.reduceEq, Option.bind_some, bin_shr_u64, bin_shl_u64, bin_shr_i64, bin_shl_i64, and_m32', Int.reduceToNat, Int.reducePow, Int.reduceMod, Int.reduceDiv, wrap_u64s, true_or, or_true, true_and, and_true, Option.isSome_none, Option.isSome_some, Nat.reduceLeDiff, Nat.reduceMul, Int.toNat_natCast, Int.cast_ofNat_Int, Int.natCast_zero, Int.natCast_one, List.isEmpty_nil, List.isEmpty_cons, List.replicate_zero, List.replicate_succ, T1, T2, T3, T4, T5, T6, T9, T10, T11, T12, T21, T22, T23, T24, T25, T26, T27, T28, T29, T30, T31, T32, T33, T34, T35, T36, T37, T38, T39, T40, T41, T43, T44, T45, T46, T47, T48, T49, T50, T51, T53, T54, T55, T56, T57, T58, T59, T61, T63, T65, T67, T68, T70, T72, T73, T74, T75, T76, T77, T78, T81, T83, T89, T90, T91, T92, T93, T95, T96, l2, l3, l5, l6, l7, l8, z0, z1]
            repeat' (first | with_reducible refine cnd_split (fun hc => ?_) (fun hc => ?_) | with_reducible refine Reqs.mk ?_ ?_)
            all_goals first
              | (unfold inR; omega)
              | (refine hX (k, _) _ _ (Nat.lt_succ_self k) ⟨rfl, ?_, ?_, ?_, ?_, ?_, ?_, by simp only; omega, hs⟩
                 all_goals (try simp only [look])
                 all_goals simp [l2, l3, l5, l6, l7])
    · have hA : logA n = whole := logA_w (by
        cases h : within n 1 1152921504606846976 with
        | false => rfl
        | true => rw [within_iff] at h; omega)
      simp (config := { maxSteps := 4000000, implicitDefEqProofs := false }) only [F_addI_eq, F_divI_eq, F_intI_eq, F_lnI_eq, F_mulI_eq, F_oneI_eq, F_quotI_eq, F_sqrI_eq, F_subI_eq, F_whole_eq, F_widI_eq, F_within_eq, WK0, WK1, WK2, WK3, WK4, WK5, WK6, WK7, WK8, WK9, WK10, WK11, WK12, WK13, WK14, WK15, WK16, WK17, WK18, WK19, WK20, WK21, WK22, WK23, look_hit, look_miss, List.map_cons, List.map_nil, Nat.add_zero, max_v, min_v, ↓cnd_t, ↓cnd_f, startEnv, Option.map_some, List.length_nil, List.length_cons, List.nil_append, List.cons_append, List.getElem?_cons_zero, List.getElem?_cons_succ, List.set_cons_zero, List.set_cons_succ, Bool.not_true, Bool.not_false, reduceIte, Nat.reduceEqDiff, Nat.reduceAdd, Nat.reduceLT, blt_lit, beq_lit, Bool.or_true, Bool.true_or, Bool.or_false, Bool.false_or, Bool.and_true, Bool.true_and, Bool.and_self, cond_true, cond_false, List.append_nil, Iv.eta, Option.map_none, idxO_l0, idxO_l1, decide_true, decide_false, reqs_true, Int.zero_sub, wrap_lit, wrapu_lit, Int.reduceLE, Int.reduceLT, Int.reduceAdd, Int.reduceSub, Int.reduceMul, Int.reduceNeg, Int.reduceEq, Option.bind_some, bin_shr_u64, bin_shl_u64, bin_shr_i64, bin_shl_i64, and_m32', Int.reduceToNat, Int.reducePow, Int.reduceMod, Int.reduceDiv, wrap_u64s, true_or, or_true, true_and, and_true, Option.isSome_none, Option.isSome_some, Nat.reduceLeDiff, Nat.reduceMul, Int.toNat_natCast, Int.cast_ofNat_Int, Int.natCast_zero, Int.natCast_one, List.isEmpty_nil, List.isEmpty_cons, List.replicate_zero, List.replicate_succ, T1, T2, T3, T4, T5, T6, T9, T10, T11, T12, T21, T22, T23, T24, T25, T26, T27, T28, T29, T30, T31, T32, T33, T34, T35, T36, T37, T38, T39, T40, T41, T43, T44, T45, T46, T47, T48, T49, T50, T51, T53, T54, T55, T56, T57, T58, T59, T61, T63, T65, T67, T68, T70, T72, T73, T74, T75, T76, T77, T78, T81, T83, T89, T90, T91, T92, T93, T95, T96]
      repeat' (first | with_reducible refine cnd_split (fun hc => ?_) (fun hc => ?_) | with_reducible refine Reqs.mk ?_ ?_)
      all_goals first
        | trivial
        | (refine endS_v (t := (logA n)) hr ?_; rw [hA]; done)
        | (exfalso; have := within_iff.1 (by assumption : within n 1 1152921504606846976 = true); omega)
  · cases hF

end Go.Proofs.YtmkpilmlgjnadaaGreat.Eng
