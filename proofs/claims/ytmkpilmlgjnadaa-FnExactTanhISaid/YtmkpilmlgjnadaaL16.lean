/- What functions of the program compute, and that the program computes it: part 16. -/
import Derived.Test.YtmkpilmlgjnadaaTab
import Derived.Test.YtmkpilmlgjnadaaEng16
import Derived.Laws.BitsLemmas
import Derived.Laws.Bits64
import Derived.Laws.Bits64b
import Derived.Lib.Mul64
import Derived.Lib.BitFns
import Derived.Laws.Externs
import Derived.Test.YtmkpilmlgjnadaaL1
import Derived.Test.YtmkpilmlgjnadaaL2
import Derived.Test.YtmkpilmlgjnadaaL3
import Derived.Test.YtmkpilmlgjnadaaL5
import Derived.Test.YtmkpilmlgjnadaaL7
import Derived.Test.YtmkpilmlgjnadaaL9
import Derived.Test.YtmkpilmlgjnadaaL11
import Derived.Test.YtmkpilmlgjnadaaL14
import Derived.Test.YtmkpilmlgjnadaaL15
namespace Go.Proofs.Ytmkpilmlgjnadaa.Eng
open Go Go.RowKit
set_option linter.unusedVariables false
set_option linter.unusedSimpArgs false
set_option maxRecDepth 100000
set_option maxHeartbeats 1000000
-- spec.ExpAt
theorem spec_ExpAt_expA_ok : Fn Try.prog 10 F_expA := by
  refine fn_of_go (O := orc [⟨26, F_fixOk, .inl spec_l03Ok_fixOk_ok⟩, ⟨27, F_whole, .inl spec_l04Whole_whole_ok⟩, ⟨28, F_subI, .inl spec_SubI_subI_ok⟩, ⟨29, F_mkP, .inl spec_l08At_mkP_ok⟩, ⟨30, F_lnI, .inl spec_LogTwoI_lnI_ok⟩, ⟨31, F_oneI, .inl spec_l08One_oneI_ok⟩, ⟨32, F_addI, .inl spec_AddI_addI_ok⟩, ⟨33, F_divI, .inl spec_DivI_divI_ok⟩, ⟨34, F_mulI, .inl spec_MulI_mulI_ok⟩, ⟨35, F_intI, .inl spec_Integer_intI_ok⟩, ⟨36, F_scaleI, .inl spec_l08Scale_scaleI_ok⟩, ⟨37, F_widI, .inl spec_l08Widen_widI_ok⟩]) mixed T_ok (orc_sound _) Try.func10 (by kernel_rfl) rfl Try.ntmps10 (by kernel_rfl) Try.results10 ?_
  intro args g pre r new hF hpre
  unfold F_expA at hF
  split at hF
  · rename_i n
    simp only [Option.some.injEq, Prod.mk.injEq] at hF
    obtain ⟨rfl, hr, rfl⟩ := hF
    refine ⟨by simp, ?_⟩
    by_cases hRng : (fixOk n = true ∧ n ≤ 85899345920) ∧ ¬ n < -98784247808
    · obtain ⟨⟨h1, h2⟩, h3⟩ := hRng
      have c2 : decide (85899345920 < n) = false := by simp only [decide_eq_false_iff_not]; omega
      have c3 : decide (n < -98784247808) = false := by simp only [decide_eq_false_iff_not]; omega
      have e1 : IntKind.i64.wrap (2 * n) = 2 * n := wrap_om (by omega) (by omega)
      have e2 : IntKind.i64.wrap (2 * n + 2977044472) = 2 * n + 2977044472 := wrap_om (by omega) (by omega)
      obtain ⟨q0, q1, q2, q3, q4, q5⟩ := @expQ n (by omega) h2
      have e5 : mkI n n = ⟨n, n⟩ := mkI_lin (by omega) (by omega) (by omega)
      obtain ⟨D, eD⟩ : ∃ D, (2 * n + 2977044472).tdiv 5954088944 = D := ⟨_, rfl⟩
      rw [eD] at q1 q2 q3 q4 q5
      have hw := @widP n (by omega) h2
      have hR := @expR_bd n (by omega) h2
      have hKd : expK n = if 2 * n + 2977044472 < D * 5954088944 then D - 1 else D := by
        unfold expK
        split <;> omega
      have e3 : IntKind.i64.wrap D = D := wrap_om (by omega) (by omega)
      have e4 : IntKind.i64.wrap (D - 1) = D - 1 := wrap_om (by omega) (by omega)
      have hA := expA_in h1 h2 h3
      simp (config := { maxSteps := 4000000, implicitDefEqProofs := false }) only [F_addI_eq, F_divI_eq, F_fixOk_eq, F_intI_eq, F_lnI_eq, F_mkP_eq, F_mulI_eq, F_oneI_eq, F_scaleI_eq, F_subI_eq, F_whole_eq, F_widI_eq, WK0, WK1, WK2, WK3, WK4, WK5, WK6, WK7, WK8, WK9, WK10, WK11, WK12, WK13, WK14, WK15, WK16, WK17, WK18, WK19, WK20, WK21, WK22, WK23, look_hit, look_miss, List.map_cons, List.map_nil, Nat.add_zero, max_v, min_v, ↓cnd_t, ↓cnd_f, startEnv, Option.map_some, List.length_nil, List.length_cons, List.nil_append, List.cons_append, List.getElem?_cons_zero, List.getElem?_cons_succ, List.set_cons_zero, List.set_cons_succ, Bool.not_true, Bool.not_false, reduceIte, Nat.reduceEqDiff, Nat.reduceAdd, Nat.reduceLT, blt_lit, beq_lit, Bool.or_true, Bool.true_or, Bool.or_false, Bool.false_or, Bool.and_true, Bool.true_and, Bool.and_self, cond_true, cond_false, List.append_nil, Iv.eta, Option.map_none, idxO_l0, idxO_l1, decide_true, decide_false, reqs_true, Int.zero_sub, wrap_lit, wrapu_lit, Int.reduceLE, Int.reduceLT, Int.reduceAdd, Int.reduceSub, Int.reduceMul, Int.reduceNeg, Int.reduceEq, Option.bind_some, bin_shr_u64, bin_shl_u64, bin_shr_i64, bin_shl_i64, and_m32', Int.reduceToNat, Int.reducePow, Int.reduceMod, Int.reduceDiv, wrap_u64s, true_or, or_true, true_and, and_true, Option.isSome_none, Option.isSome_some, Nat.reduceLeDiff, Nat.reduceMul, Int.toNat_natCast, Int.cast_ofNat_Int, Int.natCast_zero, Int.natCast_one, List.isEmpty_nil, List.isEmpty_cons, List.replicate_zero, List.replicate_succ, T1, T2, T3, T4, T5, T6, T9, T10, T11, T12, T21, T22, T23, T24, T25, T26, T27, T28, T29, T30, T31, T32, T33, T34, T35, T36, T37, T38, T39, T40, T42, T43, T44, T45, T46, T47, T48, T50, T51, T52, T53, T54, T55, T56, T57, T58, T59, T61, T62, T63, T65, T67, T69, T70, T71, T72, T75, T77, T83, T84, T85, T86, T87, T89, T90, bin_quo_c, bin_rem_c, h1, c2, c3, e1, e2, eD, e3, e4, e5]
      repeat' (first | with_reducible refine cnd_split (fun hc => ?_) (fun hc => ?_) | with_reducible refine Reqs.mk ?_ ?_)
      all_goals (try simp only [decide_eq_true_eq, decide_eq_false_iff_not] at *)
      all_goals (first | trivial | skip)
      all_goals first
        | (have hK : D - 1 = expK n := by rw [hKd, if_pos (by omega)]
           simp only [hK])
        | (have hK : D = expK n := by rw [hKd, if_neg (by omega)]
           rw [hK])
      all_goals (have hR2 : subI (Iv.mk n n) (lnI (expK n)) = expR n := rfl)
      all_goals (simp only [hR2])
      all_goals refine go_loop (α := Nat × Iv) (fun a => a.1) (fun a e h => h = [[.int .i64 0, .int .i64 0], [.int .i64 (expR n).lo, .int .i64 (expR n).hi], [.int .i64 a.2.lo, .int .i64 a.2.hi]] ∧ look e 2 = some (.v (.c (.ptr (.own 0 0)))) ∧ look e 3 = some (.v (.c (.p (.int .i64 (expK n))))) ∧ look e 4 = some (.v (.c (.ptr (.own 1 0)))) ∧ look e 5 = some (.v (.c (.ptr (.own 2 0)))) ∧ look e 6 = some (.v (.c (.p (.int .i64 (a.1 : Int))))) ∧ a.1 ≤ 9 ∧ expL a.1 (expR n) a.2 = expP n) (9, intI 1) ⟨rfl, rfl, rfl, rfl, rfl, rfl, by simp only; omega, rfl⟩ ?_
      all_goals
        rintro X ⟨k, p⟩ e h ⟨rfl, l2, l3, l4, l5, l6, hk, hs⟩ hX
        simp only at l6 hk hs hX
        cases k with
        | zero =>
          obtain ⟨C, eC⟩ : ∃ C : Int, ((0 : Nat) : Int) = C := ⟨_, rfl⟩
          rw [eC] at l6
          have z0 : decide (1 ≤ C) = false := by simp only [decide_eq_false_iff_not]; omega
          have hp : p = expP n := hs
          subst hp
          simp (config := { maxSteps := 4000000, implicitDefEqProofs := false }) only [F_addI_eq, F_divI_eq, F_fixOk_eq, F_intI_eq, F_lnI_eq, F_mkP_eq, F_mulI_eq, F_oneI_eq, F_scaleI_eq, F_subI_eq, F_whole_eq, F_widI_eq, WK0, WK1, WK2, WK3, WK4, WK5, WK6, WK7, WK8, WK9, WK10, WK11, WK12, WK13, WK14, WK15, WK16, WK17, WK18, WK19, WK20, WK21, WK22, WK23, look_hit, look_miss, List.map_cons, List.map_nil, Nat.add_zero, max_v, min_v, ↓cnd_t, ↓cnd_f, startEnv, Option.map_some, List.length_nil, List.length_cons, List.nil_append, List.cons_append, List.getElem?_cons_zero, List.getElem?_cons_succ, List.set_cons_zero, List.set_cons_succ, Bool.not_true, Bool.not_false, reduceIte, Nat.reduceEqDiff, Nat.reduceAdd, Nat.reduceLT, blt_lit, beq_lit, Bool.or_true, Bool.true_or, Bool.or_false, Bool.false_or, Bool.and_true, Bool.true_and, Bool.and_self, cond_true, cond_false, List.append_nil, Iv.eta, Option.map_none, idxO_l0, idxO_l1, decide_true, decide_false, reqs_true, Int.zero_sub, wrap_lit, wrapu_lit, Int.reduceLE, Int.reduceLT, Int.reduceAdd, Int.reduceSub, Int.reduceMul, Int.reduceNeg, Int.reduceEq, Option.bind_some, bin_shr_u64, bin_shl_u64, bin_shr_i64, bin_shl_i64, and_m32', Int.reduceToNat, Int.reducePow, Int.reduceMod, Int.reduceDiv, wrap_u64s, true_or, or_true, true_and, and_true, Option.isSome_none, Option.isSome_some, Nat.reduceLeDiff, Nat.reduceMul, Int.toNat_natCast, Int.cast_ofNat_Int, Int.natCast_zero, Int.natCast_one, List.isEmpty_nil, List.isEmpty_cons, List.replicate_zero, List.replicate_succ, T1, T2, T3, T4, T5, T6, T9, T10, T11, T12, T21, T22, T23, T24, T25, T26, T27, T28, T29, T30, T31, T32, T33, T34, T35, T36, T37, T38, T39, T40, T42, T43, T44, T45, T46, T47, T48, T50, T51, T52, T53, T54, T55, T56, T57, T58, T59, T61, T62, T63, T65, T67, T69, T70, T71, T72, T75, T77, T83, T84, T85, T86, T87, T89, T90, bin_quo_c, bin_rem_c, l2, l3, l4, l5, l6, z0]
          repeat' (first | with_reducible refine cnd_split (fun hc => ?_) (fun hc => ?_) | with_reducible refine Reqs.mk ?_ ?_)
          all_goals first
            | rfl
            | trivial
            | exact ⟨hw.1, hw.2.1, hw.2.2⟩
            | (refine endS_v (t := (expA n)) hr ?_; rw [hA])
        | succ k =>
          obtain ⟨K, eK⟩ : ∃ K : Int, ((k + 1 : Nat) : Int) = K := ⟨_, rfl⟩
          rw [expL, eK] at hs
          rw [eK] at l6
          have z0 : decide (1 ≤ K) = true := by simp only [decide_eq_true_eq]; omega
          have z1 : IntKind.i64.wrap (K - 1) = (k : Int) := by rw [wrap_om (by omega) (by omega)]; omega
          simp (config := { maxSteps := 4000000, implicitDefEqProofs := false }) only [F_addI_eq, F_divI_eq, F_fixOk_eq, F_intI_eq, F_lnI_eq, F_mkP_eq, F_mulI_eq, F_oneI_eq, F_scaleI_eq, F_subI_eq, F_whole_eq, F_widI_eq, WK0, WK1, WK2, WK3, WK4, WK5, WK6, WK7, WK8, WK9, WK10, WK11, WK12, WK13, WK14, WK15, WK16, WK17, WK18, WK19, WK20, WK21, WK22, WK23, look_hit, look_miss, List.map_cons, List.map_nil, Nat.add_zero, max_v, min_v, ↓cnd_t, ↓cnd_f, startEnv, Option.map_some, List.length_nil, List.length_cons, List.nil_append, List.cons_append, List.getElem?_cons_zero, List.getElem?_cons_succ, List.set_cons_zero, List.set_cons_succ, Bool.not_true, Bool.not_false, reduceIte, Nat.reduceEqDiff, Nat.reduceAdd, Nat.reduceLT, blt_lit, beq_lit, Bool.or_true, Bool.true_or, Bool.or_false, Bool.false_or, Bool.and_true, Bool.true_and, Bool.and_self, cond_true, cond_false, List.append_nil, Iv.eta, Option.map_none, idxO_l0, idxO_l1, decide_true, decide_false, reqs_true, Int.zero_sub, wrap_lit, wrapu_lit, Int.reduceLE, Int.reduceLT, Int.reduceAdd, Int.reduceSub, Int.reduceMul, Int.reduceNeg, Int.reduceEq, Option.bind_some, bin_shr_u64, bin_shl_u64, bin_shr_i64, bin_shl_i64, and_m32', Int.reduceToNat, Int.reducePow, Int.reduceMod, Int.reduceDiv, wrap_u64s, true_or, or_true, true_and, and_true, Option.isSome_none, Option.isSome_some, Nat.reduceLeDiff, Nat.reduceMul, Int.toNat_natCast, Int.cast_ofNat_Int, Int.natCast_zero, Int.natCast_one, List.isEmpty_nil, List.isEmpty_cons, List.replicate_zero, List.replicate_succ, T1, T2, T3, T4, T5, T6, T9, T10, T11, T12, T21, T22, T23, T24, T25, T26, T27, T28, T29, T30, T31, T32, T33, T34, T35, T36, T37, T38, T39, T40, T42, T43, T44, T45, T46, T47, T48, T50, T51, T52, T53, T54, T55, T56, T57, T58, T59, T61, T62, T63, T65, T67, T69, T70, T71, T72, T75, T77, T83, T84, T85, T86, T87, T89, T90, bin_quo_c, bin_rem_c, l2, l3, l4, l5, l6, z0, z1]
          refine hX (k, _) _ _ (Nat.lt_succ_self k) ⟨rfl, ?_, ?_, ?_, ?_, ?_, by simp only; omega, hs⟩
          all_goals (try simp only [look])
          all_goals simp [l2, l3, l4, l5]
    · simp (config := { maxSteps := 4000000, implicitDefEqProofs := false }) only [F_addI_eq, F_divI_eq, F_fixOk_eq, F_intI_eq, F_lnI_eq, F_mkP_eq, F_mulI_eq, F_oneI_eq, F_scaleI_eq, F_subI_eq, F_whole_eq, F_widI_eq, WK0, WK1, WK2, WK3, WK4, WK5, WK6, WK7, WK8, WK9, WK10, WK11, WK12, WK13, WK14, WK15, WK16, WK17, WK18, WK19, WK20, WK21, WK22, WK23, look_hit, look_miss, List.map_cons, List.map_nil, Nat.add_zero, max_v, min_v, ↓cnd_t, ↓cnd_f, startEnv, Option.map_some, List.length_nil, List.length_cons, List.nil_append, List.cons_append, List.getElem?_cons_zero, List.getElem?_cons_succ, List.set_cons_zero, List.set_cons_succ, Bool.not_true, Bool.not_false, reduceIte, Nat.reduceEqDiff, Nat.reduceAdd, Nat.reduceLT, blt_lit, beq_lit, Bool.or_true, Bool.true_or, Bool.or_false, Bool.false_or, Bool.and_true, Bool.true_and, Bool.and_self, cond_true, cond_false, List.append_nil, Iv.eta, Option.map_none, idxO_l0, idxO_l1, decide_true, decide_false, reqs_true, Int.zero_sub, wrap_lit, wrapu_lit, Int.reduceLE, Int.reduceLT, Int.reduceAdd, Int.reduceSub, Int.reduceMul, Int.reduceNeg, Int.reduceEq, Option.bind_some, bin_shr_u64, bin_shl_u64, bin_shr_i64, bin_shl_i64, and_m32', Int.reduceToNat, Int.reducePow, Int.reduceMod, Int.reduceDiv, wrap_u64s, true_or, or_true, true_and, and_true, Option.isSome_none, Option.isSome_some, Nat.reduceLeDiff, Nat.reduceMul, Int.toNat_natCast, Int.cast_ofNat_Int, Int.natCast_zero, Int.natCast_one, List.isEmpty_nil, List.isEmpty_cons, List.replicate_zero, List.replicate_succ, T1, T2, T3, T4, T5, T6, T9, T10, T11, T12, T21, T22, T23, T24, T25, T26, T27, T28, T29, T30, T31, T32, T33, T34, T35, T36, T37, T38, T39, T40, T42, T43, T44, T45, T46, T47, T48, T50, T51, T52, T53, T54, T55, T56, T57, T58, T59, T61, T62, T63, T65, T67, T69, T70, T71, T72, T75, T77, T83, T84, T85, T86, T87, T89, T90, bin_quo_c, bin_rem_c]
      repeat' (first | with_reducible refine cnd_split (fun hc => ?_) (fun hc => ?_) | with_reducible refine Reqs.mk ?_ ?_)
      all_goals (try simp only [decide_eq_true_eq, decide_eq_false_iff_not] at *)
      all_goals first
        | trivial
        | exact absurd (And.intro (And.intro (by assumption : fixOk n = true) (by omega : n ≤ 85899345920)) (by omega : ¬ n < -98784247808)) hRng
        | (refine endS_v (t := (expA n)) hr ?_; rw [expA_lo (by assumption) (by assumption)]; done)
        | (refine endS_v (t := (expA n)) hr ?_; rw [expA_w1 (by rintro ⟨g1, g2⟩; omega)]; done)
        | (have g0 := (by assumption : fixOk n = false); refine endS_v (t := (expA n)) hr ?_; rw [expA_w1 (by rintro ⟨g1, g2⟩; rw [g0] at g1; cases g1)]; done)
  · cases hF

-- impl.twosOf
theorem tw_pos {n : Int} (h : 0 < twU 64 n 0) : tw n = (twU 64 n 0 : Int) := by unfold tw; rw [if_pos h]
theorem tw_neg {n : Int} (h : ¬ 0 < twU 64 n 0) : tw n = -(twD 64 n 0 : Int) := by unfold tw; rw [if_neg h]
theorem div_2_64 {n : Int} {e : Nat} (h : 1 ≤ n ∧ n ≤ 1152921504606846976) (he : 64 ≤ e) : n / 2 ^ e = 0 := by
  refine Int.ediv_eq_zero_of_lt (by omega) ?_
  have : 2 ^ 64 ≤ 2 ^ e := Nat.pow_le_pow_right (by omega) he
  have : ((2 ^ 64 : Nat) : Int) ≤ ((2 ^ e : Nat) : Int) := by omega
  have h2 : (18446744073709551616 : Int) ≤ 2 ^ e := by simpa using this
  omega
theorem impl_twosOf_tw_ok : Fn Try.prog 65 F_tw := by
  refine fn_of_go (O := orc []) mixed T_ok (orc_sound _) Try.func65 (by kernel_rfl) rfl Try.ntmps65 (by kernel_rfl) Try.results65 ?_
  intro args g pre r new hF hpre
  unfold F_tw at hF
  split at hF
  · rename_i n
    simp only [Option.some.injEq, Prod.mk.injEq] at hF
    obtain ⟨rfl, hr, rfl⟩ := hF
    refine ⟨by simp, ?_⟩
    simp (config := { maxSteps := 4000000, implicitDefEqProofs := false }) only [WK0, WK1, WK2, WK3, WK4, WK5, WK6, WK7, WK8, WK9, WK10, WK11, WK12, WK13, WK14, WK15, WK16, WK17, WK18, WK19, WK20, WK21, WK22, WK23, look_hit, look_miss, List.map_cons, List.map_nil, Nat.add_zero, max_v, min_v, ↓cnd_t, ↓cnd_f, startEnv, Option.map_some, List.length_nil, List.length_cons, List.nil_append, List.cons_append, List.getElem?_cons_zero, List.getElem?_cons_succ, List.set_cons_zero, List.set_cons_succ, Bool.not_true, Bool.not_false, reduceIte, Nat.reduceEqDiff, Nat.reduceAdd, Nat.reduceLT, blt_lit, beq_lit, Bool.or_true, Bool.true_or, Bool.or_false, Bool.false_or, Bool.and_true, Bool.true_and, Bool.and_self, cond_true, cond_false, List.append_nil, Iv.eta, Option.map_none, idxO_l0, idxO_l1, decide_true, decide_false, reqs_true, Int.zero_sub, wrap_lit, wrapu_lit, Int.reduceLE, Int.reduceLT, Int.reduceAdd, Int.reduceSub, Int.reduceMul, Int.reduceNeg, Int.reduceEq, Option.bind_some, bin_shr_u64, bin_shl_u64, bin_shr_i64, bin_shl_i64, and_m32', Int.reduceToNat, Int.reducePow, Int.reduceMod, Int.reduceDiv, wrap_u64s, true_or, or_true, true_and, and_true, Option.isSome_none, Option.isSome_some, Nat.reduceLeDiff, Nat.reduceMul, Int.toNat_natCast, Int.cast_ofNat_Int, Int.natCast_zero, Int.natCast_one, List.isEmpty_nil, List.isEmpty_cons, List.replicate_zero, List.replicate_succ, T1, T2, T3, T4, T5, T6, T9, T10, T11, T12, T21, T22, T23, T24, T25, T26, T27, T28, T29, T30, T31, T32, T33, T34, T35, T36, T37, T38, T39, T40, T42, T43, T44, T45, T46, T47, T48, T50, T51, T52, T53, T54, T55, T56, T57, T58, T59, T61, T62, T63, T65, T67, T69, T70, T71, T72, T75, T77, T83, T84, T85, T86, T87, T89, T90]
    repeat' (first | with_reducible refine cnd_split (fun hc => ?_) (fun hc => ?_) | with_reducible refine Reqs.mk ?_ ?_)
    refine goS_mono (Q := fun ex st => ex = .exit 0 ∧ st.heap = [] ∧ look st.env 0 = some (.v (.c (.p (.int .i64 n)))) ∧ look st.env 3 = some (.v (.c (.p (.int .i64 (twU 64 n 0 : Int)))))) ?after1 ?loop1
    case loop1 =>
      refine go_loop (α := Nat × Nat) (fun a => a.1) (fun a e h => h = [] ∧ look e 0 = some (.v (.c (.p (.int .i64 n)))) ∧ look e 3 = some (.v (.c (.p (.int .i64 (a.2 : Int))))) ∧ a.1 + a.2 = 64 ∧ twU a.1 n a.2 = twU 64 n 0) (64, 0) ⟨rfl, rfl, rfl, rfl, rfl⟩ ?_
      rintro X ⟨f, u⟩ e h ⟨rfl, l0, l3, hf, hs⟩ hX
      simp only at l3 hf hs hX
      have u64 : u ≤ 64 := by omega
      simp (config := { maxSteps := 4000000, implicitDefEqProofs := false }) only [WK0, WK1, WK2, WK3, WK4, WK5, WK6, WK7, WK8, WK9, WK10, WK11, WK12, WK13, WK14, WK15, WK16, WK17, WK18, WK19, WK20, WK21, WK22, WK23, look_hit, look_miss, List.map_cons, List.map_nil, Nat.add_zero, max_v, min_v, ↓cnd_t, ↓cnd_f, startEnv, Option.map_some, List.length_nil, List.length_cons, List.nil_append, List.cons_append, List.getElem?_cons_zero, List.getElem?_cons_succ, List.set_cons_zero, List.set_cons_succ, Bool.not_true, Bool.not_false, reduceIte, Nat.reduceEqDiff, Nat.reduceAdd, Nat.reduceLT, blt_lit, beq_lit, Bool.or_true, Bool.true_or, Bool.or_false, Bool.false_or, Bool.and_true, Bool.true_and, Bool.and_self, cond_true, cond_false, List.append_nil, Iv.eta, Option.map_none, idxO_l0, idxO_l1, decide_true, decide_false, reqs_true, Int.zero_sub, wrap_lit, wrapu_lit, Int.reduceLE, Int.reduceLT, Int.reduceAdd, Int.reduceSub, Int.reduceMul, Int.reduceNeg, Int.reduceEq, Option.bind_some, bin_shr_u64, bin_shl_u64, bin_shr_i64, bin_shl_i64, and_m32', Int.reduceToNat, Int.reducePow, Int.reduceMod, Int.reduceDiv, wrap_u64s, true_or, or_true, true_and, and_true, Option.isSome_none, Option.isSome_some, Nat.reduceLeDiff, Nat.reduceMul, Int.toNat_natCast, Int.cast_ofNat_Int, Int.natCast_zero, Int.natCast_one, List.isEmpty_nil, List.isEmpty_cons, List.replicate_zero, List.replicate_succ, T1, T2, T3, T4, T5, T6, T9, T10, T11, T12, T21, T22, T23, T24, T25, T26, T27, T28, T29, T30, T31, T32, T33, T34, T35, T36, T37, T38, T39, T40, T42, T43, T44, T45, T46, T47, T48, T50, T51, T52, T53, T54, T55, T56, T57, T58, T59, T61, T62, T63, T65, T67, T69, T70, T71, T72, T75, T77, T83, T84, T85, T86, T87, T89, T90, l0, l3, bin_shr_si u64]
      repeat' (first | with_reducible refine cnd_split (fun hc => ?_) (fun hc => ?_) | with_reducible refine Reqs.mk ?_ ?_)
      all_goals (try simp only [decide_eq_true_eq, decide_eq_false_iff_not] at *)
      · cases f with
        | zero => exfalso; rw [div_2_64 hpre (by omega)] at hc; omega
        | succ f =>
          rw [twU, if_pos hc] at hs
          have z1 : IntKind.i64.wrap ((u : Int) + 1) = ((u + 1 : Nat) : Int) := by rw [wrap_om (by omega) (by omega)]; omega
          simp only [z1]
          refine hX (f, u + 1) _ _ (Nat.lt_succ_self f) ⟨rfl, ?_, ?_, by simp only; omega, hs⟩
          all_goals (try simp only [look])
          all_goals simp [l0]
      · have : twU 64 n 0 = u := by
          rw [← hs]
          cases f with
          | zero => rfl
          | succ f => rw [twU, if_neg hc]
        rw [this]
        all_goals first
          | (refine ⟨?_, ?_⟩ <;> simp [look, l0, l3]; done)
          | (refine ⟨rfl, rfl, ?_, ?_⟩ <;> simp [look, l0, l3]; done)
          | (simp [look, l0, l3]; done)
    case after1 =>
      rintro ex ⟨e, h⟩ ⟨rfl, rfl, l0, l3⟩
      simp only at l0 l3
      have hst := twU_stop hpre 64 0 (by omega)
      have hge := twU_ge 64 n 0
      by_cases hU : 0 < twU 64 n 0
      · have c0 : decide ((twU 64 n 0 : Int) ≤ 0) = false := by simp only [decide_eq_false_iff_not]; omega
        simp (config := { maxSteps := 4000000, implicitDefEqProofs := false }) only [WK0, WK1, WK2, WK3, WK4, WK5, WK6, WK7, WK8, WK9, WK10, WK11, WK12, WK13, WK14, WK15, WK16, WK17, WK18, WK19, WK20, WK21, WK22, WK23, look_hit, look_miss, List.map_cons, List.map_nil, Nat.add_zero, max_v, min_v, ↓cnd_t, ↓cnd_f, startEnv, Option.map_some, List.length_nil, List.length_cons, List.nil_append, List.cons_append, List.getElem?_cons_zero, List.getElem?_cons_succ, List.set_cons_zero, List.set_cons_succ, Bool.not_true, Bool.not_false, reduceIte, Nat.reduceEqDiff, Nat.reduceAdd, Nat.reduceLT, blt_lit, beq_lit, Bool.or_true, Bool.true_or, Bool.or_false, Bool.false_or, Bool.and_true, Bool.true_and, Bool.and_self, cond_true, cond_false, List.append_nil, Iv.eta, Option.map_none, idxO_l0, idxO_l1, decide_true, decide_false, reqs_true, Int.zero_sub, wrap_lit, wrapu_lit, Int.reduceLE, Int.reduceLT, Int.reduceAdd, Int.reduceSub, Int.reduceMul, Int.reduceNeg, Int.reduceEq, Option.bind_some, bin_shr_u64, bin_shl_u64, bin_shr_i64, bin_shl_i64, and_m32', Int.reduceToNat, Int.reducePow, Int.reduceMod, Int.reduceDiv, wrap_u64s, true_or, or_true, true_and, and_true, Option.isSome_none, Option.isSome_some, Nat.reduceLeDiff, Nat.reduceMul, Int.toNat_natCast, Int.cast_ofNat_Int, Int.natCast_zero, Int.natCast_one, List.isEmpty_nil, List.isEmpty_cons, List.replicate_zero, List.replicate_succ, T1, T2, T3, T4, T5, T6, T9, T10, T11, T12, T21, T22, T23, T24, T25, T26, T27, T28, T29, T30, T31, T32, T33, T34, T35, T36, T37, T38, T39, T40, T42, T43, T44, T45, T46, T47, T48, T50, T51, T52, T53, T54, T55, T56, T57, T58, T59, T61, T62, T63, T65, T67, T69, T70, T71, T72, T75, T77, T83, T84, T85, T86, T87, T89, T90, go_turn_eq, again_n, again_r, again_e, l0, l3, c0]
        refine endS_i (t := (tw n)) hr ?_
        rw [tw_pos hU]
      · have hU0 : twU 64 n 0 = 0 := by omega
        rw [hU0] at l3
        simp (config := { maxSteps := 4000000, implicitDefEqProofs := false }) only [WK0, WK1, WK2, WK3, WK4, WK5, WK6, WK7, WK8, WK9, WK10, WK11, WK12, WK13, WK14, WK15, WK16, WK17, WK18, WK19, WK20, WK21, WK22, WK23, look_hit, look_miss, List.map_cons, List.map_nil, Nat.add_zero, max_v, min_v, ↓cnd_t, ↓cnd_f, startEnv, Option.map_some, List.length_nil, List.length_cons, List.nil_append, List.cons_append, List.getElem?_cons_zero, List.getElem?_cons_succ, List.set_cons_zero, List.set_cons_succ, Bool.not_true, Bool.not_false, reduceIte, Nat.reduceEqDiff, Nat.reduceAdd, Nat.reduceLT, blt_lit, beq_lit, Bool.or_true, Bool.true_or, Bool.or_false, Bool.false_or, Bool.and_true, Bool.true_and, Bool.and_self, cond_true, cond_false, List.append_nil, Iv.eta, Option.map_none, idxO_l0, idxO_l1, decide_true, decide_false, reqs_true, Int.zero_sub, wrap_lit, wrapu_lit, Int.reduceLE, Int.reduceLT, Int.reduceAdd, Int.reduceSub, Int.reduceMul, Int.reduceNeg, Int.reduceEq, Option.bind_some, bin_shr_u64, bin_shl_u64, bin_shr_i64, bin_shl_i64, and_m32', Int.reduceToNat, Int.reducePow, Int.reduceMod, Int.reduceDiv, wrap_u64s, true_or, or_true, true_and, and_true, Option.isSome_none, Option.isSome_some, Nat.reduceLeDiff, Nat.reduceMul, Int.toNat_natCast, Int.cast_ofNat_Int, Int.natCast_zero, Int.natCast_one, List.isEmpty_nil, List.isEmpty_cons, List.replicate_zero, List.replicate_succ, T1, T2, T3, T4, T5, T6, T9, T10, T11, T12, T21, T22, T23, T24, T25, T26, T27, T28, T29, T30, T31, T32, T33, T34, T35, T36, T37, T38, T39, T40, T42, T43, T44, T45, T46, T47, T48, T50, T51, T52, T53, T54, T55, T56, T57, T58, T59, T61, T62, T63, T65, T67, T69, T70, T71, T72, T75, T77, T83, T84, T85, T86, T87, T89, T90, l0, l3]
        refine go_loop (α := Nat × Nat) (fun a => a.1) (fun a e h => h = [] ∧ look e 0 = some (.v (.c (.p (.int .i64 n)))) ∧ look e 3 = some (.v (.c (.p (.int .i64 (-(a.2 : Int)))))) ∧ a.1 + a.2 = 64 ∧ n * 2 ^ a.2 ≤ 1152921504606846976 ∧ twD a.1 n a.2 = twD 64 n 0) (64, 0) ⟨rfl, by simp [look, l0], by simp [look, l3], rfl, by simp only; omega, rfl⟩ ?_
        clear l0 l3
        rintro X ⟨f, d⟩ e h ⟨rfl, l0, l3, hf, hb, hs⟩ hX
        simp only at l3 hf hb hs hX
        have d64 : d ≤ 64 := by omega
        have hP : (0 : Int) < 2 ^ d := Int.pow_pos (by omega)
        have hn0 : 0 ≤ n * 2 ^ d := Int.mul_nonneg (by omega) (by omega)
        have c0 : decide (-(d : Int) ≤ 0) = true := by simp only [decide_eq_true_eq]; omega
        have c1 : IntKind.i64.wrap (-(-(d : Int))) = (d : Int) := by rw [wrap_om (by omega) (by omega)]; omega
        have c2 : IntKind.i64.wrap (n * 2 ^ d) = n * 2 ^ d := wrap_om (by omega) (by omega)
        have c3 : IntKind.i64.wrap (-(d : Int) - 1) = -((d + 1 : Nat) : Int) := by rw [wrap_om (by omega) (by omega)]; omega
        simp (config := { maxSteps := 4000000, implicitDefEqProofs := false }) only [WK0, WK1, WK2, WK3, WK4, WK5, WK6, WK7, WK8, WK9, WK10, WK11, WK12, WK13, WK14, WK15, WK16, WK17, WK18, WK19, WK20, WK21, WK22, WK23, look_hit, look_miss, List.map_cons, List.map_nil, Nat.add_zero, max_v, min_v, ↓cnd_t, ↓cnd_f, startEnv, Option.map_some, List.length_nil, List.length_cons, List.nil_append, List.cons_append, List.getElem?_cons_zero, List.getElem?_cons_succ, List.set_cons_zero, List.set_cons_succ, Bool.not_true, Bool.not_false, reduceIte, Nat.reduceEqDiff, Nat.reduceAdd, Nat.reduceLT, blt_lit, beq_lit, Bool.or_true, Bool.true_or, Bool.or_false, Bool.false_or, Bool.and_true, Bool.true_and, Bool.and_self, cond_true, cond_false, List.append_nil, Iv.eta, Option.map_none, idxO_l0, idxO_l1, decide_true, decide_false, reqs_true, Int.zero_sub, wrap_lit, wrapu_lit, Int.reduceLE, Int.reduceLT, Int.reduceAdd, Int.reduceSub, Int.reduceMul, Int.reduceNeg, Int.reduceEq, Option.bind_some, bin_shr_u64, bin_shl_u64, bin_shr_i64, bin_shl_i64, and_m32', Int.reduceToNat, Int.reducePow, Int.reduceMod, Int.reduceDiv, wrap_u64s, true_or, or_true, true_and, and_true, Option.isSome_none, Option.isSome_some, Nat.reduceLeDiff, Nat.reduceMul, Int.toNat_natCast, Int.cast_ofNat_Int, Int.natCast_zero, Int.natCast_one, List.isEmpty_nil, List.isEmpty_cons, List.replicate_zero, List.replicate_succ, T1, T2, T3, T4, T5, T6, T9, T10, T11, T12, T21, T22, T23, T24, T25, T26, T27, T28, T29, T30, T31, T32, T33, T34, T35, T36, T37, T38, T39, T40, T42, T43, T44, T45, T46, T47, T48, T50, T51, T52, T53, T54, T55, T56, T57, T58, T59, T61, T62, T63, T65, T67, T69, T70, T71, T72, T75, T77, T83, T84, T85, T86, T87, T89, T90, l0, l3, c0, c1, c2, c3, bin_shl_si d64]
        repeat' (first | with_reducible refine cnd_split (fun hc => ?_) (fun hc => ?_) | with_reducible refine Reqs.mk ?_ ?_)
        all_goals (try simp only [decide_eq_true_eq, decide_eq_false_iff_not] at *)
        · cases f with
          | zero =>
            exfalso
            have := twD_stop hpre.1 0 64 (by omega)
            simp only [twD] at this
            have hd : d = 64 := by omega
            subst hd
            omega
          | succ f =>
            rw [twD, if_pos hc] at hs
            refine hX (f, d + 1) _ _ (Nat.lt_succ_self f) ⟨rfl, ?_, ?_, by simp only; omega, ?_, hs⟩
            · simp [look, l0]
            · simp [look]
            · simp only; rw [Int.pow_succ, ← Int.mul_assoc]; omega
        · refine endS_i (t := (tw n)) hr ?_
          rw [tw_neg hU, ← hs]
          cases f with
          | zero => rfl
          | succ f => rw [twD, if_neg hc]
  · cases hF

-- logat
theorem logA_w {n : Int} (h : within n 1 1152921504606846976 = false) : logA n = whole := by
  unfold logA
  rw [h]; rfl
theorem logA_in {n : Int} (h : within n 1 1152921504606846976 = true) : logA n = addI (lnI (tw n)) (widI (mulI (mulI (intI 2) (logZ n)) (logL 5 (sqrI (logZ n)) (quotI 1 11)))) := by
  unfold logA
  rw [if_pos h]

theorem up_in {n P : Int} (hn : 1 ≤ n ∧ n ≤ 1152921504606846976) (hP : 1 ≤ P := by exact Int.pow_pos (by omega)) : IntKind.i64.wrap (-(-n / P)) = -(-n / P) := by
  have h := (@quo_bd2 (-n) P (by omega)).2 (by omega)
  exact wrap_om (by omega) (by omega)
theorem twD_hi : ∀ (f : Nat) (n : Int) (d : Nat), d < twD f n d → n * 2 ^ (twD f n d - 1) < 3221225472
  | 0, n, d, h => by unfold twD at h; omega
  | f + 1, n, d, h => by
    unfold twD at h ⊢
    split at h
    · rename_i hc
      rw [if_pos hc]
      have hg := twD_ge f n (d + 1)
      by_cases h2 : d + 1 < twD f n (d + 1)
      · exact twD_hi f n (d + 1) h2
      · have : twD f n (d + 1) = d + 1 := by omega
        rw [this]; exact hc
    · omega

-- impl.LogAt
theorem impl_LogAt_logA_ok : Fn Try.prog 23 F_logA := by
  refine fn_of_go (O := orc [⟨38, F_fixOk, .inl impl_ValidFix_fixOk_ok⟩, ⟨39, F_whole, .inl impl_Whole_whole_ok⟩, ⟨40, F_subI, .inl impl_SubI_subI_ok⟩, ⟨41, F_atI, .inl impl_at_atI_ok⟩, ⟨42, F_lnI, .inl impl_LogTwoI_lnI_ok⟩, ⟨43, F_intI, .inl impl_Integer_intI_ok⟩, ⟨44, F_addI, .inl impl_AddI_addI_ok⟩, ⟨45, F_divI, .inl impl_DivI_divI_ok⟩, ⟨46, F_mulI, .inl impl_MulI_mulI_ok⟩, ⟨48, F_widI, .inl impl_widened_widI_ok⟩, ⟨65, F_tw, .inl impl_twosOf_tw_ok⟩, ⟨66, F_sqrI, .inl impl_SqrI_sqrI_ok⟩, ⟨67, F_quotI, .inl impl_Quotient_quotI_ok⟩]) mixed T_ok (orc_sound _) Try.func23 (by kernel_rfl) rfl Try.ntmps23 (by kernel_rfl) Try.results23 ?_
  intro args g pre r new hF hpre
  unfold F_logA at hF
  split at hF
  · rename_i n
    simp only [Option.some.injEq, Prod.mk.injEq] at hF
    obtain ⟨rfl, hr, rfl⟩ := hF
    refine ⟨by simp, ?_⟩
    by_cases hn : 1 ≤ n ∧ n ≤ 1152921504606846976
    · have hA := logA_in (within_iff.2 hn)
      have c1 : fixOk n = true := by rw [fixOk_iff]; omega
      have c2 : decide (n ≤ 0) = false := by simp only [decide_eq_false_iff_not]; omega
      have hge := twU_ge 64 n 0
      have hgd := twD_ge 64 n 0
      have w1 : IntKind.i64.wrap (-n) = -n := wrap_om (by omega) (by omega)
      by_cases hU : 0 < twU 64 n 0
      · have hT := tw_pos hU
        obtain ⟨u, eu⟩ : ∃ u, twU 64 n 0 = u := ⟨_, rfl⟩
        rw [eu] at hT hU hge
        have u64 : u ≤ 64 := by omega
        have c3 : decide (0 < (u : Int)) = true := by simp only [decide_eq_true_eq]; omega
        have w2 : IntKind.i64.wrap (-(-n / 2 ^ u)) = -(-n / 2 ^ u) := up_in hn
        have hM : logM n = ⟨n / 2 ^ u, -(-n / 2 ^ u)⟩ := by
          unfold logM
          rw [if_pos (by omega), show (tw n).toNat = u by omega]
        have hZ : divI (subI ⟨n / 2 ^ u, -(-n / 2 ^ u)⟩ (intI 1)) (addI ⟨n / 2 ^ u, -(-n / 2 ^ u)⟩ (intI 1)) = logZ n := by
          unfold logZ; rw [hM]
        simp (config := { maxSteps := 4000000, implicitDefEqProofs := false }) only [F_addI_eq, F_atI_eq, F_divI_eq, F_fixOk_eq, F_intI_eq, F_lnI_eq, F_mulI_eq, F_quotI_eq, F_sqrI_eq, F_subI_eq, F_tw_eq, F_whole_eq, F_widI_eq, WK0, WK1, WK2, WK3, WK4, WK5, WK6, WK7, WK8, WK9, WK10, WK11, WK12, WK13, WK14, WK15, WK16, WK17, WK18, WK19, WK20, WK21, WK22, WK23, look_hit, look_miss, List.map_cons, List.map_nil, Nat.add_zero, max_v, min_v, ↓cnd_t, ↓cnd_f, startEnv, Option.map_some, List.length_nil, List.length_cons, List.nil_append, List.cons_append, List.getElem?_cons_zero, List.getElem?_cons_succ, List.set_cons_zero, List.set_cons_succ, Bool.not_true, Bool.not_false, reduceIte, Nat.reduceEqDiff, Nat.reduceAdd, Nat.reduceLT, blt_lit, beq_lit, Bool.or_true, Bool.true_or, Bool.or_false, Bool.false_or, Bool.and_true, Bool.true_and, Bool.and_self, cond_true, cond_false, List.append_nil, Iv.eta, Option.map_none, idxO_l0, idxO_l1, decide_true, decide_false, reqs_true, Int.zero_sub, wrap_lit, wrapu_lit, Int.reduceLE, Int.reduceLT, Int.reduceAdd, Int.reduceSub, Int.reduceMul, Int.reduceNeg, Int.reduceEq, Option.bind_some, bin_shr_u64, bin_shl_u64, bin_shr_i64, bin_shl_i64, and_m32', Int.reduceToNat, Int.reducePow, Int.reduceMod, Int.reduceDiv, wrap_u64s, true_or, or_true, true_and, and_true, Option.isSome_none, Option.isSome_some, Nat.reduceLeDiff, Nat.reduceMul, Int.toNat_natCast, Int.cast_ofNat_Int, Int.natCast_zero, Int.natCast_one, List.isEmpty_nil, List.isEmpty_cons, List.replicate_zero, List.replicate_succ, T1, T2, T3, T4, T5, T6, T9, T10, T11, T12, T21, T22, T23, T24, T25, T26, T27, T28, T29, T30, T31, T32, T33, T34, T35, T36, T37, T38, T39, T40, T42, T43, T44, T45, T46, T47, T48, T50, T51, T52, T53, T54, T55, T56, T57, T58, T59, T61, T62, T63, T65, T67, T69, T70, T71, T72, T75, T77, T83, T84, T85, T86, T87, T89, T90, c1, c2, hT, c3, w1, w2, hZ, bin_shr_si u64]
        repeat' (first | with_reducible refine cnd_split (fun hc => ?_) (fun hc => ?_) | with_reducible refine Reqs.mk ?_ ?_)
        all_goals (first | trivial | exact hn | (unfold inR; omega) | skip)
        refine go_loop (α := Nat × Iv) (fun a => a.1) (fun a e h => h = [[.int .i64 0, .int .i64 0], [.int .i64 (logM n).lo, .int .i64 (logM n).hi], [.int .i64 (logZ n).lo, .int .i64 (logZ n).hi], [.int .i64 (sqrI (logZ n)).lo, .int .i64 (sqrI (logZ n)).hi], [.int .i64 a.2.lo, .int .i64 a.2.hi]] ∧ look e 2 = some (.v (.c (.ptr (.own 0 0)))) ∧ look e 3 = some (.v (.c (.p (.int .i64 (tw n))))) ∧ look e 5 = some (.v (.c (.ptr (.own 2 0)))) ∧ look e 6 = some (.v (.c (.ptr (.own 3 0)))) ∧ look e 7 = some (.v (.c (.ptr (.own 4 0)))) ∧ look e 8 = some (.v (.c (.p (.int .i64 (2 * (a.1 : Int) - 1))))) ∧ a.1 ≤ 5 ∧ logL a.1 (sqrI (logZ n)) a.2 = logL 5 (sqrI (logZ n)) (quotI 1 11)) (5, quotI 1 11) ⟨by rw [hM], rfl, by rw [hT]; rfl, rfl, rfl, rfl, rfl, by simp only; omega, rfl⟩ ?_
        rintro X ⟨k, p⟩ e h ⟨rfl, l2, l3, l5, l6, l7, l8, hk, hs⟩ hX
        simp only at l8 hk hs hX
        cases k with
        | zero =>
          obtain ⟨C, eC⟩ : ∃ C : Int, 2 * ((0 : Nat) : Int) - 1 = C := ⟨_, rfl⟩
          rw [eC] at l8
          have z0 : decide (1 ≤ C) = false := by simp only [decide_eq_false_iff_not]; omega
          simp (config := { maxSteps := 4000000, implicitDefEqProofs := false }) only [F_addI_eq, F_atI_eq, F_divI_eq, F_fixOk_eq, F_intI_eq, F_lnI_eq, F_mulI_eq, F_quotI_eq, F_sqrI_eq, F_subI_eq, F_tw_eq, F_whole_eq, F_widI_eq, WK0, WK1, WK2, WK3, WK4, WK5, WK6, WK7, WK8, WK9, WK10, WK11, WK12, WK13, WK14, WK15, WK16, WK17, WK18, WK19, WK20, WK21, WK22, WK23, look_hit, look_miss, List.map_cons, List.map_nil, Nat.add_zero, max_v, min_v, ↓cnd_t, ↓cnd_f, startEnv, Option.map_some, List.length_nil, List.length_cons, List.nil_append, List.cons_append, List.getElem?_cons_zero, List.getElem?_cons_succ, List.set_cons_zero, List.set_cons_succ, Bool.not_true, Bool.not_false, reduceIte, Nat.reduceEqDiff, Nat.reduceAdd, Nat.reduceLT, blt_lit, beq_lit, Bool.or_true, Bool.true_or, Bool.or_false, Bool.false_or, Bool.and_true, Bool.true_and, Bool.and_self, cond_true, cond_false, List.append_nil, Iv.eta, Option.map_none, idxO_l0, idxO_l1, decide_true, decide_false, reqs_true, Int.zero_sub, wrap_lit, wrapu_lit, Int.reduceLE, Int.reduceLT, Int.reduceAdd, Int.reduceSub, Int.reduceMul, Int.reduceNeg, Int.reduceEq, Option.bind_some, bin_shr_u64, bin_shl_u64, bin_shr_i64, bin_shl_i64, and_m32', Int.reduceToNat, Int.reducePow, Int.reduceMod, Int.reduceDiv, wrap_u64s, true_or, or_true, true_and, and_true, Option.isSome_none, Option.isSome_some, Nat.reduceLeDiff, Nat.reduceMul, Int.toNat_natCast, Int.cast_ofNat_Int, Int.natCast_zero, Int.natCast_one, List.isEmpty_nil, List.isEmpty_cons, List.replicate_zero, List.replicate_succ, T1, T2, T3, T4, T5, T6, T9, T10, T11, T12, T21, T22, T23, T24, T25, T26, T27, T28, T29, T30, T31, T32, T33, T34, T35, T36, T37, T38, T39, T40, T42, T43, T44, T45, T46, T47, T48, T50, T51, T52, T53, T54, T55, T56, T57, T58, T59, T61, T62, T63, T65, T67, T69, T70, T71, T72, T75, T77, T83, T84, T85, T86, T87, T89, T90, l2, l3, l5, l6, l7, l8, z0]
          repeat' (first | with_reducible refine cnd_split (fun hc => ?_) (fun hc => ?_) | with_reducible refine Reqs.mk ?_ ?_)
          all_goals first
            | rfl
            | trivial
            | (refine endS_v (t := (logA n)) hr ?_; rw [hA, ← hs, logL])
        | succ k =>
          have eC : 2 * ((k + 1 : Nat) : Int) - 1 = 2 * (k : Int) + 1 := by omega
          rw [eC] at l8
          rw [logL] at hs
          have z0 : decide (1 ≤ 2 * (k : Int) + 1) = true := by simp only [decide_eq_true_eq]; omega
          have z1 : IntKind.i64.wrap (2 * (k : Int) + 1 - 2) = 2 * (k : Int) - 1 := by rw [wrap_om (by omega) (by omega)]; omega
          simp (config := { maxSteps := 4000000, implicitDefEqProofs := false }) only [F_addI_eq, F_atI_eq, F_divI_eq, F_fixOk_eq, F_intI_eq, F_lnI_eq, F_mulI_eq, F_quotI_eq, F_sqrI_eq, F_subI_eq, F_tw_eq, F_whole_eq, F_widI_eq, WK0, WK1, WK2, WK3, WK4, WK5, WK6, WK7, WK8, WK9, WK10, WK11, WK12, WK13, WK14, WK15, WK16, WK17, WK18, WK19, WK20, WK21, WK22, WK23, look_hit, look_miss, List.map_cons, List.map_nil, Nat.add_zero, max_v, min_v, ↓cnd_t, ↓cnd_f, startEnv, Option.map_some, List.length_nil, List.length_cons, List.nil_append, List.cons_append, List.getElem?_cons_zero, List.getElem?_cons_succ, List.set_cons_zero, List.set_cons_succ, Bool.not_true, Bool.not_false, reduceIte, Nat.reduceEqDiff, Nat.reduceAdd, Nat.reduceLT, blt_lit, beq_lit, Bool.or_true, Bool.true_or, Bool.or_false, Bool.false_or, Bool.and_true, Bool.true_and, Bool.and_self, cond_true, cond_false, List.append_nil, Iv.eta, Option.map_none, idxO_l0, idxO_l1, decide_true, decide_false, reqs_true, Int.zero_sub, wrap_lit, wrapu_lit, Int.reduceLE, Int.reduceLT, Int.reduceAdd, Int.reduceSub, Int.reduceMul, Int.reduceNeg, Int.reduceEq, Option.bind_some, bin_shr_u64, bin_shl_u64, bin_shr_i64, bin_shl_i64, and_m32', Int.reduceToNat, Int.reducePow, Int.reduceMod, Int.reduceDiv, wrap_u64s, true_or, or_true, true_and, and_true, Option.isSome_none, Option.isSome_some, Nat.reduceLeDiff, Nat.reduceMul, Int.toNat_natCast, Int.cast_ofNat_Int, Int.natCast_zero, Int.natCast_one, List.isEmpty_nil, List.isEmpty_cons, List.replicate_zero, List.replicate_succ, T1, T2, T3, T4, T5, T6, T9, T10, T11, T12, T21, T22, T23, T24, T25, T26, T27, T28, T29, T30, T31, T32, T33, T34, T35, T36, T37, T38, T39, T40, T42, T43, T44, T45, T46, T47, T48, T50, T51, T52, T53, T54, T55, T56, T57, T58, T59, T61, T62, T63, T65, T67, T69, T70, T71, T72, T75, T77, T83, T84, T85, T86, T87, T89, T90, l2, l3, l5, l6, l7, l8, z0, z1]
          repeat' (first | with_reducible refine cnd_split (fun hc => ?_) (fun hc => ?_) | with_reducible refine Reqs.mk ?_ ?_)
          all_goals first
            | (unfold inR; omega)
            | (refine hX (k, _) _ _ (Nat.lt_succ_self k) ⟨rfl, ?_, ?_, ?_, ?_, ?_, ?_, by simp only; omega, hs⟩
               all_goals (try simp only [look])
               all_goals simp [l2, l3, l5, l6, l7])
      · have hT := tw_neg hU
        have hx := twD_hi 64 n 0
        obtain ⟨d, ed⟩ : ∃ d, twD 64 n 0 = d := ⟨_, rfl⟩
        rw [ed] at hT hgd hx
        have d64 : d ≤ 64 := by omega
        have c3 : decide (0 < -(d : Int)) = false := by simp only [decide_eq_false_iff_not]; omega
        have c4 : IntKind.i64.wrap (-(-(d : Int))) = (d : Int) := by rw [wrap_om (by omega) (by omega)]; omega
        have hP : (0 : Int) < 2 ^ d := Int.pow_pos (by omega)
        have h0 : 0 ≤ n * 2 ^ d := Int.mul_nonneg (by omega) (by omega)
        have w2 : IntKind.i64.wrap (n * 2 ^ d) = n * 2 ^ d := by
          refine wrap_om (by omega) ?_
          by_cases hd0 : d = 0
          · subst hd0; simp; omega
          · obtain ⟨j, rfl⟩ : ∃ j, d = j + 1 := ⟨d - 1, by omega⟩
            have := hx (by omega)
            simp only [Nat.add_sub_cancel] at this
            rw [Int.pow_succ, ← Int.mul_assoc]; omega
        have hM : logM n = ⟨n * 2 ^ d, n * 2 ^ d⟩ := by
          unfold logM
          rw [if_neg (by omega), show (-tw n).toNat = d by omega]
        have hZ : divI (subI ⟨n * 2 ^ d, n * 2 ^ d⟩ (intI 1)) (addI ⟨n * 2 ^ d, n * 2 ^ d⟩ (intI 1)) = logZ n := by
          unfold logZ; rw [hM]
        simp (config := { maxSteps := 4000000, implicitDefEqProofs := false }) only [F_addI_eq, F_atI_eq, F_divI_eq, F_fixOk_eq, F_intI_eq, F_lnI_eq, F_mulI_eq, F_quotI_eq, F_sqrI_eq, F_subI_eq, F_tw_eq, F_whole_eq, F_widI_eq, WK0, WK1, WK2, WK3, WK4, WK5, WK6, WK7, WK8, WK9, WK10, WK11, WK12, WK13, WK14, WK15, WK16, WK17, WK18, WK19, WK20, WK21, WK22, WK23, look_hit, look_miss, List.map_cons, List.map_nil, Nat.add_zero, max_v, min_v, ↓cnd_t, ↓cnd_f, startEnv, Option.map_some, List.length_nil, List.length_cons, List.nil_append, List.cons_append, List.getElem?_cons_zero, List.getElem?_cons_succ, List.set_cons_zero, List.set_cons_succ, Bool.not_true, Bool.not_false, reduceIte, Nat.reduceEqDiff, Nat.reduceAdd, Nat.reduceLT, blt_lit, beq_lit, Bool.or_true, Bool.true_or, Bool.or_false, Bool.false_or, Bool.and_true, Bool.true_and, Bool.and_self, cond_true, cond_false, List.append_nil, Iv.eta, Option.map_none, idxO_l0, idxO_l1, decide_true, decide_false, reqs_true, Int.zero_sub, wrap_lit, wrapu_lit, Int.reduceLE, Int.reduceLT, Int.reduceAdd, Int.reduceSub, Int.reduceMul, Int.reduceNeg, Int.reduceEq, Option.bind_some, bin_shr_u64, bin_shl_u64, bin_shr_i64, bin_shl_i64, and_m32', Int.reduceToNat, Int.reducePow, Int.reduceMod, Int.reduceDiv, wrap_u64s, true_or, or_true, true_and, and_true, Option.isSome_none, Option.isSome_some, Nat.reduceLeDiff, Nat.reduceMul, Int.toNat_natCast, Int.cast_ofNat_Int, Int.natCast_zero, Int.natCast_one, List.isEmpty_nil, List.isEmpty_cons, List.replicate_zero, List.replicate_succ, T1, T2, T3, T4, T5, T6, T9, T10, T11, T12, T21, T22, T23, T24, T25, T26, T27, T28, T29, T30, T31, T32, T33, T34, T35, T36, T37, T38, T39, T40, T42, T43, T44, T45, T46, T47, T48, T50, T51, T52, T53, T54, T55, T56, T57, T58, T59, T61, T62, T63, T65, T67, T69, T70, T71, T72, T75, T77, T83, T84, T85, T86, T87, T89, T90, c1, c2, hT, c3, c4, w1, w2, hZ, bin_shl_si d64]
        repeat' (first | with_reducible refine cnd_split (fun hc => ?_) (fun hc => ?_) | with_reducible refine Reqs.mk ?_ ?_)
        all_goals (first | trivial | exact hn | (unfold inR; omega) | skip)
        refine go_loop (α := Nat × Iv) (fun a => a.1) (fun a e h => h = [[.int .i64 0, .int .i64 0], [.int .i64 (logM n).lo, .int .i64 (logM n).hi], [.int .i64 (logZ n).lo, .int .i64 (logZ n).hi], [.int .i64 (sqrI (logZ n)).lo, .int .i64 (sqrI (logZ n)).hi], [.int .i64 a.2.lo, .int .i64 a.2.hi]] ∧ look e 2 = some (.v (.c (.ptr (.own 0 0)))) ∧ look e 3 = some (.v (.c (.p (.int .i64 (tw n))))) ∧ look e 5 = some (.v (.c (.ptr (.own 2 0)))) ∧ look e 6 = some (.v (.c (.ptr (.own 3 0)))) ∧ look e 7 = some (.v (.c (.ptr (.own 4 0)))) ∧ look e 8 = some (.v (.c (.p (.int .i64 (2 * (a.1 : Int) - 1))))) ∧ a.1 ≤ 5 ∧ logL a.1 (sqrI (logZ n)) a.2 = logL 5 (sqrI (logZ n)) (quotI 1 11)) (5, quotI 1 11) ⟨by rw [hM], rfl, by rw [hT]; rfl, rfl, rfl, rfl, rfl, by simp only; omega, rfl⟩ ?_
        rintro X ⟨k, p⟩ e h ⟨rfl, l2, l3, l5, l6, l7, l8, hk, hs⟩ hX
        simp only at l8 hk hs hX
        cases k with
        | zero =>
          obtain ⟨C, eC⟩ : ∃ C : Int, 2 * ((0 : Nat) : Int) - 1 = C := ⟨_, rfl⟩
          rw [eC] at l8
          have z0 : decide (1 ≤ C) = false := by simp only [decide_eq_false_iff_not]; omega
          simp (config := { maxSteps := 4000000, implicitDefEqProofs := false }) only [F_addI_eq, F_atI_eq, F_divI_eq, F_fixOk_eq, F_intI_eq, F_lnI_eq, F_mulI_eq, F_quotI_eq, F_sqrI_eq, F_subI_eq, F_tw_eq, F_whole_eq, F_widI_eq, WK0, WK1, WK2, WK3, WK4, WK5, WK6, WK7, WK8, WK9, WK10, WK11, WK12, WK13, WK14, WK15, WK16, WK17, WK18, WK19, WK20, WK21, WK22, WK23, look_hit, look_miss, List.map_cons, List.map_nil, Nat.add_zero, max_v, min_v, ↓cnd_t, ↓cnd_f, startEnv, Option.map_some, List.length_nil, List.length_cons, List.nil_append, List.cons_append, List.getElem?_cons_zero, List.getElem?_cons_succ, List.set_cons_zero, List.set_cons_succ, Bool.not_true, Bool.not_false, reduceIte, Nat.reduceEqDiff, Nat.reduceAdd, Nat.reduceLT, blt_lit, beq_lit, Bool.or_true, Bool.true_or, Bool.or_false, Bool.false_or, Bool.and_true, Bool.true_and, Bool.and_self, cond_true, cond_false, List.append_nil, Iv.eta, Option.map_none, idxO_l0, idxO_l1, decide_true, decide_false, reqs_true, Int.zero_sub, wrap_lit, wrapu_lit, Int.reduceLE, Int.reduceLT, Int.reduceAdd, Int.reduceSub, Int.reduceMul, Int.reduceNeg, Int.reduceEq, Option.bind_some, bin_shr_u64, bin_shl_u64, bin_shr_i64, bin_shl_i64, and_m32', Int.reduceToNat, Int.reducePow, Int.reduceMod, Int.reduceDiv, wrap_u64s, true_or, or_true, true_and, and_true, Option.isSome_none, Option.isSome_some, Nat.reduceLeDiff, Nat.reduceMul, Int.toNat_natCast, Int.cast_ofNat_Int, Int.natCast_zero, Int.natCast_one, List.isEmpty_nil, List.isEmpty_cons, List.replicate_zero, List.replicate_succ, T1, T2, T3, T4, T5, T6, T9, T10, T11, T12, T21, T22, T23, T24, T25, T26, T27, T28, T29, T30, T31, T32, T33, T34, T35, T36, T37, T38, T39, T40, T42, T43, T44, T45, T46, T47, T48, T50, T51, T52, T53, T54, T55, T56, T57, T58, T59, T61, T62, T63, T65, T67, T69, T70, T71, T72, T75, T77, T83, T84, T85, T86, T87, T89, T90, l2, l3, l5, l6, l7, l8, z0]
          repeat' (first | with_reducible refine cnd_split (fun hc => ?_) (fun hc => ?_) | with_reducible refine Reqs.mk ?_ ?_)
          all_goals first
            | rfl
            | trivial
            | (refine endS_v (t := (logA n)) hr ?_; rw [hA, ← hs, logL])
        | succ k =>
          have eC : 2 * ((k + 1 : Nat) : Int) - 1 = 2 * (k : Int) + 1 := by omega
          rw [eC] at l8
          rw [logL] at hs
          have z0 : decide (1 ≤ 2 * (k : Int) + 1) = true := by simp only [decide_eq_true_eq]; omega
          have z1 : IntKind.i64.wrap (2 * (k : Int) + 1 - 2) = 2 * (k : Int) - 1 := by rw [wrap_om (by omega) (by omega)]; omega
          simp (config := { maxSteps := 4000000, implicitDefEqProofs := false }) only [F_addI_eq, F_atI_eq, F_divI_eq, F_fixOk_eq, F_intI_eq, F_lnI_eq, F_mulI_eq, F_quotI_eq, F_sqrI_eq, F_subI_eq, F_tw_eq, F_whole_eq, F_widI_eq, WK0, WK1, WK2, WK3, WK4, WK5, WK6, WK7, WK8, WK9, WK10, WK11, WK12, WK13, WK14, WK15, WK16, WK17, WK18, WK19, WK20, WK21, WK22, WK23, look_hit, look_miss, List.map_cons, List.map_nil, Nat.add_zero, max_v, min_v, ↓cnd_t, ↓cnd_f, startEnv, Option.map_some, List.length_nil, List.length_cons, List.nil_append, List.cons_append, List.getElem?_cons_zero, List.getElem?_cons_succ, List.set_cons_zero, List.set_cons_succ, Bool.not_true, Bool.not_false, reduceIte, Nat.reduceEqDiff, Nat.reduceAdd, Nat.reduceLT, blt_lit, beq_lit, Bool.or_true, Bool.true_or, Bool.or_false, Bool.false_or, Bool.and_true, Bool.true_and, Bool.and_self, cond_true, cond_false, List.append_nil, Iv.eta, Option.map_none, idxO_l0, idxO_l1, decide_true, decide_false, reqs_true, Int.zero_sub, wrap_lit, wrapu_lit, Int.reduceLE, Int.reduceLT, Int.reduceAdd, Int.reduceSub, Int.reduceMul, Int.reduceNeg, Int.reduceEq, Option.bind_some, bin_shr_u64, bin_shl_u64, bin_shr_i64, bin_shl_i64, and_m32', Int.reduceToNat, Int.reducePow, Int.reduceMod, Int.reduceDiv, wrap_u64s, true_or, or_true, true_and, and_true, Option.isSome_none, Option.isSome_some, Nat.reduceLeDiff, Nat.reduceMul, Int.toNat_natCast, Int.cast_ofNat_Int, Int.natCast_zero, Int.natCast_one, List.isEmpty_nil, List.isEmpty_cons, List.replicate_zero, List.replicate_succ, T1, T2, T3, T4, T5, T6, T9, T10, T11, T12, T21, T22, T23, T24, T25, T26, T27, T28, T29, T30, T31, T32, T33, T34, T35, T36, T37, T38, T39, T40, T42, T43, T44, T45, T46, T47, T48, T50, T51, T52, T53, T54, T55, T56, T57, T58, T59, T61, T62, T63, T65, T67, T69, T70, T71, T72, T75, T77, T83, T84, T85, T86, T87, T89, T90, l2, l3, l5, l6, l7, l8, z0, z1]
          repeat' (first | with_reducible refine cnd_split (fun hc => ?_) (fun hc => ?_) | with_reducible refine Reqs.mk ?_ ?_)
          all_goals first
            | (unfold inR; omega)
            | (refine hX (k, _) _ _ (Nat.lt_succ_self k) ⟨rfl, ?_, ?_, ?_, ?_, ?_, ?_, by simp only; omega, hs⟩
               all_goals (try simp only [look])
               all_goals simp [l2, l3, l5, l6, l7])
    · have c1 : (fixOk n && decide (1 ≤ n)) = false := by
        cases h : fixOk n with
        | false => rfl
        | true => rw [fixOk_iff] at h; simp only [Bool.true_and, decide_eq_false_iff_not]; omega
      have hA : logA n = whole := logA_w (by
        cases h : within n 1 1152921504606846976 with
        | false => rfl
        | true => rw [within_iff] at h; omega)
      simp (config := { maxSteps := 4000000, implicitDefEqProofs := false }) only [F_addI_eq, F_atI_eq, F_divI_eq, F_fixOk_eq, F_intI_eq, F_lnI_eq, F_mulI_eq, F_quotI_eq, F_sqrI_eq, F_subI_eq, F_tw_eq, F_whole_eq, F_widI_eq, WK0, WK1, WK2, WK3, WK4, WK5, WK6, WK7, WK8, WK9, WK10, WK11, WK12, WK13, WK14, WK15, WK16, WK17, WK18, WK19, WK20, WK21, WK22, WK23, look_hit, look_miss, List.map_cons, List.map_nil, Nat.add_zero, max_v, min_v, ↓cnd_t, ↓cnd_f, startEnv, Option.map_some, List.length_nil, List.length_cons, List.nil_append, List.cons_append, List.getElem?_cons_zero, List.getElem?_cons_succ, List.set_cons_zero, List.set_cons_succ, Bool.not_true, Bool.not_false, reduceIte, Nat.reduceEqDiff, Nat.reduceAdd, Nat.reduceLT, blt_lit, beq_lit, Bool.or_true, Bool.true_or, Bool.or_false, Bool.false_or, Bool.and_true, Bool.true_and, Bool.and_self, cond_true, cond_false, List.append_nil, Iv.eta, Option.map_none, idxO_l0, idxO_l1, decide_true, decide_false, reqs_true, Int.zero_sub, wrap_lit, wrapu_lit, Int.reduceLE, Int.reduceLT, Int.reduceAdd, Int.reduceSub, Int.reduceMul, Int.reduceNeg, Int.reduceEq, Option.bind_some, bin_shr_u64, bin_shl_u64, bin_shr_i64, bin_shl_i64, and_m32', Int.reduceToNat, Int.reducePow, Int.reduceMod, Int.reduceDiv, wrap_u64s, true_or, or_true, true_and, and_true, Option.isSome_none, Option.isSome_some, Nat.reduceLeDiff, Nat.reduceMul, Int.toNat_natCast, Int.cast_ofNat_Int, Int.natCast_zero, Int.natCast_one, List.isEmpty_nil, List.isEmpty_cons, List.replicate_zero, List.replicate_succ, T1, T2, T3, T4, T5, T6, T9, T10, T11, T12, T21, T22, T23, T24, T25, T26, T27, T28, T29, T30, T31, T32, T33, T34, T35, T36, T37, T38, T39, T40, T42, T43, T44, T45, T46, T47, T48, T50, T51, T52, T53, T54, T55, T56, T57, T58, T59, T61, T62, T63, T65, T67, T69, T70, T71, T72, T75, T77, T83, T84, T85, T86, T87, T89, T90]
      repeat' (first | with_reducible refine cnd_split (fun hc => ?_) (fun hc => ?_) | with_reducible refine Reqs.mk ?_ ?_)
      all_goals (try simp only [decide_eq_true_eq, decide_eq_false_iff_not] at *)
      all_goals first
        | trivial
        | (refine endS_v (t := (logA n)) hr ?_; rw [hA]; done)
        | (exfalso; have := fixOk_iff.1 (by assumption : fixOk n = true); omega)
  · cases hF

end Go.Proofs.Ytmkpilmlgjnadaa.Eng
