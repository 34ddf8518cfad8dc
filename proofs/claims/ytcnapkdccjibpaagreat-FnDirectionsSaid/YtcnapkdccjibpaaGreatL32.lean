/- What functions of the program compute, and that the program computes it: part 32. -/
import Derived.Test.YtcnapkdccjibpaaGreatTab
import Derived.Test.YtcnapkdccjibpaaGreatEng16
import Derived.Laws.BitsLemmas
import Derived.Laws.Bits64
import Derived.Laws.Bits64b
import Derived.Lib.Mul64
import Derived.Lib.BitFns
import Derived.Laws.Externs
import Derived.Test.YtcnapkdccjibpaaGreatL1
import Derived.Test.YtcnapkdccjibpaaGreatL2
import Derived.Test.YtcnapkdccjibpaaGreatL3
import Derived.Test.YtcnapkdccjibpaaGreatL8
import Derived.Test.YtcnapkdccjibpaaGreatL13
import Derived.Test.YtcnapkdccjibpaaGreatL16
import Derived.Test.YtcnapkdccjibpaaGreatL17
import Derived.Test.YtcnapkdccjibpaaGreatL18
import Derived.Test.YtcnapkdccjibpaaGreatL19
import Derived.Test.YtcnapkdccjibpaaGreatL23
import Derived.Test.YtcnapkdccjibpaaGreatL24
import Derived.Test.YtcnapkdccjibpaaGreatL29
import Derived.Test.YtcnapkdccjibpaaGreatL30
import Derived.Test.YtcnapkdccjibpaaGreatL31
namespace Go.Proofs.YtcnapkdccjibpaaGreat.Eng
open Go Go.RowKit
set_option linter.unusedVariables false
set_option linter.unusedSimpArgs false
set_option maxRecDepth 100000
set_option maxHeartbeats 1000000
-- laws.FnDirections
theorem laws_FnDirections_lawFnDirections_ok : Mn Tryz.prog 6 M_lawFnDirections := by
  refine mn_of_go (O := orcM [⟨10, F_addI, .inl spec_AddI_addI_ok⟩, ⟨12, F_okI, .inl spec_ValidInterval_okI_ok⟩, ⟨17, F_insideI, .inl spec_InsideI_insideI_ok⟩, ⟨18, F_overI, .inl spec_OverlapI_overI_ok⟩, ⟨28, F_subI, .inl spec_SubI_subI_ok⟩, ⟨36, F_notOk, .inl spec_IsWhole_notOk_ok⟩, ⟨42, F_turnI, .inl spec_TurnI_turnI_ok⟩, ⟨44, F_d8FixI, .inl laws_d8Fix_d8FixI_ok⟩, ⟨50, F_dirI, .inl impl_DirectionI_dirI_ok⟩, ⟨51, F_sinAt, .inl spec_SinAt_sinAt_ok⟩, ⟨52, F_cosAt, .inl spec_CosAt_cosAt_ok⟩, ⟨53, F_dirA, .inl impl_DirectionAt_dirA_ok⟩] [⟨38, M_d8Long, false, no_one, laws_d8Long_d8Long_ok⟩, ⟨39, M_e8fix, false, no_one, spec_E8Fix_e8fix_ok⟩]) mixed T_ok (orcM_sound _ _) Tryz.func6 (by kernel_rfl) rfl Tryz.ntmps6 (by kernel_rfl) Tryz.results6 ?_
  intro m args hp pre r h' hM hpre
  unfold M_lawFnDirections at hM
  split at hM
  · rename_i a n c a' n' c'
    simp only [Option.some.injEq, Prod.mk.injEq] at hM
    obtain ⟨rfl, hr, hh⟩ := hM
    subst hh hr
    obtain ⟨t1, t2⟩ := hpre
    refine ⟨by simp, ?_⟩
    by_cases c0 : (decide (1048576 < (n : Int)) || decide (1048576 < (n' : Int))) = true
    · simp (config := { maxSteps := 4000000, implicitDefEqProofs := false }) only [F_addI_eq, F_cosAt_eq, F_d8FixI_eq, F_dirA_eq, F_dirI_eq, F_insideI_eq, F_notOk_eq, F_okI_eq, F_overI_eq, F_sinAt_eq, F_subI_eq, F_turnI_eq, WK0, WK1, WK2, WK3, WK4, WK5, WK6, WK7, WK8, WK9, WK10, WK11, WK12, WK13, WK14, WK15, WK16, WK17, WK18, WK19, WK20, WK21, WK22, WK23, WK24, WK25, WK26, WK27, WK28, look_hit, look_miss, List.map_cons, List.map_nil, Nat.add_zero, max_v, min_v, ↓cnd_t, ↓cnd_f, ↓grd_b, ↓grd_u, startEnv, Option.map_some, List.length_nil, List.length_cons, List.nil_append, List.cons_append, List.getElem?_cons_zero, List.getElem?_cons_succ, List.set_cons_zero, List.set_cons_succ, Bool.not_true, Bool.not_false, reduceIte, Nat.reduceEqDiff, Nat.reduceAdd, Nat.reduceLT, blt_lit, beq_lit, Bool.or_true, Bool.true_or, Bool.or_false, Bool.false_or, Bool.and_true, Bool.true_and, Bool.and_self, cond_true, cond_false, List.append_nil, Iv.eta, Option.map_none, idxO_l0, idxO_l1, decide_true, decide_false, reqs_true, Int.zero_sub, wrap_lit, wrapu_lit, Int.reduceLE, Int.reduceLT, Int.reduceAdd, Int.reduceSub, Int.reduceMul, Int.reduceNeg, Int.reduceEq, Option.bind_some, bin_shr_u64, bin_shl_u64, bin_shr_i64, bin_shl_i64, and_m32', Int.reduceToNat, Int.reducePow, Int.reduceMod, Int.reduceDiv, wrap_u64s, true_or, or_true, true_and, and_true, Option.isSome_none, Option.isSome_some, Nat.reduceLeDiff, Nat.reduceMul, Int.toNat_natCast, Int.cast_ofNat_Int, Int.natCast_zero, Int.natCast_one, List.isEmpty_nil, List.isEmpty_cons, List.replicate_zero, List.replicate_succ, T1, T2, T3, T4, T5, T6, T9, T10, T11, T12, T21, T22, T23, T24, T26, T27, T28, T29, T30, T31, T32, T33, T34, T35, T37, T38, T39, T40, T42, T43, T44, T45, T46, T47, T48, T50, T52, T54, T55, T56, T57, T58, T59, T60, T61, T62, T63, T64, T65, T66, T67, T68, T69, T70, T71, T72, T73, T75, T77, T78, T79, T80, T82, T83, T84, T85, T87, T89, T90, T91, T92, T95, T97, T103, T104, T105, T106, T107, T109, T110, M_d8Long_eq, c0]
      repeat' (first | with_reducible refine cnd_split (fun hc => ?_) (fun hc => ?_) | with_reducible refine Reqs.mk ?_ ?_)
      all_goals first | trivial | exact endM_same rfl trivial rfl rfl (by simp) rfl
    · have e0 : (decide (1048576 < (n : Int)) || decide (1048576 < (n' : Int))) = false := by simpa using c0
      simp only [Bool.or_eq_true, decide_eq_true_eq, not_or] at c0
      have b0 := e8fix_in (most := 13000000000) t1 (by omega) (by omega)
      have b1 := e8fix_in (most := 1099511627776) t1 (by omega) (by omega)
      have b2 := e8fix_in (most := 1099511627776) t2 (by omega) (by omega)
      obtain ⟨t, ht⟩ : ∃ t, e8fix m a n 13000000000 = t := ⟨_, rfl⟩
      obtain ⟨x, hx⟩ : ∃ x, e8fix m a n 1099511627776 = x := ⟨_, rfl⟩
      obtain ⟨y, hy⟩ : ∃ y, e8fix m a' n' 1099511627776 = y := ⟨_, rfl⟩
      rw [ht] at b0
      rw [hx] at b1
      rw [hy] at b2
      have f0 := dir_back b0
      have w1 : IntKind.i64.wrap (-y) = -y := wrap_om (by omega) (by omega)
      have oy : openOk y = true := openOk_iff.2 (by omega)
      have ox : openOk x = true := openOk_iff.2 (by omega)
      have hD : (okI (dirI (circ t 0) (circ t 1)) = false) ∨ (okI (dirI (circ t 0) (circ t 1)) = true ∧ (meetI (dirI (circ t 0) (circ t 1)) ⟨t, t⟩).2 = true) := by
        cases hk : okI (dirI (circ t 0) (circ t 1)) with
        | false => exact .inl rfl
        | true => exact .inr ⟨rfl, f0 hk⟩
      by_cases hz : y = 0 ∧ x = 0
      · obtain ⟨rfl, rfl⟩ := hz
        have g1 : okI (dirA 0 0) = false := by rw [dirA_w (by simp)]; exact okI_whole
        rcases hD with g0 | ⟨g0, g2⟩
        · simp (config := { maxSteps := 4000000, implicitDefEqProofs := false }) only [F_addI_eq, F_cosAt_eq, F_d8FixI_eq, F_dirA_eq, F_dirI_eq, F_insideI_eq, F_notOk_eq, F_okI_eq, F_overI_eq, F_sinAt_eq, F_subI_eq, F_turnI_eq, WK0, WK1, WK2, WK3, WK4, WK5, WK6, WK7, WK8, WK9, WK10, WK11, WK12, WK13, WK14, WK15, WK16, WK17, WK18, WK19, WK20, WK21, WK22, WK23, WK24, WK25, WK26, WK27, WK28, look_hit, look_miss, List.map_cons, List.map_nil, Nat.add_zero, max_v, min_v, ↓cnd_t, ↓cnd_f, ↓grd_b, ↓grd_u, startEnv, Option.map_some, List.length_nil, List.length_cons, List.nil_append, List.cons_append, List.getElem?_cons_zero, List.getElem?_cons_succ, List.set_cons_zero, List.set_cons_succ, Bool.not_true, Bool.not_false, reduceIte, Nat.reduceEqDiff, Nat.reduceAdd, Nat.reduceLT, blt_lit, beq_lit, Bool.or_true, Bool.true_or, Bool.or_false, Bool.false_or, Bool.and_true, Bool.true_and, Bool.and_self, cond_true, cond_false, List.append_nil, Iv.eta, Option.map_none, idxO_l0, idxO_l1, decide_true, decide_false, reqs_true, Int.zero_sub, wrap_lit, wrapu_lit, Int.reduceLE, Int.reduceLT, Int.reduceAdd, Int.reduceSub, Int.reduceMul, Int.reduceNeg, Int.reduceEq, Option.bind_some, bin_shr_u64, bin_shl_u64, bin_shr_i64, bin_shl_i64, and_m32', Int.reduceToNat, Int.reducePow, Int.reduceMod, Int.reduceDiv, wrap_u64s, true_or, or_true, true_and, and_true, Option.isSome_none, Option.isSome_some, Nat.reduceLeDiff, Nat.reduceMul, Int.toNat_natCast, Int.cast_ofNat_Int, Int.natCast_zero, Int.natCast_one, List.isEmpty_nil, List.isEmpty_cons, List.replicate_zero, List.replicate_succ, T1, T2, T3, T4, T5, T6, T9, T10, T11, T12, T21, T22, T23, T24, T26, T27, T28, T29, T30, T31, T32, T33, T34, T35, T37, T38, T39, T40, T42, T43, T44, T45, T46, T47, T48, T50, T52, T54, T55, T56, T57, T58, T59, T60, T61, T62, T63, T64, T65, T66, T67, T68, T69, T70, T71, T72, T73, T75, T77, T78, T79, T80, T82, T83, T84, T85, T87, T89, T90, T91, T92, T95, T97, T103, T104, T105, T106, T107, T109, T110, M_d8Long_eq, M_e8fix_eq, e0, ht, hx, hy, g0, g1, Iv.eta]
          repeat' (first | with_reducible refine cnd_split (fun hc => ?_) (fun hc => ?_) | with_reducible refine Reqs.mk ?_ ?_)
          all_goals first
            | trivial
            | exact endM_same rfl trivial rfl rfl (by simp) rfl
            | exact ⟨t1, by omega⟩
            | exact ⟨t2, by omega⟩
            | (unfold inR; omega)
            | simp_all
        · simp (config := { maxSteps := 4000000, implicitDefEqProofs := false }) only [F_addI_eq, F_cosAt_eq, F_d8FixI_eq, F_dirA_eq, F_dirI_eq, F_insideI_eq, F_notOk_eq, F_okI_eq, F_overI_eq, F_sinAt_eq, F_subI_eq, F_turnI_eq, WK0, WK1, WK2, WK3, WK4, WK5, WK6, WK7, WK8, WK9, WK10, WK11, WK12, WK13, WK14, WK15, WK16, WK17, WK18, WK19, WK20, WK21, WK22, WK23, WK24, WK25, WK26, WK27, WK28, look_hit, look_miss, List.map_cons, List.map_nil, Nat.add_zero, max_v, min_v, ↓cnd_t, ↓cnd_f, ↓grd_b, ↓grd_u, startEnv, Option.map_some, List.length_nil, List.length_cons, List.nil_append, List.cons_append, List.getElem?_cons_zero, List.getElem?_cons_succ, List.set_cons_zero, List.set_cons_succ, Bool.not_true, Bool.not_false, reduceIte, Nat.reduceEqDiff, Nat.reduceAdd, Nat.reduceLT, blt_lit, beq_lit, Bool.or_true, Bool.true_or, Bool.or_false, Bool.false_or, Bool.and_true, Bool.true_and, Bool.and_self, cond_true, cond_false, List.append_nil, Iv.eta, Option.map_none, idxO_l0, idxO_l1, decide_true, decide_false, reqs_true, Int.zero_sub, wrap_lit, wrapu_lit, Int.reduceLE, Int.reduceLT, Int.reduceAdd, Int.reduceSub, Int.reduceMul, Int.reduceNeg, Int.reduceEq, Option.bind_some, bin_shr_u64, bin_shl_u64, bin_shr_i64, bin_shl_i64, and_m32', Int.reduceToNat, Int.reducePow, Int.reduceMod, Int.reduceDiv, wrap_u64s, true_or, or_true, true_and, and_true, Option.isSome_none, Option.isSome_some, Nat.reduceLeDiff, Nat.reduceMul, Int.toNat_natCast, Int.cast_ofNat_Int, Int.natCast_zero, Int.natCast_one, List.isEmpty_nil, List.isEmpty_cons, List.replicate_zero, List.replicate_succ, T1, T2, T3, T4, T5, T6, T9, T10, T11, T12, T21, T22, T23, T24, T26, T27, T28, T29, T30, T31, T32, T33, T34, T35, T37, T38, T39, T40, T42, T43, T44, T45, T46, T47, T48, T50, T52, T54, T55, T56, T57, T58, T59, T60, T61, T62, T63, T64, T65, T66, T67, T68, T69, T70, T71, T72, T73, T75, T77, T78, T79, T80, T82, T83, T84, T85, T87, T89, T90, T91, T92, T95, T97, T103, T104, T105, T106, T107, T109, T110, M_d8Long_eq, M_e8fix_eq, e0, ht, hx, hy, g0, g1, g2, Iv.eta]
          repeat' (first | with_reducible refine cnd_split (fun hc => ?_) (fun hc => ?_) | with_reducible refine Reqs.mk ?_ ?_)
          all_goals first
            | trivial
            | exact endM_same rfl trivial rfl rfl (by simp) rfl
            | exact ⟨t1, by omega⟩
            | exact ⟨t2, by omega⟩
            | (unfold inR; omega)
            | simp_all
      · have hz' : (decide (x = 0) && decide (y = 0)) = false := by
          cases hq : (decide (x = 0) && decide (y = 0)) with
          | false => rfl
          | true => simp at hq; exact absurd ⟨hq.2, hq.1⟩ hz
        obtain ⟨g1, g2, g3⟩ := dir_quarter b2 b1 hz
        have g4 := dir_at oy ox hz g1
        have g5 := inside_self (dirA y x)
        rcases hD with g0 | ⟨g0, g6⟩
        · rcases g3 with g3 | g3
          · simp (config := { maxSteps := 4000000, implicitDefEqProofs := false }) only [F_addI_eq, F_cosAt_eq, F_d8FixI_eq, F_dirA_eq, F_dirI_eq, F_insideI_eq, F_notOk_eq, F_okI_eq, F_overI_eq, F_sinAt_eq, F_subI_eq, F_turnI_eq, WK0, WK1, WK2, WK3, WK4, WK5, WK6, WK7, WK8, WK9, WK10, WK11, WK12, WK13, WK14, WK15, WK16, WK17, WK18, WK19, WK20, WK21, WK22, WK23, WK24, WK25, WK26, WK27, WK28, look_hit, look_miss, List.map_cons, List.map_nil, Nat.add_zero, max_v, min_v, ↓cnd_t, ↓cnd_f, ↓grd_b, ↓grd_u, startEnv, Option.map_some, List.length_nil, List.length_cons, List.nil_append, List.cons_append, List.getElem?_cons_zero, List.getElem?_cons_succ, List.set_cons_zero, List.set_cons_succ, Bool.not_true, Bool.not_false, reduceIte, Nat.reduceEqDiff, Nat.reduceAdd, Nat.reduceLT, blt_lit, beq_lit, Bool.or_true, Bool.true_or, Bool.or_false, Bool.false_or, Bool.and_true, Bool.true_and, Bool.and_self, cond_true, cond_false, List.append_nil, Iv.eta, Option.map_none, idxO_l0, idxO_l1, decide_true, decide_false, reqs_true, Int.zero_sub, wrap_lit, wrapu_lit, Int.reduceLE, Int.reduceLT, Int.reduceAdd, Int.reduceSub, Int.reduceMul, Int.reduceNeg, Int.reduceEq, Option.bind_some, bin_shr_u64, bin_shl_u64, bin_shr_i64, bin_shl_i64, and_m32', Int.reduceToNat, Int.reducePow, Int.reduceMod, Int.reduceDiv, wrap_u64s, true_or, or_true, true_and, and_true, Option.isSome_none, Option.isSome_some, Nat.reduceLeDiff, Nat.reduceMul, Int.toNat_natCast, Int.cast_ofNat_Int, Int.natCast_zero, Int.natCast_one, List.isEmpty_nil, List.isEmpty_cons, List.replicate_zero, List.replicate_succ, T1, T2, T3, T4, T5, T6, T9, T10, T11, T12, T21, T22, T23, T24, T26, T27, T28, T29, T30, T31, T32, T33, T34, T35, T37, T38, T39, T40, T42, T43, T44, T45, T46, T47, T48, T50, T52, T54, T55, T56, T57, T58, T59, T60, T61, T62, T63, T64, T65, T66, T67, T68, T69, T70, T71, T72, T73, T75, T77, T78, T79, T80, T82, T83, T84, T85, T87, T89, T90, T91, T92, T95, T97, T103, T104, T105, T106, T107, T109, T110, M_d8Long_eq, M_e8fix_eq, e0, ht, hx, hy, w1, g0, g1, g2, g3, g4, g5, Iv.eta]
            repeat' (first | with_reducible refine cnd_split (fun hc => ?_) (fun hc => ?_) | with_reducible refine Reqs.mk ?_ ?_)
            all_goals first
              | trivial
              | exact endM_same rfl trivial rfl rfl (by simp) rfl
              | exact ⟨t1, by omega⟩
              | exact ⟨t2, by omega⟩
              | (unfold inR; omega)
              | simp_all
          · simp (config := { maxSteps := 4000000, implicitDefEqProofs := false }) only [F_addI_eq, F_cosAt_eq, F_d8FixI_eq, F_dirA_eq, F_dirI_eq, F_insideI_eq, F_notOk_eq, F_okI_eq, F_overI_eq, F_sinAt_eq, F_subI_eq, F_turnI_eq, WK0, WK1, WK2, WK3, WK4, WK5, WK6, WK7, WK8, WK9, WK10, WK11, WK12, WK13, WK14, WK15, WK16, WK17, WK18, WK19, WK20, WK21, WK22, WK23, WK24, WK25, WK26, WK27, WK28, look_hit, look_miss, List.map_cons, List.map_nil, Nat.add_zero, max_v, min_v, ↓cnd_t, ↓cnd_f, ↓grd_b, ↓grd_u, startEnv, Option.map_some, List.length_nil, List.length_cons, List.nil_append, List.cons_append, List.getElem?_cons_zero, List.getElem?_cons_succ, List.set_cons_zero, List.set_cons_succ, Bool.not_true, Bool.not_false, reduceIte, Nat.reduceEqDiff, Nat.reduceAdd, Nat.reduceLT, blt_lit, beq_lit, Bool.or_true, Bool.true_or, Bool.or_false, Bool.false_or, Bool.and_true, Bool.true_and, Bool.and_self, cond_true, cond_false, List.append_nil, Iv.eta, Option.map_none, idxO_l0, idxO_l1, decide_true, decide_false, reqs_true, Int.zero_sub, wrap_lit, wrapu_lit, Int.reduceLE, Int.reduceLT, Int.reduceAdd, Int.reduceSub, Int.reduceMul, Int.reduceNeg, Int.reduceEq, Option.bind_some, bin_shr_u64, bin_shl_u64, bin_shr_i64, bin_shl_i64, and_m32', Int.reduceToNat, Int.reducePow, Int.reduceMod, Int.reduceDiv, wrap_u64s, true_or, or_true, true_and, and_true, Option.isSome_none, Option.isSome_some, Nat.reduceLeDiff, Nat.reduceMul, Int.toNat_natCast, Int.cast_ofNat_Int, Int.natCast_zero, Int.natCast_one, List.isEmpty_nil, List.isEmpty_cons, List.replicate_zero, List.replicate_succ, T1, T2, T3, T4, T5, T6, T9, T10, T11, T12, T21, T22, T23, T24, T26, T27, T28, T29, T30, T31, T32, T33, T34, T35, T37, T38, T39, T40, T42, T43, T44, T45, T46, T47, T48, T50, T52, T54, T55, T56, T57, T58, T59, T60, T61, T62, T63, T64, T65, T66, T67, T68, T69, T70, T71, T72, T73, T75, T77, T78, T79, T80, T82, T83, T84, T85, T87, T89, T90, T91, T92, T95, T97, T103, T104, T105, T106, T107, T109, T110, M_d8Long_eq, M_e8fix_eq, e0, ht, hx, hy, w1, g0, g1, g2, g3, g4, g5, Iv.eta]
            repeat' (first | with_reducible refine cnd_split (fun hc => ?_) (fun hc => ?_) | with_reducible refine Reqs.mk ?_ ?_)
            all_goals first
              | trivial
              | exact endM_same rfl trivial rfl rfl (by simp) rfl
              | exact ⟨t1, by omega⟩
              | exact ⟨t2, by omega⟩
              | (unfold inR; omega)
              | simp_all
        · rcases g3 with g3 | g3
          · simp (config := { maxSteps := 4000000, implicitDefEqProofs := false }) only [F_addI_eq, F_cosAt_eq, F_d8FixI_eq, F_dirA_eq, F_dirI_eq, F_insideI_eq, F_notOk_eq, F_okI_eq, F_overI_eq, F_sinAt_eq, F_subI_eq, F_turnI_eq, WK0, WK1, WK2, WK3, WK4, WK5, WK6, WK7, WK8, WK9, WK10, WK11, WK12, WK13, WK14, WK15, WK16, WK17, WK18, WK19, WK20, WK21, WK22, WK23, WK24, WK25, WK26, WK27, WK28, look_hit, look_miss, List.map_cons, List.map_nil, Nat.add_zero, max_v, min_v, ↓cnd_t, ↓cnd_f, ↓grd_b, ↓grd_u, startEnv, Option.map_some, List.length_nil, List.length_cons, List.nil_append, List.cons_append, List.getElem?_cons_zero, List.getElem?_cons_succ, List.set_cons_zero, List.set_cons_succ, Bool.not_true, Bool.not_false, reduceIte, Nat.reduceEqDiff, Nat.reduceAdd, Nat.reduceLT, blt_lit, beq_lit, Bool.or_true, Bool.true_or, Bool.or_false, Bool.false_or, Bool.and_true, Bool.true_and, Bool.and_self, cond_true, cond_false, List.append_nil, Iv.eta, Option.map_none, idxO_l0, idxO_l1, decide_true, decide_false, reqs_true, Int.zero_sub, wrap_lit, wrapu_lit, Int.reduceLE, Int.reduceLT, Int.reduceAdd, Int.reduceSub, Int.reduceMul, Int.reduceNeg, Int.reduceEq, Option.bind_some, bin_shr_u64, bin_shl_u64, bin_shr_i64, bin_shl_i64, and_m32', Int.reduceToNat, Int.reducePow, Int.reduceMod, Int.reduceDiv, wrap_u64s, true_or, or_true, true_and, and_true, Option.isSome_none, Option.isSome_some, Nat.reduceLeDiff, Nat.reduceMul, Int.toNat_natCast, Int.cast_ofNat_Int, Int.natCast_zero, Int.natCast_one, List.isEmpty_nil, List.isEmpty_cons, List.replicate_zero, List.replicate_succ, T1, T2, T3, T4, T5, T6, T9, T10, T11, T12, T21, T22, T23, T24, T26, T27, T28, T29, T30, T31, T32, T33, T34, T35, T37, T38, T39, T40, T42, T43, T44, T45, T46, T47, T48, T50, T52, T54, T55, T56, T57, T58, T59, T60, T61, T62, T63, T64, T65, T66, T67, T68, T69, T70, T71, T72, T73, T75, T77, T78, T79, T80, T82, T83, T84, T85, T87, T89, T90, T91, T92, T95, T97, T103, T104, T105, T106, T107, T109, T110, M_d8Long_eq, M_e8fix_eq, e0, ht, hx, hy, w1, g0, g1, g2, g3, g4, g5, g6, Iv.eta]
            repeat' (first | with_reducible refine cnd_split (fun hc => ?_) (fun hc => ?_) | with_reducible refine Reqs.mk ?_ ?_)
            all_goals first
              | trivial
              | exact endM_same rfl trivial rfl rfl (by simp) rfl
              | exact ⟨t1, by omega⟩
              | exact ⟨t2, by omega⟩
              | (unfold inR; omega)
              | simp_all
          · simp (config := { maxSteps := 4000000, implicitDefEqProofs := false }) only [F_addI_eq, F_cosAt_eq, F_d8FixI_eq, F_dirA_eq, F_dirI_eq, F_insideI_eq, F_notOk_eq, F_okI_eq, F_overI_eq, F_sinAt_eq, F_subI_eq, F_turnI_eq, WK0, WK1, WK2, WK3, WK4, WK5, WK6, WK7, WK8, WK9, WK10, WK11, WK12, WK13, WK14, WK15, WK16, WK17, WK18, WK19, WK20, WK21, WK22, WK23, WK24, WK25, WK26, WK27, WK28, look_hit, look_miss, List.map_cons, List.map_nil, Nat.add_zero, max_v, min_v, ↓cnd_t, ↓cnd_f, ↓grd_b, ↓grd_u, startEnv, Option.map_some, List.length_nil, List.length_cons, List.nil_append, List.cons_append, List.getElem?_cons_zero, List.getElem?_cons_succ, List.set_cons_zero, List.set_cons_succ, Bool.not_true, Bool.not_false, reduceIte, Nat.reduceEqDiff, Nat.reduceAdd, Nat.reduceLT, blt_lit, beq_lit, Bool.or_true, Bool.true_or, Bool.or_false, Bool.false_or, Bool.and_true, Bool.true_and, Bool.and_self, cond_true, cond_false, List.append_nil, Iv.eta, Option.map_none, idxO_l0, idxO_l1, decide_true, decide_false, reqs_true, Int.zero_sub, wrap_lit, wrapu_lit, Int.reduceLE, Int.reduceLT, Int.reduceAdd, Int.reduceSub, Int.reduceMul, Int.reduceNeg, Int.reduceEq, Option.bind_some, bin_shr_u64, bin_shl_u64, bin_shr_i64, bin_shl_i64, and_m32', Int.reduceToNat, Int.reducePow, Int.reduceMod, Int.reduceDiv, wrap_u64s, true_or, or_true, true_and, and_true, Option.isSome_none, Option.isSome_some, Nat.reduceLeDiff, Nat.reduceMul, Int.toNat_natCast, Int.cast_ofNat_Int, Int.natCast_zero, Int.natCast_one, List.isEmpty_nil, List.isEmpty_cons, List.replicate_zero, List.replicate_succ, T1, T2, T3, T4, T5, T6, T9, T10, T11, T12, T21, T22, T23, T24, T26, T27, T28, T29, T30, T31, T32, T33, T34, T35, T37, T38, T39, T40, T42, T43, T44, T45, T46, T47, T48, T50, T52, T54, T55, T56, T57, T58, T59, T60, T61, T62, T63, T64, T65, T66, T67, T68, T69, T70, T71, T72, T73, T75, T77, T78, T79, T80, T82, T83, T84, T85, T87, T89, T90, T91, T92, T95, T97, T103, T104, T105, T106, T107, T109, T110, M_d8Long_eq, M_e8fix_eq, e0, ht, hx, hy, w1, g0, g1, g2, g3, g4, g5, g6, Iv.eta]
            repeat' (first | with_reducible refine cnd_split (fun hc => ?_) (fun hc => ?_) | with_reducible refine Reqs.mk ?_ ?_)
            all_goals first
              | trivial
              | exact endM_same rfl trivial rfl rfl (by simp) rfl
              | exact ⟨t1, by omega⟩
              | exact ⟨t2, by omega⟩
              | (unfold inR; omega)
              | simp_all
  · cases hM
theorem law_FnDirections : Mn Tryz.prog 6 M_lawFnDirections := laws_FnDirections_lawFnDirections_ok

end Go.Proofs.YtcnapkdccjibpaaGreat.Eng
