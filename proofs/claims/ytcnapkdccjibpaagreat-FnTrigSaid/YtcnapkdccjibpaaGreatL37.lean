/- What functions of the program compute, and that the program computes it: part 37. -/
import Derived.Test.YtcnapkdccjibpaaGreatTab
import Derived.Test.YtcnapkdccjibpaaGreatEng16
import Derived.Laws.BitsLemmas
import Derived.Laws.Bits64
import Derived.Laws.Bits64b
import Derived.Lib.Mul64
import Derived.Lib.BitFns
import Derived.Laws.Externs
import Derived.Test.YtcnapkdccjibpaaGreatL1
import Derived.Test.YtcnapkdccjibpaaGreatL2
import Derived.Test.YtcnapkdccjibpaaGreatL3
import Derived.Test.YtcnapkdccjibpaaGreatL6
import Derived.Test.YtcnapkdccjibpaaGreatL8
import Derived.Test.YtcnapkdccjibpaaGreatL12
import Derived.Test.YtcnapkdccjibpaaGreatL19
import Derived.Test.YtcnapkdccjibpaaGreatL24
import Derived.Test.YtcnapkdccjibpaaGreatL25
import Derived.Test.YtcnapkdccjibpaaGreatL26
import Derived.Test.YtcnapkdccjibpaaGreatL29
import Derived.Test.YtcnapkdccjibpaaGreatL31
import Derived.Test.YtcnapkdccjibpaaGreatL32
import Derived.Test.YtcnapkdccjibpaaGreatL34
import Derived.Test.YtcnapkdccjibpaaGreatL35
import Derived.Test.YtcnapkdccjibpaaGreatL36
namespace Go.Proofs.YtcnapkdccjibpaaGreat.Eng
open Go Go.RowKit
set_option linter.unusedVariables false
set_option linter.unusedSimpArgs false
set_option maxRecDepth 100000
set_option maxHeartbeats 1000000
-- laws.FnTrig
theorem laws_FnTrig_lawFnTrig_ok : Mn Tryz.prog 3 M_lawFnTrig := by
  refine mn_of_go (O := orcM [⟨8, F_sinAt, .inl impl_SinAt_sinAt_ok⟩, ⟨9, F_cosAt, .inl impl_CosAt_cosAt_ok⟩, ⟨10, F_addI, .inl spec_AddI_addI_ok⟩, ⟨11, F_sqrI, .inl spec_SqrI_sqrI_ok⟩, ⟨12, F_okI, .inl spec_ValidInterval_okI_ok⟩, ⟨13, F_hasI, .inl spec_HasI_hasI_ok⟩, ⟨14, F_widthI, .inl spec_WidthI_widthI_ok⟩, ⟨15, F_sinI, .inl impl_SinI_sinI_ok⟩, ⟨16, F_cosI, .inl impl_CosI_cosI_ok⟩, ⟨17, F_insideI, .inl spec_InsideI_insideI_ok⟩, ⟨18, F_overI, .inl spec_OverlapI_overI_ok⟩, ⟨19, F_tanI, .inl impl_TanI_tanI_ok⟩, ⟨20, F_divI, .inl spec_DivI_divI_ok⟩] [⟨7, M_angles, false, no_one, spec_E8Angles_angles_ok⟩]) mixed T_ok (orcM_sound _ _) Tryz.func3 (by kernel_rfl) rfl Tryz.ntmps3 (by kernel_rfl) Tryz.results3 ?_
  intro m args hp pre r h' hM hpre
  unfold M_lawFnTrig at hM
  split at hM
  · rename_i a n c
    simp only [Option.some.injEq, Prod.mk.injEq] at hM
    obtain ⟨rfl, hr, hh⟩ := hM
    subst hh hr
    refine ⟨by simp, ?_⟩
    by_cases c0 : (1048576 : Int) < (n : Int)
    · have e0 : decide ((1048576 : Int) < (n : Int)) = true := by simpa using c0
      simp (config := { maxSteps := 4000000, implicitDefEqProofs := false }) only [F_addI_eq, F_cosAt_eq, F_cosI_eq, F_divI_eq, F_hasI_eq, F_insideI_eq, F_okI_eq, F_overI_eq, F_sinAt_eq, F_sinI_eq, F_sqrI_eq, F_tanI_eq, F_widthI_eq, WK0, WK1, WK2, WK3, WK4, WK5, WK6, WK7, WK8, WK9, WK10, WK11, WK12, WK13, WK14, WK15, WK16, WK17, WK18, WK19, WK20, WK21, WK22, WK23, WK24, WK25, WK26, WK27, WK28, look_hit, look_miss, List.map_cons, List.map_nil, Nat.add_zero, max_v, min_v, ↓cnd_t, ↓cnd_f, ↓grd_b, ↓grd_u, startEnv, Option.map_some, List.length_nil, List.length_cons, List.nil_append, List.cons_append, List.getElem?_cons_zero, List.getElem?_cons_succ, List.set_cons_zero, List.set_cons_succ, Bool.not_true, Bool.not_false, reduceIte, Nat.reduceEqDiff, Nat.reduceAdd, Nat.reduceLT, blt_lit, beq_lit, Bool.or_true, Bool.true_or, Bool.or_false, Bool.false_or, Bool.and_true, Bool.true_and, Bool.and_self, cond_true, cond_false, List.append_nil, Iv.eta, Option.map_none, idxO_l0, idxO_l1, decide_true, decide_false, reqs_true, Int.zero_sub, wrap_lit, wrapu_lit, Int.reduceLE, Int.reduceLT, Int.reduceAdd, Int.reduceSub, Int.reduceMul, Int.reduceNeg, Int.reduceEq, Option.bind_some, bin_shr_u64, bin_shl_u64, bin_shr_i64, bin_shl_i64, and_m32', Int.reduceToNat, Int.reducePow, Int.reduceMod, Int.reduceDiv, wrap_u64s, true_or, or_true, true_and, and_true, Option.isSome_none, Option.isSome_some, Nat.reduceLeDiff, Nat.reduceMul, Int.toNat_natCast, Int.cast_ofNat_Int, Int.natCast_zero, Int.natCast_one, List.isEmpty_nil, List.isEmpty_cons, List.replicate_zero, List.replicate_succ, T1, T2, T3, T4, T5, T6, T9, T10, T11, T12, T21, T22, T23, T24, T26, T27, T28, T29, T30, T31, T32, T33, T34, T35, T37, T38, T39, T40, T42, T43, T44, T45, T46, T47, T48, T50, T52, T54, T55, T56, T57, T58, T59, T60, T61, T62, T63, T64, T65, T66, T67, T68, T69, T70, T71, T72, T73, T75, T77, T78, T79, T80, T82, T83, T84, T85, T87, T89, T90, T91, T92, T95, T97, T103, T104, T105, T106, T107, T109, T110, e0]
      repeat' (first | with_reducible refine cnd_split (fun hc => ?_) (fun hc => ?_) | with_reducible refine Reqs.mk ?_ ?_)
      all_goals first | trivial | exact endM_same rfl trivial rfl rfl (by simp) rfl
    · have e0 : decide ((1048576 : Int) < (n : Int)) = false := by simpa using c0
      have b1 := angN_in (sr0_ok (b := 0) hpre (show n ≤ 1048576 by omega) (by omega))
      have b2 := angW_in (m := m) (a := a) (n := n)
      have b3 := angM_in (m := m) (a := a) (n := n)
      obtain ⟨x, hx⟩ : ∃ x, (angN m a n).1 = x := ⟨_, rfl⟩
      obtain ⟨w, hw⟩ : ∃ w, angW m a n = w := ⟨_, rfl⟩
      obtain ⟨y, hy⟩ : ∃ y, angM m a n = y := ⟨_, rfl⟩
      rw [hx] at b1
      rw [hw] at b2
      rw [hx, hw, hy] at b3
      have ox : angleOk x = true := angle_of (by omega)
      have oy : angleOk y = true := angle_of (by omega)
      have oz : angleOk (x + w) = true := angle_of (by omega)
      have oi : okI ⟨x, x + w⟩ = true := by rw [okI_mk]; omega
      have f1 : okI (circ y 0) = true := (circ_inR y 0).1
      have f2 : okI (circ y 1) = true := (circ_inR y 1).1
      have f3 := one_wid oy
      have f4 := one_has oy
      unfold oneOf at f3 f4
      have f5 : decide (4096 < widthI (addI (sqrI (circ y 0)) (sqrI (circ y 1)))) = false := by
        have : widthI (addI (sqrI (circ y 0)) (sqrI (circ y 1))) = (addI (sqrI (circ y 0)) (sqrI (circ y 1))).hi - (addI (sqrI (circ y 0)) (sqrI (circ y 1))).lo := by unfold widthI; rw [if_pos f3.1]
        rw [this]; simp only [decide_eq_false_iff_not]; omega
      have f6 : insideI (hullC ⟨x, x + w⟩ 0) ⟨-4294967296, 4294967296⟩ = true := inR_inside (hullC_in _ _)
      have f7 : insideI (hullC ⟨x, x + w⟩ 1) ⟨-4294967296, 4294967296⟩ = true := inR_inside (hullC_in _ _)
      have f8 := hullC_over ox oy oz b3.1 b3.2 oi 0
      have f9 := hullC_over ox oy oz b3.1 b3.2 oi 1
      have f10 := tan_over ox oy oz b3.1 b3.2 oi
      have f11 : okI (addI (sqrI (circ y 0)) (sqrI (circ y 1))) = true := f3.1
      simp (config := { maxSteps := 4000000, implicitDefEqProofs := false }) only [F_addI_eq, F_cosAt_eq, F_cosI_eq, F_divI_eq, F_hasI_eq, F_insideI_eq, F_okI_eq, F_overI_eq, F_sinAt_eq, F_sinI_eq, F_sqrI_eq, F_tanI_eq, F_widthI_eq, WK0, WK1, WK2, WK3, WK4, WK5, WK6, WK7, WK8, WK9, WK10, WK11, WK12, WK13, WK14, WK15, WK16, WK17, WK18, WK19, WK20, WK21, WK22, WK23, WK24, WK25, WK26, WK27, WK28, look_hit, look_miss, List.map_cons, List.map_nil, Nat.add_zero, max_v, min_v, ↓cnd_t, ↓cnd_f, ↓grd_b, ↓grd_u, startEnv, Option.map_some, List.length_nil, List.length_cons, List.nil_append, List.cons_append, List.getElem?_cons_zero, List.getElem?_cons_succ, List.set_cons_zero, List.set_cons_succ, Bool.not_true, Bool.not_false, reduceIte, Nat.reduceEqDiff, Nat.reduceAdd, Nat.reduceLT, blt_lit, beq_lit, Bool.or_true, Bool.true_or, Bool.or_false, Bool.false_or, Bool.and_true, Bool.true_and, Bool.and_self, cond_true, cond_false, List.append_nil, Iv.eta, Option.map_none, idxO_l0, idxO_l1, decide_true, decide_false, reqs_true, Int.zero_sub, wrap_lit, wrapu_lit, Int.reduceLE, Int.reduceLT, Int.reduceAdd, Int.reduceSub, Int.reduceMul, Int.reduceNeg, Int.reduceEq, Option.bind_some, bin_shr_u64, bin_shl_u64, bin_shr_i64, bin_shl_i64, and_m32', Int.reduceToNat, Int.reducePow, Int.reduceMod, Int.reduceDiv, wrap_u64s, true_or, or_true, true_and, and_true, Option.isSome_none, Option.isSome_some, Nat.reduceLeDiff, Nat.reduceMul, Int.toNat_natCast, Int.cast_ofNat_Int, Int.natCast_zero, Int.natCast_one, List.isEmpty_nil, List.isEmpty_cons, List.replicate_zero, List.replicate_succ, T1, T2, T3, T4, T5, T6, T9, T10, T11, T12, T21, T22, T23, T24, T26, T27, T28, T29, T30, T31, T32, T33, T34, T35, T37, T38, T39, T40, T42, T43, T44, T45, T46, T47, T48, T50, T52, T54, T55, T56, T57, T58, T59, T60, T61, T62, T63, T64, T65, T66, T67, T68, T69, T70, T71, T72, T73, T75, T77, T78, T79, T80, T82, T83, T84, T85, T87, T89, T90, T91, T92, T95, T97, T103, T104, T105, T106, T107, T109, T110, M_angles_eq, e0, hx, hy, hw, f1, f2, f4, f5, f6, f7, f8, f9, f10, f11, Iv.eta]
      repeat' (first | with_reducible refine cnd_split (fun hc => ?_) (fun hc => ?_) | with_reducible refine Reqs.mk ?_ ?_)
      all_goals first
        | trivial
        | exact endM_same rfl trivial rfl rfl (by simp) rfl
        | exact ⟨hpre, by omega⟩
  · cases hM
theorem law_FnTrig : Mn Tryz.prog 3 M_lawFnTrig := laws_FnTrig_lawFnTrig_ok

end Go.Proofs.YtcnapkdccjibpaaGreat.Eng
