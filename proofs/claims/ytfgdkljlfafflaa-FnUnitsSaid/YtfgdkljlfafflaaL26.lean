/- What functions of the program compute, and that the program computes it: part 26. -/
import Derived.Test.YtfgdkljlfafflaaTab
import Derived.Test.YtfgdkljlfafflaaEng16
import Derived.Laws.BitsLemmas
import Derived.Laws.Bits64
import Derived.Laws.Bits64b
import Derived.Lib.Mul64
import Derived.Lib.BitFns
import Derived.Laws.Externs
import Derived.Test.YtfgdkljlfafflaaL1
import Derived.Test.YtfgdkljlfafflaaL2
import Derived.Test.YtfgdkljlfafflaaL3
import Derived.Test.YtfgdkljlfafflaaL12
import Derived.Test.YtfgdkljlfafflaaL13
import Derived.Test.YtfgdkljlfafflaaL21
import Derived.Test.YtfgdkljlfafflaaL22
import Derived.Test.YtfgdkljlfafflaaL23
import Derived.Test.YtfgdkljlfafflaaL25
namespace Go.Proofs.Ytfgdkljlfafflaa.Eng
open Go Go.RowKit
set_option linter.unusedVariables false
set_option linter.unusedSimpArgs false
set_option maxRecDepth 100000
set_option maxHeartbeats 1000000
-- laws.FnUnits
theorem laws_FnUnits_lawFnUnits_ok : Mn Try.prog 4 M_lawFnUnits := by
  refine mn_of_go (O := orcM [⟨21, F_radI, .inl impl_RadiansOf_radI_ok⟩, ⟨22, F_unitsOf, .inl impl_UnitsOf_unitsOf_ok⟩, ⟨23, F_okI, .inl spec_ValidInterval_okI_ok⟩, ⟨24, F_widthI, .inl spec_WidthI_widthI_ok⟩, ⟨25, F_overI, .inl spec_OverlapI_overI_ok⟩, ⟨26, F_addI, .inl spec_AddI_addI_ok⟩, ⟨27, F_degI, .inl impl_DegreesOf_degI_ok⟩, ⟨28, F_quotI, .inl spec_Quotient_quotI_ok⟩] [⟨19, M_d8Long, laws_d8Long_d8Long_ok⟩, ⟨20, M_e8fix, spec_E8Fix_e8fix_ok⟩]) mixed T_ok (orcM_sound _ _) Try.func4 (by kernel_rfl) rfl Try.ntmps4 (by kernel_rfl) Try.results4 ?_
  intro m args hp pre r h' hM hpre
  unfold M_lawFnUnits at hM
  split at hM
  · rename_i a n c a' n' c'
    simp only [Option.some.injEq, Prod.mk.injEq] at hM
    obtain ⟨rfl, hr, hh⟩ := hM
    subst hh hr
    obtain ⟨t1, t2⟩ := hpre
    refine ⟨by simp, ?_⟩
    by_cases c0 : (decide (1048576 < (n : Int)) || decide (1048576 < (n' : Int))) = true
    · simp (config := { maxSteps := 4000000, implicitDefEqProofs := false }) only [F_addI_eq, F_degI_eq, F_okI_eq, F_overI_eq, F_quotI_eq, F_radI_eq, F_unitsOf_eq, F_widthI_eq, WK0, WK1, WK2, WK3, WK4, WK5, WK6, WK7, WK8, WK9, WK10, WK11, WK12, WK13, WK14, WK15, WK16, WK17, WK18, WK19, WK20, WK21, WK22, WK23, WK24, WK25, look_hit, look_miss, List.map_cons, List.map_nil, Nat.add_zero, max_v, min_v, ↓cnd_t, ↓cnd_f, ↓grd_b, ↓grd_u, startEnv, Option.map_some, List.length_nil, List.length_cons, List.nil_append, List.cons_append, List.getElem?_cons_zero, List.getElem?_cons_succ, List.set_cons_zero, List.set_cons_succ, Bool.not_true, Bool.not_false, reduceIte, Nat.reduceEqDiff, Nat.reduceAdd, Nat.reduceLT, blt_lit, beq_lit, Bool.or_true, Bool.true_or, Bool.or_false, Bool.false_or, Bool.and_true, Bool.true_and, Bool.and_self, cond_true, cond_false, List.append_nil, Iv.eta, Option.map_none, idxO_l0, idxO_l1, decide_true, decide_false, reqs_true, Int.zero_sub, wrap_lit, wrapu_lit, Int.reduceLE, Int.reduceLT, Int.reduceAdd, Int.reduceSub, Int.reduceMul, Int.reduceNeg, Int.reduceEq, Option.bind_some, bin_shr_u64, bin_shl_u64, bin_shr_i64, bin_shl_i64, and_m32', Int.reduceToNat, Int.reducePow, Int.reduceMod, Int.reduceDiv, wrap_u64s, true_or, or_true, true_and, and_true, Option.isSome_none, Option.isSome_some, Nat.reduceLeDiff, Nat.reduceMul, Int.toNat_natCast, Int.cast_ofNat_Int, Int.natCast_zero, Int.natCast_one, List.isEmpty_nil, List.isEmpty_cons, List.replicate_zero, List.replicate_succ, T1, T2, T3, T4, T5, T6, T9, T10, T11, T12, T21, T22, T23, T24, T26, T27, T28, T29, T30, T31, T32, T33, T34, T36, T37, T38, T39, T41, T42, T43, T44, T45, T46, T47, T48, T49, T50, T52, T53, T54, T55, T56, T58, T59, T60, T61, T62, T63, T64, T65, T66, T67, T68, T69, T70, T71, T73, T74, T75, T77, T79, T81, T82, T83, T84, T86, T87, T88, T89, T92, T94, T100, T101, T102, T103, T104, T106, T107, M_d8Long_eq, c0]
      repeat' (first | with_reducible refine cnd_split (fun hc => ?_) (fun hc => ?_) | with_reducible refine Reqs.mk ?_ ?_)
      all_goals first | trivial | exact endM_same rfl trivial rfl rfl (by simp) rfl
    · have e0 : (decide (1048576 < (n : Int)) || decide (1048576 < (n' : Int))) = false := by simpa using c0
      simp only [Bool.or_eq_true, decide_eq_true_eq, not_or] at c0
      have b1 := e8fix_in (most := 18000000000) t1 (by omega) (by omega)
      have b2 := e8fix_in (most := 18000000000) t2 (by omega) (by omega)
      obtain ⟨x, hx⟩ : ∃ x, e8fix m a n 18000000000 = x := ⟨_, rfl⟩
      obtain ⟨y, hy⟩ : ∃ y, e8fix m a' n' 18000000000 = y := ⟨_, rfl⟩
      rw [hx] at b1
      rw [hy] at b2
      obtain ⟨o1, o2, o3, lo, hi, hu, u1, u2, u3, u4, u5⟩ := units_law b1
      have d1 : decide (2 < widthI (radI x)) = false := by simp only [decide_eq_false_iff_not]; omega
      have d2 : decide (x < lo) = false := by simp only [decide_eq_false_iff_not]; omega
      have d3 : decide (hi < x) = false := by simp only [decide_eq_false_iff_not]; omega
      have w1 : IntKind.i64.wrap (hi - lo) = hi - lo := wrap_om (by omega) (by omega)
      have d4 : decide (2 < hi - lo) = false := by simp only [decide_eq_false_iff_not]; omega
      have w2 : IntKind.i64.wrap (x + y) = x + y := wrap_om (by omega) (by omega)
      have p1 := rad_sum x y
      have p2 := deg_over x
      simp (config := { maxSteps := 4000000, implicitDefEqProofs := false }) only [F_addI_eq, F_degI_eq, F_okI_eq, F_overI_eq, F_quotI_eq, F_radI_eq, F_unitsOf_eq, F_widthI_eq, WK0, WK1, WK2, WK3, WK4, WK5, WK6, WK7, WK8, WK9, WK10, WK11, WK12, WK13, WK14, WK15, WK16, WK17, WK18, WK19, WK20, WK21, WK22, WK23, WK24, WK25, look_hit, look_miss, List.map_cons, List.map_nil, Nat.add_zero, max_v, min_v, ↓cnd_t, ↓cnd_f, ↓grd_b, ↓grd_u, startEnv, Option.map_some, List.length_nil, List.length_cons, List.nil_append, List.cons_append, List.getElem?_cons_zero, List.getElem?_cons_succ, List.set_cons_zero, List.set_cons_succ, Bool.not_true, Bool.not_false, reduceIte, Nat.reduceEqDiff, Nat.reduceAdd, Nat.reduceLT, blt_lit, beq_lit, Bool.or_true, Bool.true_or, Bool.or_false, Bool.false_or, Bool.and_true, Bool.true_and, Bool.and_self, cond_true, cond_false, List.append_nil, Iv.eta, Option.map_none, idxO_l0, idxO_l1, decide_true, decide_false, reqs_true, Int.zero_sub, wrap_lit, wrapu_lit, Int.reduceLE, Int.reduceLT, Int.reduceAdd, Int.reduceSub, Int.reduceMul, Int.reduceNeg, Int.reduceEq, Option.bind_some, bin_shr_u64, bin_shl_u64, bin_shr_i64, bin_shl_i64, and_m32', Int.reduceToNat, Int.reducePow, Int.reduceMod, Int.reduceDiv, wrap_u64s, true_or, or_true, true_and, and_true, Option.isSome_none, Option.isSome_some, Nat.reduceLeDiff, Nat.reduceMul, Int.toNat_natCast, Int.cast_ofNat_Int, Int.natCast_zero, Int.natCast_one, List.isEmpty_nil, List.isEmpty_cons, List.replicate_zero, List.replicate_succ, T1, T2, T3, T4, T5, T6, T9, T10, T11, T12, T21, T22, T23, T24, T26, T27, T28, T29, T30, T31, T32, T33, T34, T36, T37, T38, T39, T41, T42, T43, T44, T45, T46, T47, T48, T49, T50, T52, T53, T54, T55, T56, T58, T59, T60, T61, T62, T63, T64, T65, T66, T67, T68, T69, T70, T71, T73, T74, T75, T77, T79, T81, T82, T83, T84, T86, T87, T88, T89, T92, T94, T100, T101, T102, T103, T104, T106, T107, M_d8Long_eq, M_e8fix_eq, e0, hx, hy, o1, hu, d1, d2, d3, d4, w1, w2, p1, p2, Iv.eta]
      repeat' (first | with_reducible refine cnd_split (fun hc => ?_) (fun hc => ?_) | with_reducible refine Reqs.mk ?_ ?_)
      all_goals first
        | trivial
        | exact endM_same rfl trivial rfl rfl (by simp) rfl
        | exact ⟨t1, by omega⟩
        | exact ⟨t2, by omega⟩
        | (unfold inR; omega)
  · cases hM
theorem law_FnUnits : Mn Try.prog 4 M_lawFnUnits := laws_FnUnits_lawFnUnits_ok

end Go.Proofs.Ytfgdkljlfafflaa.Eng
