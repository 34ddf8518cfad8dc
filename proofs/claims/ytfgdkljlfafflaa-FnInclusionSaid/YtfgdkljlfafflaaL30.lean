/- What functions of the program compute, and that the program computes it: part 30. -/
import Derived.Test.YtfgdkljlfafflaaTab
import Derived.Test.YtfgdkljlfafflaaEng16
import Derived.Laws.BitsLemmas
import Derived.Laws.Bits64
import Derived.Laws.Bits64b
import Derived.Lib.Mul64
import Derived.Lib.BitFns
import Derived.Laws.Externs
import Derived.Test.YtfgdkljlfafflaaL1
import Derived.Test.YtfgdkljlfafflaaL2
import Derived.Test.YtfgdkljlfafflaaL3
import Derived.Test.YtfgdkljlfafflaaL6
import Derived.Test.YtfgdkljlfafflaaL7
import Derived.Test.YtfgdkljlfafflaaL12
import Derived.Test.YtfgdkljlfafflaaL19
import Derived.Test.YtfgdkljlfafflaaL23
import Derived.Test.YtfgdkljlfafflaaL25
import Derived.Test.YtfgdkljlfafflaaL28
import Derived.Test.YtfgdkljlfafflaaL29
namespace Go.Proofs.Ytfgdkljlfafflaa.Eng
open Go Go.RowKit
set_option linter.unusedVariables false
set_option linter.unusedSimpArgs false
set_option maxRecDepth 100000
set_option maxHeartbeats 1000000
-- laws.FnInclusion
theorem laws_FnInclusion_lawFnInclusion_ok : Mn Try.prog 3 M_lawFnInclusion := by
  refine mn_of_go (O := orcM [⟨7, F_insideI, .inl spec_InsideI_insideI_ok⟩, ⟨8, F_addI, .inl impl_AddI_addI_ok⟩, ⟨9, F_subI, .inl impl_SubI_subI_ok⟩, ⟨10, F_mulI, .inl impl_MulI_mulI_ok⟩, ⟨11, F_divI, .inl impl_DivI_divI_ok⟩, ⟨12, F_sqrI, .inl impl_SqrI_sqrI_ok⟩, ⟨13, F_sqrtI, .inl impl_SqrtI_sqrtI_ok⟩, ⟨14, F_absI, .inl impl_AbsI_absI_ok⟩, ⟨15, F_minI, .inl impl_MinI_minI_ok⟩, ⟨16, F_maxI, .inl impl_MaxI_maxI_ok⟩, ⟨17, F_halfI, .inl impl_HalfI_halfI_ok⟩, ⟨18, F_hullI, .inl impl_HullI_hullI_ok⟩] [⟨5, M_a2Long, false, no_one, laws_a2Long_a2Long_ok⟩, ⟨6, M_a2, false, no_one, spec_A2Intervals_a2_ok⟩]) mixed T_ok (orcM_sound _ _) Try.func3 (by kernel_rfl) rfl Try.ntmps3 (by kernel_rfl) Try.results3 ?_
  intro m args hp pre r h' hM hpre
  unfold M_lawFnInclusion at hM
  split at hM
  · rename_i a n c
    simp only [Option.some.injEq, Prod.mk.injEq] at hM
    obtain ⟨rfl, hr, hh⟩ := hM
    subst hh hr
    refine ⟨by simp, ?_⟩
    have en : decide ((3000 : Int) < ((0 : Nat) : Int)) = false := by decide
    by_cases c0 : (3000 : Int) < (n : Int)
    · have e0 : decide ((3000 : Int) < (n : Int)) = true := by simpa using c0
      simp (config := { maxSteps := 4000000, implicitDefEqProofs := false }) only [F_absI_eq, F_addI_eq, F_divI_eq, F_halfI_eq, F_hullI_eq, F_insideI_eq, F_maxI_eq, F_minI_eq, F_mulI_eq, F_sqrI_eq, F_sqrtI_eq, F_subI_eq, WK0, WK1, WK2, WK3, WK4, WK5, WK6, WK7, WK8, WK9, WK10, WK11, WK12, WK13, WK14, WK15, WK16, WK17, WK18, WK19, WK20, WK21, WK22, WK23, WK24, WK25, look_hit, look_miss, List.map_cons, List.map_nil, Nat.add_zero, max_v, min_v, ↓cnd_t, ↓cnd_f, ↓grd_b, ↓grd_u, startEnv, Option.map_some, List.length_nil, List.length_cons, List.nil_append, List.cons_append, List.getElem?_cons_zero, List.getElem?_cons_succ, List.set_cons_zero, List.set_cons_succ, Bool.not_true, Bool.not_false, reduceIte, Nat.reduceEqDiff, Nat.reduceAdd, Nat.reduceLT, blt_lit, beq_lit, Bool.or_true, Bool.true_or, Bool.or_false, Bool.false_or, Bool.and_true, Bool.true_and, Bool.and_self, cond_true, cond_false, List.append_nil, Iv.eta, Option.map_none, idxO_l0, idxO_l1, decide_true, decide_false, reqs_true, Int.zero_sub, wrap_lit, wrapu_lit, Int.reduceLE, Int.reduceLT, Int.reduceAdd, Int.reduceSub, Int.reduceMul, Int.reduceNeg, Int.reduceEq, Option.bind_some, bin_shr_u64, bin_shl_u64, bin_shr_i64, bin_shl_i64, and_m32', Int.reduceToNat, Int.reducePow, Int.reduceMod, Int.reduceDiv, wrap_u64s, true_or, or_true, true_and, and_true, Option.isSome_none, Option.isSome_some, Nat.reduceLeDiff, Nat.reduceMul, Int.toNat_natCast, Int.cast_ofNat_Int, Int.natCast_zero, Int.natCast_one, List.isEmpty_nil, List.isEmpty_cons, List.replicate_zero, List.replicate_succ, T1, T2, T3, T4, T5, T6, T9, T10, T11, T12, T21, T22, T23, T24, T26, T27, T28, T29, T30, T31, T32, T33, T34, T36, T37, T38, T39, T41, T42, T43, T44, T45, T46, T47, T48, T49, T50, T52, T53, T54, T55, T56, T58, T59, T60, T61, T62, T63, T64, T65, T66, T67, T68, T69, T70, T71, T73, T74, T75, T77, T79, T81, T82, T83, T84, T86, T87, T88, T89, T92, T94, T100, T101, T102, T103, T104, T106, T107, M_a2Long_eq, e0, en]
      repeat' (first | with_reducible refine cnd_split (fun hc => ?_) (fun hc => ?_) | with_reducible refine Reqs.mk ?_ ?_)
      all_goals first | trivial | exact endM_same rfl trivial rfl rfl (by simp) rfl
    · have e0 : decide ((3000 : Int) < (n : Int)) = false := by simpa using c0
      have ok0 := sr0_ok (b := 0) hpre (show n ≤ 1048576 by omega) (by omega)
      have b1 := tri_in ok0
      have b2 := tri_in b1.2.2
      have hx : Part (t1 m a n).2.1 (t1 m a n).1 := b1.2.1
      have hy : Part (t2 m a n).2.1 (t2 m a n).1 := b2.2.1
      obtain ⟨A, hA⟩ : ∃ A, (t1 m a n).1 = A := ⟨_, rfl⟩
      obtain ⟨B, hB⟩ : ∃ B, (t2 m a n).1 = B := ⟨_, rfl⟩
      obtain ⟨X, hX⟩ : ∃ X, (t1 m a n).2.1 = X := ⟨_, rfl⟩
      obtain ⟨Y, hY⟩ : ∃ Y, (t2 m a n).2.1 = Y := ⟨_, rfl⟩
      rw [hX, hA] at hx
      rw [hY, hB] at hy
      have i1 := incl_add hx hy
      have i2 := incl_sub hx hy
      have i3 := incl_mul hx hy
      have i4 := incl_div hx hy
      have i5 := incl_sqr hx
      have i6 := incl_sqrt hx
      have i7 := incl_abs hx
      have i8 := incl_min hx hy
      have i9 := incl_max hx hy
      have i10 := incl_half hx
      have i11 := incl_hull hx hy
      have i12 : insideI X A = true := inside_of fun _ => ⟨hx.ox, hx.lo, hx.hi⟩
      simp (config := { maxSteps := 4000000, implicitDefEqProofs := false }) only [F_absI_eq, F_addI_eq, F_divI_eq, F_halfI_eq, F_hullI_eq, F_insideI_eq, F_maxI_eq, F_minI_eq, F_mulI_eq, F_sqrI_eq, F_sqrtI_eq, F_subI_eq, WK0, WK1, WK2, WK3, WK4, WK5, WK6, WK7, WK8, WK9, WK10, WK11, WK12, WK13, WK14, WK15, WK16, WK17, WK18, WK19, WK20, WK21, WK22, WK23, WK24, WK25, look_hit, look_miss, List.map_cons, List.map_nil, Nat.add_zero, max_v, min_v, ↓cnd_t, ↓cnd_f, ↓grd_b, ↓grd_u, startEnv, Option.map_some, List.length_nil, List.length_cons, List.nil_append, List.cons_append, List.getElem?_cons_zero, List.getElem?_cons_succ, List.set_cons_zero, List.set_cons_succ, Bool.not_true, Bool.not_false, reduceIte, Nat.reduceEqDiff, Nat.reduceAdd, Nat.reduceLT, blt_lit, beq_lit, Bool.or_true, Bool.true_or, Bool.or_false, Bool.false_or, Bool.and_true, Bool.true_and, Bool.and_self, cond_true, cond_false, List.append_nil, Iv.eta, Option.map_none, idxO_l0, idxO_l1, decide_true, decide_false, reqs_true, Int.zero_sub, wrap_lit, wrapu_lit, Int.reduceLE, Int.reduceLT, Int.reduceAdd, Int.reduceSub, Int.reduceMul, Int.reduceNeg, Int.reduceEq, Option.bind_some, bin_shr_u64, bin_shl_u64, bin_shr_i64, bin_shl_i64, and_m32', Int.reduceToNat, Int.reducePow, Int.reduceMod, Int.reduceDiv, wrap_u64s, true_or, or_true, true_and, and_true, Option.isSome_none, Option.isSome_some, Nat.reduceLeDiff, Nat.reduceMul, Int.toNat_natCast, Int.cast_ofNat_Int, Int.natCast_zero, Int.natCast_one, List.isEmpty_nil, List.isEmpty_cons, List.replicate_zero, List.replicate_succ, T1, T2, T3, T4, T5, T6, T9, T10, T11, T12, T21, T22, T23, T24, T26, T27, T28, T29, T30, T31, T32, T33, T34, T36, T37, T38, T39, T41, T42, T43, T44, T45, T46, T47, T48, T49, T50, T52, T53, T54, T55, T56, T58, T59, T60, T61, T62, T63, T64, T65, T66, T67, T68, T69, T70, T71, T73, T74, T75, T77, T79, T81, T82, T83, T84, T86, T87, T88, T89, T92, T94, T100, T101, T102, T103, T104, T106, T107, M_a2Long_eq, e0, en, M_a2_eq, c6, hA, hB, hX, hY, loadC_60, loadC_62, loadC_64, i1, i2, i3, i4, i5, i6, i7, i8, i9, i10, i11, i12, Iv.eta, lapp_n, lapp_c]
      repeat' (first | with_reducible refine cnd_split (fun hc => ?_) (fun hc => ?_) | with_reducible refine Reqs.mk ?_ ?_)
      all_goals first
        | trivial
        | exact endM_same rfl trivial rfl rfl (by simp) rfl
        | exact ⟨hpre, by omega⟩
  · cases hM
theorem law_FnInclusion : Mn Try.prog 3 M_lawFnInclusion := laws_FnInclusion_lawFnInclusion_ok

end Go.Proofs.Ytfgdkljlfafflaa.Eng
