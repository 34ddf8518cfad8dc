/- What functions of the program compute, and that the program computes it: part 35. -/
import Derived.Test.YtcnapkdccjibpaaGreatDoorTab
import Derived.Test.YtcnapkdccjibpaaGreatDoorEng16
import Derived.Laws.BitsLemmas
import Derived.Laws.Bits64
import Derived.Laws.Bits64b
import Derived.Lib.Mul64
import Derived.Lib.BitFns
import Derived.Laws.Externs
import Derived.Test.YtcnapkdccjibpaaGreatDoorL1
import Derived.Test.YtcnapkdccjibpaaGreatDoorL2
import Derived.Test.YtcnapkdccjibpaaGreatDoorL3
import Derived.Test.YtcnapkdccjibpaaGreatDoorL5
import Derived.Test.YtcnapkdccjibpaaGreatDoorL6
import Derived.Test.YtcnapkdccjibpaaGreatDoorL10
import Derived.Test.YtcnapkdccjibpaaGreatDoorL12
import Derived.Test.YtcnapkdccjibpaaGreatDoorL17
import Derived.Test.YtcnapkdccjibpaaGreatDoorL19
import Derived.Test.YtcnapkdccjibpaaGreatDoorL21
import Derived.Test.YtcnapkdccjibpaaGreatDoorL23
import Derived.Test.YtcnapkdccjibpaaGreatDoorL24
import Derived.Test.YtcnapkdccjibpaaGreatDoorL26
import Derived.Test.YtcnapkdccjibpaaGreatDoorL29
import Derived.Test.YtcnapkdccjibpaaGreatDoorL30
import Derived.Test.YtcnapkdccjibpaaGreatDoorL32
import Derived.Test.YtcnapkdccjibpaaGreatDoorL33
import Derived.Test.YtcnapkdccjibpaaGreatDoorL34
namespace Go.Proofs.YtcnapkdccjibpaaGreatDoor.Eng
open Go Go.RowKit
set_option linter.unusedVariables false
set_option linter.unusedSimpArgs false
set_option maxRecDepth 100000
set_option maxHeartbeats 1000000
-- laws.FnIntervals
theorem laws_FnIntervals_lawFnIntervals_ok : Mn Tryz.prog 4 M_lawFnIntervals := by
  refine mn_of_go (O := orcM [⟨6, F_readIv, .inl impl_ReadInterval_readIv_ok⟩, ⟨10, F_hasI, .inl impl_HasI_hasI_ok⟩, ⟨11, F_subI, .inl impl_SubI_subI_ok⟩, ⟨12, F_overI, .inl impl_OverlapI_overI_ok⟩, ⟨13, F_mulI, .inl impl_MulI_mulI_ok⟩, ⟨14, F_divI, .inl impl_DivI_divI_ok⟩, ⟨15, F_sqrtI, .inl impl_SqrtI_sqrtI_ok⟩, ⟨16, F_sqrI, .inl impl_SqrI_sqrI_ok⟩, ⟨17, F_absI, .inl impl_AbsI_absI_ok⟩, ⟨18, F_addI, .inl impl_AddI_addI_ok⟩, ⟨19, F_notOk, .inl spec_IsWhole_notOk_ok⟩, ⟨20, F_insideI, .inl spec_InsideI_insideI_ok⟩, ⟨21, F_ivText, .inl impl_IntervalText_ivText_ok⟩, ⟨22, F_negI, .inl impl_NegI_negI_ok⟩, ⟨23, F_dblI, .inl impl_DoubleI_dblI_ok⟩, ⟨24, F_halfI, .inl impl_HalfI_halfI_ok⟩, ⟨25, F_dblI, .inl spec_DoubleI_dblI_ok⟩, ⟨26, F_halfI, .inl spec_HalfI_halfI_ok⟩, ⟨27, F_meetI, .inl impl_MeetI_meetI_ok⟩, ⟨28, F_hullI, .inl impl_HullI_hullI_ok⟩, ⟨29, F_lessI, .inl impl_LessI_lessI_ok⟩, ⟨30, F_midI, .inl impl_MidI_midI_ok⟩, ⟨31, F_widthI, .inl impl_WidthI_widthI_ok⟩] [⟨8, M_a2Long, false, no_one, laws_a2Long_a2Long_ok⟩, ⟨9, M_a2, false, no_one, spec_A2Intervals_a2_ok⟩]) mixed T_ok (orcM_sound _ _) Tryz.func4 (by kernel_rfl) rfl Tryz.ntmps4 (by kernel_rfl) Tryz.results4 ?_
  intro m args hp pre r h' hM hpre
  unfold M_lawFnIntervals at hM
  split at hM
  · rename_i a n c
    simp only [Option.some.injEq, Prod.mk.injEq] at hM
    obtain ⟨rfl, hr, hh⟩ := hM
    subst hh hr
    refine ⟨by simp, ?_⟩
    have en : decide ((3000 : Int) < ((0 : Nat) : Int)) = false := by decide
    by_cases c0 : (3000 : Int) < (n : Int)
    · have e0 : decide ((3000 : Int) < (n : Int)) = true := by simpa using c0
      simp (config := { maxSteps := 4000000, implicitDefEqProofs := false }) only [F_absI_eq, F_addI_eq, F_dblI_eq, F_divI_eq, F_halfI_eq, F_hasI_eq, F_hullI_eq, F_insideI_eq, F_ivText_eq, F_lessI_eq, F_meetI_eq, F_midI_eq, F_mulI_eq, F_negI_eq, F_notOk_eq, F_overI_eq, F_readIv_eq, F_sqrI_eq, F_sqrtI_eq, F_subI_eq, F_widthI_eq, WK0, WK1, WK2, WK3, WK4, WK5, WK6, WK7, WK8, WK9, WK10, WK11, WK12, WK13, WK14, WK15, WK16, WK17, WK18, WK19, WK20, WK21, WK22, WK23, WK24, WK25, WK26, WK27, WK28, WK29, WK30, look_hit, look_miss, List.map_cons, List.map_nil, Nat.add_zero, max_v, min_v, ↓cnd_t, ↓cnd_f, ↓grd_b, ↓grd_u, startEnv, Option.map_some, List.length_nil, List.length_cons, List.nil_append, List.cons_append, List.getElem?_cons_zero, List.getElem?_cons_succ, List.set_cons_zero, List.set_cons_succ, Bool.not_true, Bool.not_false, reduceIte, Nat.reduceEqDiff, Nat.reduceAdd, Nat.reduceLT, blt_lit, beq_lit, Bool.or_true, Bool.true_or, Bool.or_false, Bool.false_or, Bool.and_true, Bool.true_and, Bool.and_self, cond_true, cond_false, List.append_nil, Iv.eta, Option.map_none, idxO_l0, idxO_l1, decide_true, decide_false, reqs_true, Int.zero_sub, wrap_lit, wrapu_lit, Int.reduceLE, Int.reduceLT, Int.reduceAdd, Int.reduceSub, Int.reduceMul, Int.reduceNeg, Int.reduceEq, Option.bind_some, bin_shr_u64, bin_shl_u64, bin_shr_i64, bin_shl_i64, and_m32', Int.reduceToNat, Int.reducePow, Int.reduceMod, Int.reduceDiv, wrap_u64s, true_or, or_true, true_and, and_true, Option.isSome_none, Option.isSome_some, Nat.reduceLeDiff, Nat.reduceMul, Int.toNat_natCast, Int.cast_ofNat_Int, Int.natCast_zero, Int.natCast_one, List.isEmpty_nil, List.isEmpty_cons, List.replicate_zero, List.replicate_succ, T1, T2, T3, T4, T5, T6, T9, T10, T11, T12, T21, T22, T23, T25, T26, T27, T28, T29, T30, T32, T33, T34, T35, T36, T37, T38, T39, T40, T41, T42, T43, T44, T46, T48, T50, T52, T53, T54, T55, T56, T57, T58, T59, T61, T62, T63, T64, T65, T66, T67, T68, T69, T70, T71, T72, T73, T74, T75, T76, T77, T78, T79, T80, T81, T82, T83, T84, T85, T87, T89, T91, T92, T93, T95, T96, T97, T98, T102, T103, T105, T107, T108, T109, T110, T112, T116, T120, T121, T122, T123, T124, T125, T126, T128, T130, T131, T132, T134, T135, T136, T137, T138, T140, T142, T143, T145, T146, T148, T149, T150, T152, T153, T154, T155, T156, T163, T164, T165, T166, T167, M_a2Long_eq, e0, en]
      repeat' (first | with_reducible refine cnd_split (fun hc => ?_) (fun hc => ?_) | with_reducible refine Reqs.mk ?_ ?_)
      all_goals first | trivial | exact endM_same rfl trivial rfl rfl (by simp) rfl
    · have e0 : decide ((3000 : Int) < (n : Int)) = false := by simpa using c0
      have ok0 := sr0_ok (b := 0) hpre (show n ≤ 1048576 by omega) (by omega)
      have b1 := tri_in ok0
      have b2 := tri_in b1.2.2
      have b3 := tri_in b2.2.2
      have gA : goodI (t1 m a n).1 = true := b1.1
      have gB : goodI (t2 m a n).1 = true := b2.1
      have gC : goodI (t3 m a n).1 = true := b3.1
      obtain ⟨A, hA⟩ : ∃ A, (t1 m a n).1 = A := ⟨_, rfl⟩
      obtain ⟨B, hB⟩ : ∃ B, (t2 m a n).1 = B := ⟨_, rfl⟩
      obtain ⟨C, hC⟩ : ∃ C, (t3 m a n).1 = C := ⟨_, rfl⟩
      rw [hA] at gA
      rw [hB] at gB
      rw [hC] at gC
      have oA := (goodI_iff.1 gA).1
      have oB := (goodI_iff.1 gB).1
      have gA' := goodI_iff.1 gA
      have lA := okI_iff.1 oA
      have f1 := iv_sub oA
      have f2 := iv_div oA oB
      have f3 := @iv_root A
      obtain ⟨⟨x1, x2⟩, f4, f5⟩ := @read_text A gA'.2.1 lA.2.1 gA'.2.2
      have f6 := iv_neg oA
      have f7 := iv_half oA
      have f8 := iv_hull oA oB
      have f9 := iv_mid oA
      have f10 := iv_width oA
      have w1 : IntKind.i64.wrap (A.hi - A.lo) = A.hi - A.lo := wrap_om (by omega) (by omega)
      have f11 := @iv_dist A B C
      have f12 := @iv_meet A B oA oB
      have m0 : ((meetI A B).snd == (meetI A B).snd) = true := beq_self_eq_true _
      have f13 := iv_less1 oA oB
      have f14 := @iv_less2 A B oA oB
      simp (config := { maxSteps := 4000000, implicitDefEqProofs := false }) only [F_absI_eq, F_addI_eq, F_dblI_eq, F_divI_eq, F_halfI_eq, F_hasI_eq, F_hullI_eq, F_insideI_eq, F_ivText_eq, F_lessI_eq, F_meetI_eq, F_midI_eq, F_mulI_eq, F_negI_eq, F_notOk_eq, F_overI_eq, F_readIv_eq, F_sqrI_eq, F_sqrtI_eq, F_subI_eq, F_widthI_eq, WK0, WK1, WK2, WK3, WK4, WK5, WK6, WK7, WK8, WK9, WK10, WK11, WK12, WK13, WK14, WK15, WK16, WK17, WK18, WK19, WK20, WK21, WK22, WK23, WK24, WK25, WK26, WK27, WK28, WK29, WK30, look_hit, look_miss, List.map_cons, List.map_nil, Nat.add_zero, max_v, min_v, ↓cnd_t, ↓cnd_f, ↓grd_b, ↓grd_u, startEnv, Option.map_some, List.length_nil, List.length_cons, List.nil_append, List.cons_append, List.getElem?_cons_zero, List.getElem?_cons_succ, List.set_cons_zero, List.set_cons_succ, Bool.not_true, Bool.not_false, reduceIte, Nat.reduceEqDiff, Nat.reduceAdd, Nat.reduceLT, blt_lit, beq_lit, Bool.or_true, Bool.true_or, Bool.or_false, Bool.false_or, Bool.and_true, Bool.true_and, Bool.and_self, cond_true, cond_false, List.append_nil, Iv.eta, Option.map_none, idxO_l0, idxO_l1, decide_true, decide_false, reqs_true, Int.zero_sub, wrap_lit, wrapu_lit, Int.reduceLE, Int.reduceLT, Int.reduceAdd, Int.reduceSub, Int.reduceMul, Int.reduceNeg, Int.reduceEq, Option.bind_some, bin_shr_u64, bin_shl_u64, bin_shr_i64, bin_shl_i64, and_m32', Int.reduceToNat, Int.reducePow, Int.reduceMod, Int.reduceDiv, wrap_u64s, true_or, or_true, true_and, and_true, Option.isSome_none, Option.isSome_some, Nat.reduceLeDiff, Nat.reduceMul, Int.toNat_natCast, Int.cast_ofNat_Int, Int.natCast_zero, Int.natCast_one, List.isEmpty_nil, List.isEmpty_cons, List.replicate_zero, List.replicate_succ, T1, T2, T3, T4, T5, T6, T9, T10, T11, T12, T21, T22, T23, T25, T26, T27, T28, T29, T30, T32, T33, T34, T35, T36, T37, T38, T39, T40, T41, T42, T43, T44, T46, T48, T50, T52, T53, T54, T55, T56, T57, T58, T59, T61, T62, T63, T64, T65, T66, T67, T68, T69, T70, T71, T72, T73, T74, T75, T76, T77, T78, T79, T80, T81, T82, T83, T84, T85, T87, T89, T91, T92, T93, T95, T96, T97, T98, T102, T103, T105, T107, T108, T109, T110, T112, T116, T120, T121, T122, T123, T124, T125, T126, T128, T130, T131, T132, T134, T135, T136, T137, T138, T140, T142, T143, T145, T146, T148, T149, T150, T152, T153, T154, T155, T156, T163, T164, T165, T166, T167, M_a2Long_eq, e0, en, M_a2_eq, c6, hA, hB, hC, loadC_60, loadC_62, loadC_64, f1, f2, f3, f4, f5, f6, f7, f8.1, f8.2, f9, f10, w1, dec_self, Iv.eta, lapp_n, lapp_c]
      repeat' (first | with_reducible refine cnd_split (fun hc => ?_) (fun hc => ?_) | with_reducible refine Reqs.mk ?_ ?_)
      all_goals first
        | trivial
        | exact endM_same rfl trivial rfl rfl (by simp) rfl
        | exact ⟨hpre, by omega⟩
        | exact ivL_len A
        | (exfalso; exact ff_true (f11 (by assumption)) (by assumption))
        | (exfalso; exact ff_true (f12 (by assumption)).1 (by assumption))
        | (exfalso; exact ff_true (f12 (by assumption)).2 (by assumption))
        | (exfalso; exact ff_true m0 (by assumption))
        | (exfalso; exact ff_true f13 (by assumption))
        | (exfalso; exact ff_true (f14 (by assumption) (by assumption)).1 (by assumption))
        | (exfalso; exact ff_true (f14 (by assumption) (by assumption)).2 (by assumption))
  · cases hM
theorem law_FnIntervals : Mn Tryz.prog 4 M_lawFnIntervals := laws_FnIntervals_lawFnIntervals_ok

end Go.Proofs.YtcnapkdccjibpaaGreatDoor.Eng
