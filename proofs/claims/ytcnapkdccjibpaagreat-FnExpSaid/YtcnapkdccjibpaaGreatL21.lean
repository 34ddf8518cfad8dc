/- What functions of the program compute, and that the program computes it: part 21. -/
import Derived.Test.YtcnapkdccjibpaaGreatTab
import Derived.Test.YtcnapkdccjibpaaGreatEng16
import Derived.Laws.BitsLemmas
import Derived.Laws.Bits64
import Derived.Laws.Bits64b
import Derived.Lib.Mul64
import Derived.Lib.BitFns
import Derived.Laws.Externs
import Derived.Test.YtcnapkdccjibpaaGreatL1
import Derived.Test.YtcnapkdccjibpaaGreatL2
import Derived.Test.YtcnapkdccjibpaaGreatL3
import Derived.Test.YtcnapkdccjibpaaGreatL12
import Derived.Test.YtcnapkdccjibpaaGreatL20
namespace Go.Proofs.YtcnapkdccjibpaaGreat.Eng
open Go Go.RowKit
set_option linter.unusedVariables false
set_option linter.unusedSimpArgs false
set_option maxRecDepth 100000
set_option maxHeartbeats 1000000
-- impl.odd Asinh
def F_closeAsinh : FT
  | [.c (.p (.fn 91))], _ => some (True, .v (.c (.clo 142 [.own 0 0])), [[.fn 91]])
  | _, _ => none
theorem F_closeAsinh_eq {g : List PC} : F_closeAsinh [.c (.p (.fn 91))] g = some (True, .v (.c (.clo 142 [.own 0 0])), [[.fn 91]]) := rfl
theorem impl_odd_closeAsinh_ok : Fn Tryz.prog 88 F_closeAsinh := by
  refine fn_of_go (O := orc []) mixed T_ok (orc_sound _) Tryz.func88 (by kernel_rfl) rfl Tryz.ntmps88 (by kernel_rfl) Tryz.results88 ?_
  intro args g pre r new hF hpre
  unfold F_closeAsinh at hF
  split at hF
  · skip
    simp only [Option.some.injEq, Prod.mk.injEq] at hF
    obtain ⟨rfl, hr, rfl⟩ := hF
    refine ⟨by simp, ?_⟩
    simp (config := { maxSteps := 4000000, implicitDefEqProofs := false }) only [WK0, WK1, WK2, WK3, WK4, WK5, WK6, WK7, WK8, WK9, WK10, WK11, WK12, WK13, WK14, WK15, WK16, WK17, WK18, WK19, WK20, WK21, WK22, WK23, WK24, WK25, WK26, WK27, WK28, look_hit, look_miss, List.map_cons, List.map_nil, Nat.add_zero, max_v, min_v, ↓cnd_t, ↓cnd_f, ↓grd_b, ↓grd_u, startEnv, Option.map_some, List.length_nil, List.length_cons, List.nil_append, List.cons_append, List.getElem?_cons_zero, List.getElem?_cons_succ, List.set_cons_zero, List.set_cons_succ, Bool.not_true, Bool.not_false, reduceIte, Nat.reduceEqDiff, Nat.reduceAdd, Nat.reduceLT, blt_lit, beq_lit, Bool.or_true, Bool.true_or, Bool.or_false, Bool.false_or, Bool.and_true, Bool.true_and, Bool.and_self, cond_true, cond_false, List.append_nil, Iv.eta, Option.map_none, idxO_l0, idxO_l1, decide_true, decide_false, reqs_true, Int.zero_sub, wrap_lit, wrapu_lit, Int.reduceLE, Int.reduceLT, Int.reduceAdd, Int.reduceSub, Int.reduceMul, Int.reduceNeg, Int.reduceEq, Option.bind_some, bin_shr_u64, bin_shl_u64, bin_shr_i64, bin_shl_i64, and_m32', Int.reduceToNat, Int.reducePow, Int.reduceMod, Int.reduceDiv, wrap_u64s, true_or, or_true, true_and, and_true, Option.isSome_none, Option.isSome_some, Nat.reduceLeDiff, Nat.reduceMul, Int.toNat_natCast, Int.cast_ofNat_Int, Int.natCast_zero, Int.natCast_one, List.isEmpty_nil, List.isEmpty_cons, List.replicate_zero, List.replicate_succ, T1, T2, T3, T4, T5, T6, T9, T10, T11, T12, T21, T22, T23, T24, T26, T27, T28, T29, T30, T31, T32, T33, T34, T35, T37, T38, T39, T40, T42, T43, T44, T45, T46, T47, T48, T50, T52, T54, T55, T56, T57, T58, T59, T60, T61, T62, T63, T64, T65, T66, T67, T68, T69, T70, T71, T72, T73, T75, T77, T78, T79, T80, T82, T83, T84, T85, T87, T89, T90, T91, T92, T95, T97, T103, T104, T105, T106, T107, T109, T110]
    exact (by subst hr; exact ⟨rfl, by simp [SV.res, AV.res, Cl.res, Pt.res, full], rfl⟩)
  · cases hF

-- impl.odd$1 Asinh
def F_oddCAsinh : FT
  | [.c (.p (.int .i64 n)), .c (.ptr (.giv 0))], [.fn 91] => some (-1152921504606846976 < n ∧ n < 1152921504606846976, .v (.agg [.int .i64 ((oddI asinhP n)).lo, .int .i64 ((oddI asinhP n)).hi]), [])
  | _, _ => none
theorem F_oddCAsinh_eq {n : Int} : F_oddCAsinh [.c (.p (.int .i64 n)), .c (.ptr (.giv 0))] [.fn 91] = some (-1152921504606846976 < n ∧ n < 1152921504606846976, .v (.agg [.int .i64 ((oddI asinhP n)).lo, .int .i64 ((oddI asinhP n)).hi]), []) := rfl
theorem impl_odd_1_oddCAsinh_ok : Fn Tryz.prog 142 F_oddCAsinh := by
  refine fn_of_go (O := orc [⟨91, F_asinhP, .inl impl_AsinhI_1_asinhP_ok⟩, ⟨107, F_negI, .inl impl_NegI_negI_ok⟩]) mixed T_ok (orc_sound _) Tryz.func142 (by kernel_rfl) rfl Tryz.ntmps142 (by kernel_rfl) Tryz.results142 ?_
  intro args g pre r new hF hpre
  unfold F_oddCAsinh at hF
  split at hF
  · rename_i n
    simp only [Option.some.injEq, Prod.mk.injEq] at hF
    obtain ⟨rfl, hr, rfl⟩ := hF
    refine ⟨by simp, ?_⟩
    have e2 : IntKind.i64.wrap (-n) = -n := wrap_om (by omega) (by omega)
    simp (config := { maxSteps := 4000000, implicitDefEqProofs := false }) only [F_asinhP_eq, F_negI_eq, WK0, WK1, WK2, WK3, WK4, WK5, WK6, WK7, WK8, WK9, WK10, WK11, WK12, WK13, WK14, WK15, WK16, WK17, WK18, WK19, WK20, WK21, WK22, WK23, WK24, WK25, WK26, WK27, WK28, look_hit, look_miss, List.map_cons, List.map_nil, Nat.add_zero, max_v, min_v, ↓cnd_t, ↓cnd_f, ↓grd_b, ↓grd_u, startEnv, Option.map_some, List.length_nil, List.length_cons, List.nil_append, List.cons_append, List.getElem?_cons_zero, List.getElem?_cons_succ, List.set_cons_zero, List.set_cons_succ, Bool.not_true, Bool.not_false, reduceIte, Nat.reduceEqDiff, Nat.reduceAdd, Nat.reduceLT, blt_lit, beq_lit, Bool.or_true, Bool.true_or, Bool.or_false, Bool.false_or, Bool.and_true, Bool.true_and, Bool.and_self, cond_true, cond_false, List.append_nil, Iv.eta, Option.map_none, idxO_l0, idxO_l1, decide_true, decide_false, reqs_true, Int.zero_sub, wrap_lit, wrapu_lit, Int.reduceLE, Int.reduceLT, Int.reduceAdd, Int.reduceSub, Int.reduceMul, Int.reduceNeg, Int.reduceEq, Option.bind_some, bin_shr_u64, bin_shl_u64, bin_shr_i64, bin_shl_i64, and_m32', Int.reduceToNat, Int.reducePow, Int.reduceMod, Int.reduceDiv, wrap_u64s, true_or, or_true, true_and, and_true, Option.isSome_none, Option.isSome_some, Nat.reduceLeDiff, Nat.reduceMul, Int.toNat_natCast, Int.cast_ofNat_Int, Int.natCast_zero, Int.natCast_one, List.isEmpty_nil, List.isEmpty_cons, List.replicate_zero, List.replicate_succ, T1, T2, T3, T4, T5, T6, T9, T10, T11, T12, T21, T22, T23, T24, T26, T27, T28, T29, T30, T31, T32, T33, T34, T35, T37, T38, T39, T40, T42, T43, T44, T45, T46, T47, T48, T50, T52, T54, T55, T56, T57, T58, T59, T60, T61, T62, T63, T64, T65, T66, T67, T68, T69, T70, T71, T72, T73, T75, T77, T78, T79, T80, T82, T83, T84, T85, T87, T89, T90, T91, T92, T95, T97, T103, T104, T105, T106, T107, T109, T110, e2]
    repeat' (first | with_reducible refine cnd_split (fun hc => ?_) (fun hc => ?_) | with_reducible refine Reqs.mk ?_ ?_)
    all_goals (try simp only [decide_eq_true_eq, decide_eq_false_iff_not] at *)
    all_goals first
      | trivial
      | (refine ⟨?_, ?_⟩ <;> omega)
      | (refine endS_v (t := (oddI asinhP n)) hr ?_; rw [oddI, if_pos (by assumption)]; done)
      | (refine endS_v (t := (oddI asinhP n)) hr ?_; rw [oddI, if_neg (by omega)]; done)
  · cases hF

-- impl.monotonic Asinh
def F_monoAsinh : FT
  | [.agg [.int .i64 x1, .int .i64 x2], .c (.clo 142 [.giv 0])], [.fn 91] => some (True, .v (.agg [.int .i64 ((monoI (oddI asinhP) (Iv.mk x1 x2))).lo, .int .i64 ((monoI (oddI asinhP) (Iv.mk x1 x2))).hi]), [])
  | _, _ => none
theorem F_monoAsinh_eq {x1 : Int} {x2 : Int} : F_monoAsinh [.agg [.int .i64 x1, .int .i64 x2], .c (.clo 142 [.giv 0])] [.fn 91] = some (True, .v (.agg [.int .i64 ((monoI (oddI asinhP) (Iv.mk x1 x2))).lo, .int .i64 ((monoI (oddI asinhP) (Iv.mk x1 x2))).hi]), []) := rfl
theorem impl_monotonic_monoAsinh_ok : Fn Tryz.prog 80 F_monoAsinh := by
  refine fn_of_go (O := orc [⟨71, F_whole, .inl impl_Whole_whole_ok⟩, ⟨98, F_notOk, .inl impl_IsWhole_notOk_ok⟩, ⟨121, F_areOk, .inl impl_areBounded_areOk_ok⟩, ⟨141, F_bounded, .inl impl_bounded_bounded_ok⟩, ⟨142, F_oddCAsinh, .inl impl_odd_1_oddCAsinh_ok⟩]) mixed T_ok (orc_sound _) Tryz.func80 (by kernel_rfl) rfl Tryz.ntmps80 (by kernel_rfl) Tryz.results80 ?_
  intro args g pre r new hF hpre
  unfold F_monoAsinh at hF
  split at hF
  · rename_i x1 x2
    simp only [Option.some.injEq, Prod.mk.injEq] at hF
    obtain ⟨rfl, hr, rfl⟩ := hF
    refine ⟨by simp, ?_⟩
    simp (config := { maxSteps := 4000000, implicitDefEqProofs := false }) only [F_areOk_eq, F_bounded_eq, F_notOk_eq, F_oddCAsinh_eq, F_whole_eq, WK0, WK1, WK2, WK3, WK4, WK5, WK6, WK7, WK8, WK9, WK10, WK11, WK12, WK13, WK14, WK15, WK16, WK17, WK18, WK19, WK20, WK21, WK22, WK23, WK24, WK25, WK26, WK27, WK28, look_hit, look_miss, List.map_cons, List.map_nil, Nat.add_zero, max_v, min_v, ↓cnd_t, ↓cnd_f, ↓grd_b, ↓grd_u, startEnv, Option.map_some, List.length_nil, List.length_cons, List.nil_append, List.cons_append, List.getElem?_cons_zero, List.getElem?_cons_succ, List.set_cons_zero, List.set_cons_succ, Bool.not_true, Bool.not_false, reduceIte, Nat.reduceEqDiff, Nat.reduceAdd, Nat.reduceLT, blt_lit, beq_lit, Bool.or_true, Bool.true_or, Bool.or_false, Bool.false_or, Bool.and_true, Bool.true_and, Bool.and_self, cond_true, cond_false, List.append_nil, Iv.eta, Option.map_none, idxO_l0, idxO_l1, decide_true, decide_false, reqs_true, Int.zero_sub, wrap_lit, wrapu_lit, Int.reduceLE, Int.reduceLT, Int.reduceAdd, Int.reduceSub, Int.reduceMul, Int.reduceNeg, Int.reduceEq, Option.bind_some, bin_shr_u64, bin_shl_u64, bin_shr_i64, bin_shl_i64, and_m32', Int.reduceToNat, Int.reducePow, Int.reduceMod, Int.reduceDiv, wrap_u64s, true_or, or_true, true_and, and_true, Option.isSome_none, Option.isSome_some, Nat.reduceLeDiff, Nat.reduceMul, Int.toNat_natCast, Int.cast_ofNat_Int, Int.natCast_zero, Int.natCast_one, List.isEmpty_nil, List.isEmpty_cons, List.replicate_zero, List.replicate_succ, T1, T2, T3, T4, T5, T6, T9, T10, T11, T12, T21, T22, T23, T24, T26, T27, T28, T29, T30, T31, T32, T33, T34, T35, T37, T38, T39, T40, T42, T43, T44, T45, T46, T47, T48, T50, T52, T54, T55, T56, T57, T58, T59, T60, T61, T62, T63, T64, T65, T66, T67, T68, T69, T70, T71, T72, T73, T75, T77, T78, T79, T80, T82, T83, T84, T85, T87, T89, T90, T91, T92, T95, T97, T103, T104, T105, T106, T107, T109, T110]
    repeat' (first | with_reducible refine cnd_split (fun hc => ?_) (fun hc => ?_) | with_reducible refine Reqs.mk ?_ ?_)
    all_goals first
      | trivial
      | (have hk := okI_mk.1 (by assumption : okI ⟨x1, x2⟩ = true); omega)
      | (refine endS_v (t := (monoI (oddI asinhP) (Iv.mk x1 x2))) hr ?_; rw [mono_no (by assumption)]; done)
      | (refine endS_v (t := (monoI (oddI asinhP) (Iv.mk x1 x2))) hr ?_; rw [mono_ok (by assumption), endsI]; simp_all; done)
  · cases hF

-- def AsinhI
def asinhIF (x : Iv) : Iv := monoI (oddI asinhP) x
def F_asinhI : FT
  | [.agg [.int .i64 x1, .int .i64 x2]], _ => some (True, .v (.agg [.int .i64 ((asinhIF (Iv.mk x1 x2))).lo, .int .i64 ((asinhIF (Iv.mk x1 x2))).hi]), [])
  | _, _ => none
theorem F_asinhI_eq {x1 : Int} {x2 : Int} {g : List PC} : F_asinhI [.agg [.int .i64 x1, .int .i64 x2]] g = some (True, .v (.agg [.int .i64 ((asinhIF (Iv.mk x1 x2))).lo, .int .i64 ((asinhIF (Iv.mk x1 x2))).hi]), []) := rfl

-- impl.AsinhI
theorem impl_AsinhI_asinhI_ok : Fn Tryz.prog 31 F_asinhI := by
  refine fn_of_go (O := orc [⟨80, F_monoAsinh, .inl impl_monotonic_monoAsinh_ok⟩, ⟨88, F_closeAsinh, .inl impl_odd_closeAsinh_ok⟩]) mixed T_ok (orc_sound _) Tryz.func31 (by kernel_rfl) rfl Tryz.ntmps31 (by kernel_rfl) Tryz.results31 ?_
  intro args g pre r new hF hpre
  unfold F_asinhI at hF
  split at hF
  · rename_i x1 x2
    simp only [Option.some.injEq, Prod.mk.injEq] at hF
    obtain ⟨rfl, hr, rfl⟩ := hF
    refine ⟨by simp, ?_⟩
    simp (config := { maxSteps := 4000000, implicitDefEqProofs := false }) only [F_closeAsinh_eq, F_monoAsinh_eq, WK0, WK1, WK2, WK3, WK4, WK5, WK6, WK7, WK8, WK9, WK10, WK11, WK12, WK13, WK14, WK15, WK16, WK17, WK18, WK19, WK20, WK21, WK22, WK23, WK24, WK25, WK26, WK27, WK28, look_hit, look_miss, List.map_cons, List.map_nil, Nat.add_zero, max_v, min_v, ↓cnd_t, ↓cnd_f, ↓grd_b, ↓grd_u, startEnv, Option.map_some, List.length_nil, List.length_cons, List.nil_append, List.cons_append, List.getElem?_cons_zero, List.getElem?_cons_succ, List.set_cons_zero, List.set_cons_succ, Bool.not_true, Bool.not_false, reduceIte, Nat.reduceEqDiff, Nat.reduceAdd, Nat.reduceLT, blt_lit, beq_lit, Bool.or_true, Bool.true_or, Bool.or_false, Bool.false_or, Bool.and_true, Bool.true_and, Bool.and_self, cond_true, cond_false, List.append_nil, Iv.eta, Option.map_none, idxO_l0, idxO_l1, decide_true, decide_false, reqs_true, Int.zero_sub, wrap_lit, wrapu_lit, Int.reduceLE, Int.reduceLT, Int.reduceAdd, Int.reduceSub, Int.reduceMul, Int.reduceNeg, Int.reduceEq, Option.bind_some, bin_shr_u64, bin_shl_u64, bin_shr_i64, bin_shl_i64, and_m32', Int.reduceToNat, Int.reducePow, Int.reduceMod, Int.reduceDiv, wrap_u64s, true_or, or_true, true_and, and_true, Option.isSome_none, Option.isSome_some, Nat.reduceLeDiff, Nat.reduceMul, Int.toNat_natCast, Int.cast_ofNat_Int, Int.natCast_zero, Int.natCast_one, List.isEmpty_nil, List.isEmpty_cons, List.replicate_zero, List.replicate_succ, T1, T2, T3, T4, T5, T6, T9, T10, T11, T12, T21, T22, T23, T24, T26, T27, T28, T29, T30, T31, T32, T33, T34, T35, T37, T38, T39, T40, T42, T43, T44, T45, T46, T47, T48, T50, T52, T54, T55, T56, T57, T58, T59, T60, T61, T62, T63, T64, T65, T66, T67, T68, T69, T70, T71, T72, T73, T75, T77, T78, T79, T80, T82, T83, T84, T85, T87, T89, T90, T91, T92, T95, T97, T103, T104, T105, T106, T107, T109, T110]
    repeat' (first | with_reducible refine cnd_split (fun hc => ?_) (fun hc => ?_) | with_reducible refine Reqs.mk ?_ ?_)
    all_goals first | trivial | exact endS_v (t := (asinhIF (Iv.mk x1 x2))) hr rfl
  · cases hF

-- impl.AtanhI$1
def F_atanhP : FT
  | [.c (.p (.int .i64 n))], _ => some (0 ≤ n ∧ n < 1152921504606846976, .v (.agg [.int .i64 ((atanhP n)).lo, .int .i64 ((atanhP n)).hi]), [])
  | _, _ => none
theorem F_atanhP_eq {n : Int} {g : List PC} : F_atanhP [.c (.p (.int .i64 n))] g = some (0 ≤ n ∧ n < 1152921504606846976, .v (.agg [.int .i64 ((atanhP n)).lo, .int .i64 ((atanhP n)).hi]), []) := rfl
theorem impl_AtanhI_1_atanhP_ok : Fn Tryz.prog 96 F_atanhP := by
  refine fn_of_go (O := orc [⟨26, F_logI, .inl impl_LogI_logI_ok⟩, ⟨71, F_whole, .inl impl_Whole_whole_ok⟩, ⟨74, F_divI, .inl impl_DivI_divI_ok⟩, ⟨82, F_halfI, .inl impl_HalfI_halfI_ok⟩, ⟨92, F_atI, .inl impl_at_atI_ok⟩]) mixed T_ok (orc_sound _) Tryz.func96 (by kernel_rfl) rfl Tryz.ntmps96 (by kernel_rfl) Tryz.results96 ?_
  intro args g pre r new hF hpre
  unfold F_atanhP at hF
  split at hF
  · rename_i n
    simp only [Option.some.injEq, Prod.mk.injEq] at hF
    obtain ⟨rfl, hr, rfl⟩ := hF
    refine ⟨by simp, ?_⟩
    have e1 := at_mk (n := n) (by omega)
    simp (config := { maxSteps := 4000000, implicitDefEqProofs := false }) only [F_atI_eq, F_divI_eq, F_halfI_eq, F_logI_eq, F_whole_eq, WK0, WK1, WK2, WK3, WK4, WK5, WK6, WK7, WK8, WK9, WK10, WK11, WK12, WK13, WK14, WK15, WK16, WK17, WK18, WK19, WK20, WK21, WK22, WK23, WK24, WK25, WK26, WK27, WK28, look_hit, look_miss, List.map_cons, List.map_nil, Nat.add_zero, max_v, min_v, ↓cnd_t, ↓cnd_f, ↓grd_b, ↓grd_u, startEnv, Option.map_some, List.length_nil, List.length_cons, List.nil_append, List.cons_append, List.getElem?_cons_zero, List.getElem?_cons_succ, List.set_cons_zero, List.set_cons_succ, Bool.not_true, Bool.not_false, reduceIte, Nat.reduceEqDiff, Nat.reduceAdd, Nat.reduceLT, blt_lit, beq_lit, Bool.or_true, Bool.true_or, Bool.or_false, Bool.false_or, Bool.and_true, Bool.true_and, Bool.and_self, cond_true, cond_false, List.append_nil, Iv.eta, Option.map_none, idxO_l0, idxO_l1, decide_true, decide_false, reqs_true, Int.zero_sub, wrap_lit, wrapu_lit, Int.reduceLE, Int.reduceLT, Int.reduceAdd, Int.reduceSub, Int.reduceMul, Int.reduceNeg, Int.reduceEq, Option.bind_some, bin_shr_u64, bin_shl_u64, bin_shr_i64, bin_shl_i64, and_m32', Int.reduceToNat, Int.reducePow, Int.reduceMod, Int.reduceDiv, wrap_u64s, true_or, or_true, true_and, and_true, Option.isSome_none, Option.isSome_some, Nat.reduceLeDiff, Nat.reduceMul, Int.toNat_natCast, Int.cast_ofNat_Int, Int.natCast_zero, Int.natCast_one, List.isEmpty_nil, List.isEmpty_cons, List.replicate_zero, List.replicate_succ, T1, T2, T3, T4, T5, T6, T9, T10, T11, T12, T21, T22, T23, T24, T26, T27, T28, T29, T30, T31, T32, T33, T34, T35, T37, T38, T39, T40, T42, T43, T44, T45, T46, T47, T48, T50, T52, T54, T55, T56, T57, T58, T59, T60, T61, T62, T63, T64, T65, T66, T67, T68, T69, T70, T71, T72, T73, T75, T77, T78, T79, T80, T82, T83, T84, T85, T87, T89, T90, T91, T92, T95, T97, T103, T104, T105, T106, T107, T109, T110, e1]
    repeat' (first | with_reducible refine cnd_split (fun hc => ?_) (fun hc => ?_) | with_reducible refine Reqs.mk ?_ ?_)
    all_goals (try simp only [decide_eq_true_eq, decide_eq_false_iff_not] at *)
    all_goals first
      | trivial
      | (exfalso; omega)
      | (refine endS_v (t := (atanhP n)) hr ?_; rw [atanhP, if_pos (by assumption)]; first | done | rfl)
      | (refine endS_v (t := (atanhP n)) hr ?_; rw [atanhP, if_neg (by assumption)]; first | done | rfl)
      | (unfold inR; omega)
      | (refine endS_v (t := (atanhP n)) hr ?_
         have hlt : ¬ 4294967296 ≤ n := by assumption
         rw [atanhP, if_neg hlt]
         have z1 : IntKind.i64.wrap (4294967296 + n) = 4294967296 + n := wrap_om (by omega) (by omega)
         have z2 : IntKind.i64.wrap (4294967296 - n) = 4294967296 - n := wrap_om (by omega) (by omega)
         have z3 := at_mk (n := 4294967296 + n) (by omega)
         have z4 := at_mk (n := 4294967296 - n) (by omega)
         simp only [z1, z2, z3, z4]
         try rfl)
  · cases hF

-- impl.odd Atanh
def F_closeAtanh : FT
  | [.c (.p (.fn 96))], _ => some (True, .v (.c (.clo 142 [.own 0 0])), [[.fn 96]])
  | _, _ => none
theorem F_closeAtanh_eq {g : List PC} : F_closeAtanh [.c (.p (.fn 96))] g = some (True, .v (.c (.clo 142 [.own 0 0])), [[.fn 96]]) := rfl
theorem impl_odd_closeAtanh_ok : Fn Tryz.prog 88 F_closeAtanh := by
  refine fn_of_go (O := orc []) mixed T_ok (orc_sound _) Tryz.func88 (by kernel_rfl) rfl Tryz.ntmps88 (by kernel_rfl) Tryz.results88 ?_
  intro args g pre r new hF hpre
  unfold F_closeAtanh at hF
  split at hF
  · skip
    simp only [Option.some.injEq, Prod.mk.injEq] at hF
    obtain ⟨rfl, hr, rfl⟩ := hF
    refine ⟨by simp, ?_⟩
    simp (config := { maxSteps := 4000000, implicitDefEqProofs := false }) only [WK0, WK1, WK2, WK3, WK4, WK5, WK6, WK7, WK8, WK9, WK10, WK11, WK12, WK13, WK14, WK15, WK16, WK17, WK18, WK19, WK20, WK21, WK22, WK23, WK24, WK25, WK26, WK27, WK28, look_hit, look_miss, List.map_cons, List.map_nil, Nat.add_zero, max_v, min_v, ↓cnd_t, ↓cnd_f, ↓grd_b, ↓grd_u, startEnv, Option.map_some, List.length_nil, List.length_cons, List.nil_append, List.cons_append, List.getElem?_cons_zero, List.getElem?_cons_succ, List.set_cons_zero, List.set_cons_succ, Bool.not_true, Bool.not_false, reduceIte, Nat.reduceEqDiff, Nat.reduceAdd, Nat.reduceLT, blt_lit, beq_lit, Bool.or_true, Bool.true_or, Bool.or_false, Bool.false_or, Bool.and_true, Bool.true_and, Bool.and_self, cond_true, cond_false, List.append_nil, Iv.eta, Option.map_none, idxO_l0, idxO_l1, decide_true, decide_false, reqs_true, Int.zero_sub, wrap_lit, wrapu_lit, Int.reduceLE, Int.reduceLT, Int.reduceAdd, Int.reduceSub, Int.reduceMul, Int.reduceNeg, Int.reduceEq, Option.bind_some, bin_shr_u64, bin_shl_u64, bin_shr_i64, bin_shl_i64, and_m32', Int.reduceToNat, Int.reducePow, Int.reduceMod, Int.reduceDiv, wrap_u64s, true_or, or_true, true_and, and_true, Option.isSome_none, Option.isSome_some, Nat.reduceLeDiff, Nat.reduceMul, Int.toNat_natCast, Int.cast_ofNat_Int, Int.natCast_zero, Int.natCast_one, List.isEmpty_nil, List.isEmpty_cons, List.replicate_zero, List.replicate_succ, T1, T2, T3, T4, T5, T6, T9, T10, T11, T12, T21, T22, T23, T24, T26, T27, T28, T29, T30, T31, T32, T33, T34, T35, T37, T38, T39, T40, T42, T43, T44, T45, T46, T47, T48, T50, T52, T54, T55, T56, T57, T58, T59, T60, T61, T62, T63, T64, T65, T66, T67, T68, T69, T70, T71, T72, T73, T75, T77, T78, T79, T80, T82, T83, T84, T85, T87, T89, T90, T91, T92, T95, T97, T103, T104, T105, T106, T107, T109, T110]
    exact (by subst hr; exact ⟨rfl, by simp [SV.res, AV.res, Cl.res, Pt.res, full], rfl⟩)
  · cases hF

-- impl.odd$1 Atanh
def F_oddCAtanh : FT
  | [.c (.p (.int .i64 n)), .c (.ptr (.giv 0))], [.fn 96] => some (-1152921504606846976 < n ∧ n < 1152921504606846976, .v (.agg [.int .i64 ((oddI atanhP n)).lo, .int .i64 ((oddI atanhP n)).hi]), [])
  | _, _ => none
theorem F_oddCAtanh_eq {n : Int} : F_oddCAtanh [.c (.p (.int .i64 n)), .c (.ptr (.giv 0))] [.fn 96] = some (-1152921504606846976 < n ∧ n < 1152921504606846976, .v (.agg [.int .i64 ((oddI atanhP n)).lo, .int .i64 ((oddI atanhP n)).hi]), []) := rfl
theorem impl_odd_1_oddCAtanh_ok : Fn Tryz.prog 142 F_oddCAtanh := by
  refine fn_of_go (O := orc [⟨96, F_atanhP, .inl impl_AtanhI_1_atanhP_ok⟩, ⟨107, F_negI, .inl impl_NegI_negI_ok⟩]) mixed T_ok (orc_sound _) Tryz.func142 (by kernel_rfl) rfl Tryz.ntmps142 (by kernel_rfl) Tryz.results142 ?_
  intro args g pre r new hF hpre
  unfold F_oddCAtanh at hF
  split at hF
  · rename_i n
    simp only [Option.some.injEq, Prod.mk.injEq] at hF
    obtain ⟨rfl, hr, rfl⟩ := hF
    refine ⟨by simp, ?_⟩
    have e2 : IntKind.i64.wrap (-n) = -n := wrap_om (by omega) (by omega)
    simp (config := { maxSteps := 4000000, implicitDefEqProofs := false }) only [F_atanhP_eq, F_negI_eq, WK0, WK1, WK2, WK3, WK4, WK5, WK6, WK7, WK8, WK9, WK10, WK11, WK12, WK13, WK14, WK15, WK16, WK17, WK18, WK19, WK20, WK21, WK22, WK23, WK24, WK25, WK26, WK27, WK28, look_hit, look_miss, List.map_cons, List.map_nil, Nat.add_zero, max_v, min_v, ↓cnd_t, ↓cnd_f, ↓grd_b, ↓grd_u, startEnv, Option.map_some, List.length_nil, List.length_cons, List.nil_append, List.cons_append, List.getElem?_cons_zero, List.getElem?_cons_succ, List.set_cons_zero, List.set_cons_succ, Bool.not_true, Bool.not_false, reduceIte, Nat.reduceEqDiff, Nat.reduceAdd, Nat.reduceLT, blt_lit, beq_lit, Bool.or_true, Bool.true_or, Bool.or_false, Bool.false_or, Bool.and_true, Bool.true_and, Bool.and_self, cond_true, cond_false, List.append_nil, Iv.eta, Option.map_none, idxO_l0, idxO_l1, decide_true, decide_false, reqs_true, Int.zero_sub, wrap_lit, wrapu_lit, Int.reduceLE, Int.reduceLT, Int.reduceAdd, Int.reduceSub, Int.reduceMul, Int.reduceNeg, Int.reduceEq, Option.bind_some, bin_shr_u64, bin_shl_u64, bin_shr_i64, bin_shl_i64, and_m32', Int.reduceToNat, Int.reducePow, Int.reduceMod, Int.reduceDiv, wrap_u64s, true_or, or_true, true_and, and_true, Option.isSome_none, Option.isSome_some, Nat.reduceLeDiff, Nat.reduceMul, Int.toNat_natCast, Int.cast_ofNat_Int, Int.natCast_zero, Int.natCast_one, List.isEmpty_nil, List.isEmpty_cons, List.replicate_zero, List.replicate_succ, T1, T2, T3, T4, T5, T6, T9, T10, T11, T12, T21, T22, T23, T24, T26, T27, T28, T29, T30, T31, T32, T33, T34, T35, T37, T38, T39, T40, T42, T43, T44, T45, T46, T47, T48, T50, T52, T54, T55, T56, T57, T58, T59, T60, T61, T62, T63, T64, T65, T66, T67, T68, T69, T70, T71, T72, T73, T75, T77, T78, T79, T80, T82, T83, T84, T85, T87, T89, T90, T91, T92, T95, T97, T103, T104, T105, T106, T107, T109, T110, e2]
    repeat' (first | with_reducible refine cnd_split (fun hc => ?_) (fun hc => ?_) | with_reducible refine Reqs.mk ?_ ?_)
    all_goals (try simp only [decide_eq_true_eq, decide_eq_false_iff_not] at *)
    all_goals first
      | trivial
      | (refine ⟨?_, ?_⟩ <;> omega)
      | (refine endS_v (t := (oddI atanhP n)) hr ?_; rw [oddI, if_pos (by assumption)]; done)
      | (refine endS_v (t := (oddI atanhP n)) hr ?_; rw [oddI, if_neg (by omega)]; done)
  · cases hF

-- impl.monotonic Atanh
def F_monoAtanh : FT
  | [.agg [.int .i64 x1, .int .i64 x2], .c (.clo 142 [.giv 0])], [.fn 96] => some (True, .v (.agg [.int .i64 ((monoI (oddI atanhP) (Iv.mk x1 x2))).lo, .int .i64 ((monoI (oddI atanhP) (Iv.mk x1 x2))).hi]), [])
  | _, _ => none
theorem F_monoAtanh_eq {x1 : Int} {x2 : Int} : F_monoAtanh [.agg [.int .i64 x1, .int .i64 x2], .c (.clo 142 [.giv 0])] [.fn 96] = some (True, .v (.agg [.int .i64 ((monoI (oddI atanhP) (Iv.mk x1 x2))).lo, .int .i64 ((monoI (oddI atanhP) (Iv.mk x1 x2))).hi]), []) := rfl
theorem impl_monotonic_monoAtanh_ok : Fn Tryz.prog 80 F_monoAtanh := by
  refine fn_of_go (O := orc [⟨71, F_whole, .inl impl_Whole_whole_ok⟩, ⟨98, F_notOk, .inl impl_IsWhole_notOk_ok⟩, ⟨121, F_areOk, .inl impl_areBounded_areOk_ok⟩, ⟨141, F_bounded, .inl impl_bounded_bounded_ok⟩, ⟨142, F_oddCAtanh, .inl impl_odd_1_oddCAtanh_ok⟩]) mixed T_ok (orc_sound _) Tryz.func80 (by kernel_rfl) rfl Tryz.ntmps80 (by kernel_rfl) Tryz.results80 ?_
  intro args g pre r new hF hpre
  unfold F_monoAtanh at hF
  split at hF
  · rename_i x1 x2
    simp only [Option.some.injEq, Prod.mk.injEq] at hF
    obtain ⟨rfl, hr, rfl⟩ := hF
    refine ⟨by simp, ?_⟩
    simp (config := { maxSteps := 4000000, implicitDefEqProofs := false }) only [F_areOk_eq, F_bounded_eq, F_notOk_eq, F_oddCAtanh_eq, F_whole_eq, WK0, WK1, WK2, WK3, WK4, WK5, WK6, WK7, WK8, WK9, WK10, WK11, WK12, WK13, WK14, WK15, WK16, WK17, WK18, WK19, WK20, WK21, WK22, WK23, WK24, WK25, WK26, WK27, WK28, look_hit, look_miss, List.map_cons, List.map_nil, Nat.add_zero, max_v, min_v, ↓cnd_t, ↓cnd_f, ↓grd_b, ↓grd_u, startEnv, Option.map_some, List.length_nil, List.length_cons, List.nil_append, List.cons_append, List.getElem?_cons_zero, List.getElem?_cons_succ, List.set_cons_zero, List.set_cons_succ, Bool.not_true, Bool.not_false, reduceIte, Nat.reduceEqDiff, Nat.reduceAdd, Nat.reduceLT, blt_lit, beq_lit, Bool.or_true, Bool.true_or, Bool.or_false, Bool.false_or, Bool.and_true, Bool.true_and, Bool.and_self, cond_true, cond_false, List.append_nil, Iv.eta, Option.map_none, idxO_l0, idxO_l1, decide_true, decide_false, reqs_true, Int.zero_sub, wrap_lit, wrapu_lit, Int.reduceLE, Int.reduceLT, Int.reduceAdd, Int.reduceSub, Int.reduceMul, Int.reduceNeg, Int.reduceEq, Option.bind_some, bin_shr_u64, bin_shl_u64, bin_shr_i64, bin_shl_i64, and_m32', Int.reduceToNat, Int.reducePow, Int.reduceMod, Int.reduceDiv, wrap_u64s, true_or, or_true, true_and, and_true, Option.isSome_none, Option.isSome_some, Nat.reduceLeDiff, Nat.reduceMul, Int.toNat_natCast, Int.cast_ofNat_Int, Int.natCast_zero, Int.natCast_one, List.isEmpty_nil, List.isEmpty_cons, List.replicate_zero, List.replicate_succ, T1, T2, T3, T4, T5, T6, T9, T10, T11, T12, T21, T22, T23, T24, T26, T27, T28, T29, T30, T31, T32, T33, T34, T35, T37, T38, T39, T40, T42, T43, T44, T45, T46, T47, T48, T50, T52, T54, T55, T56, T57, T58, T59, T60, T61, T62, T63, T64, T65, T66, T67, T68, T69, T70, T71, T72, T73, T75, T77, T78, T79, T80, T82, T83, T84, T85, T87, T89, T90, T91, T92, T95, T97, T103, T104, T105, T106, T107, T109, T110]
    repeat' (first | with_reducible refine cnd_split (fun hc => ?_) (fun hc => ?_) | with_reducible refine Reqs.mk ?_ ?_)
    all_goals first
      | trivial
      | (have hk := okI_mk.1 (by assumption : okI ⟨x1, x2⟩ = true); omega)
      | (refine endS_v (t := (monoI (oddI atanhP) (Iv.mk x1 x2))) hr ?_; rw [mono_no (by assumption)]; done)
      | (refine endS_v (t := (monoI (oddI atanhP) (Iv.mk x1 x2))) hr ?_; rw [mono_ok (by assumption), endsI]; simp_all; done)
  · cases hF

-- def AtanhI
def atanhIF (x : Iv) : Iv := monoI (oddI atanhP) x
def F_atanhI : FT
  | [.agg [.int .i64 x1, .int .i64 x2]], _ => some (True, .v (.agg [.int .i64 ((atanhIF (Iv.mk x1 x2))).lo, .int .i64 ((atanhIF (Iv.mk x1 x2))).hi]), [])
  | _, _ => none
theorem F_atanhI_eq {x1 : Int} {x2 : Int} {g : List PC} : F_atanhI [.agg [.int .i64 x1, .int .i64 x2]] g = some (True, .v (.agg [.int .i64 ((atanhIF (Iv.mk x1 x2))).lo, .int .i64 ((atanhIF (Iv.mk x1 x2))).hi]), []) := rfl

-- impl.AtanhI
theorem impl_AtanhI_atanhI_ok : Fn Tryz.prog 32 F_atanhI := by
  refine fn_of_go (O := orc [⟨80, F_monoAtanh, .inl impl_monotonic_monoAtanh_ok⟩, ⟨88, F_closeAtanh, .inl impl_odd_closeAtanh_ok⟩]) mixed T_ok (orc_sound _) Tryz.func32 (by kernel_rfl) rfl Tryz.ntmps32 (by kernel_rfl) Tryz.results32 ?_
  intro args g pre r new hF hpre
  unfold F_atanhI at hF
  split at hF
  · rename_i x1 x2
    simp only [Option.some.injEq, Prod.mk.injEq] at hF
    obtain ⟨rfl, hr, rfl⟩ := hF
    refine ⟨by simp, ?_⟩
    simp (config := { maxSteps := 4000000, implicitDefEqProofs := false }) only [F_closeAtanh_eq, F_monoAtanh_eq, WK0, WK1, WK2, WK3, WK4, WK5, WK6, WK7, WK8, WK9, WK10, WK11, WK12, WK13, WK14, WK15, WK16, WK17, WK18, WK19, WK20, WK21, WK22, WK23, WK24, WK25, WK26, WK27, WK28, look_hit, look_miss, List.map_cons, List.map_nil, Nat.add_zero, max_v, min_v, ↓cnd_t, ↓cnd_f, ↓grd_b, ↓grd_u, startEnv, Option.map_some, List.length_nil, List.length_cons, List.nil_append, List.cons_append, List.getElem?_cons_zero, List.getElem?_cons_succ, List.set_cons_zero, List.set_cons_succ, Bool.not_true, Bool.not_false, reduceIte, Nat.reduceEqDiff, Nat.reduceAdd, Nat.reduceLT, blt_lit, beq_lit, Bool.or_true, Bool.true_or, Bool.or_false, Bool.false_or, Bool.and_true, Bool.true_and, Bool.and_self, cond_true, cond_false, List.append_nil, Iv.eta, Option.map_none, idxO_l0, idxO_l1, decide_true, decide_false, reqs_true, Int.zero_sub, wrap_lit, wrapu_lit, Int.reduceLE, Int.reduceLT, Int.reduceAdd, Int.reduceSub, Int.reduceMul, Int.reduceNeg, Int.reduceEq, Option.bind_some, bin_shr_u64, bin_shl_u64, bin_shr_i64, bin_shl_i64, and_m32', Int.reduceToNat, Int.reducePow, Int.reduceMod, Int.reduceDiv, wrap_u64s, true_or, or_true, true_and, and_true, Option.isSome_none, Option.isSome_some, Nat.reduceLeDiff, Nat.reduceMul, Int.toNat_natCast, Int.cast_ofNat_Int, Int.natCast_zero, Int.natCast_one, List.isEmpty_nil, List.isEmpty_cons, List.replicate_zero, List.replicate_succ, T1, T2, T3, T4, T5, T6, T9, T10, T11, T12, T21, T22, T23, T24, T26, T27, T28, T29, T30, T31, T32, T33, T34, T35, T37, T38, T39, T40, T42, T43, T44, T45, T46, T47, T48, T50, T52, T54, T55, T56, T57, T58, T59, T60, T61, T62, T63, T64, T65, T66, T67, T68, T69, T70, T71, T72, T73, T75, T77, T78, T79, T80, T82, T83, T84, T85, T87, T89, T90, T91, T92, T95, T97, T103, T104, T105, T106, T107, T109, T110]
    repeat' (first | with_reducible refine cnd_split (fun hc => ?_) (fun hc => ?_) | with_reducible refine Reqs.mk ?_ ?_)
    all_goals first | trivial | exact endS_v (t := (atanhIF (Iv.mk x1 x2))) hr rfl
  · cases hF

end Go.Proofs.YtcnapkdccjibpaaGreat.Eng
