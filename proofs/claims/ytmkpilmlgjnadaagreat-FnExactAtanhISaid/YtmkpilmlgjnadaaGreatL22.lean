/- What functions of the program compute, and that the program computes it: part 22. -/
import Derived.Test.YtmkpilmlgjnadaaGreatTab
import Derived.Test.YtmkpilmlgjnadaaGreatEng16
import Derived.Laws.BitsLemmas
import Derived.Laws.Bits64
import Derived.Laws.Bits64b
import Derived.Lib.Mul64
import Derived.Lib.BitFns
import Derived.Laws.Externs
import Derived.Test.YtmkpilmlgjnadaaGreatL1
import Derived.Test.YtmkpilmlgjnadaaGreatL2
import Derived.Test.YtmkpilmlgjnadaaGreatL3
import Derived.Test.YtmkpilmlgjnadaaGreatL12
import Derived.Test.YtmkpilmlgjnadaaGreatL15
import Derived.Test.YtmkpilmlgjnadaaGreatL21
namespace Go.Proofs.YtmkpilmlgjnadaaGreat.Eng
open Go Go.RowKit
set_option linter.unusedVariables false
set_option linter.unusedSimpArgs false
set_option maxRecDepth 100000
set_option maxHeartbeats 1000000
-- spec.l08Atanh2
def F_oddAtanh : FT
  | [.c (.p (.int .i64 n))], _ => some (-1152921504606846976 < n ∧ n < 1152921504606846976, .v (.agg [.int .i64 ((oddI atanhP n)).lo, .int .i64 ((oddI atanhP n)).hi]), [])
  | _, _ => none
theorem F_oddAtanh_eq {n : Int} {g : List PC} : F_oddAtanh [.c (.p (.int .i64 n))] g = some (-1152921504606846976 < n ∧ n < 1152921504606846976, .v (.agg [.int .i64 ((oddI atanhP n)).lo, .int .i64 ((oddI atanhP n)).hi]), []) := rfl
theorem spec_l08Atanh_oddAtanh_ok : Fn Tryz.prog 23 F_oddAtanh := by
  refine fn_of_go (O := orc [⟨21, F_whole, .inl spec_l04Whole_whole_ok⟩, ⟨23, F_atanhP, .inl spec_l08Atanh_atanhP_ok⟩, ⟨44, F_negI, .inl spec_NegI_negI_ok⟩, ⟨48, F_divI, .inl spec_DivI_divI_ok⟩, ⟨58, F_halfI, .inl spec_HalfI_halfI_ok⟩, ⟨59, F_logI, .inl spec_LogI_logI_ok⟩, ⟨60, F_mkP, .inl spec_l08At_mkP_ok⟩]) mixed T_ok (orc_sound _) Tryz.func23 (by kernel_rfl) rfl Tryz.ntmps23 (by kernel_rfl) Tryz.results23 ?_
  intro args g pre r new hF hpre
  unfold F_oddAtanh at hF
  split at hF
  · rename_i n
    simp only [Option.some.injEq, Prod.mk.injEq] at hF
    obtain ⟨rfl, hr, rfl⟩ := hF
    refine ⟨by simp, ?_⟩
    have e1 := at_mk (n := n) (by omega)
    have e2 : IntKind.i64.wrap (-n) = -n := wrap_om (by omega) (by omega)
    have e3 := e1
    simp (config := { maxSteps := 4000000, implicitDefEqProofs := false }) only [F_atanhP_eq, F_divI_eq, F_halfI_eq, F_logI_eq, F_mkP_eq, F_negI_eq, F_whole_eq, WK0, WK1, WK2, WK3, WK4, WK5, WK6, WK7, WK8, WK9, WK10, WK11, WK12, WK13, WK14, WK15, WK16, WK17, WK18, WK19, WK20, WK21, WK22, WK23, look_hit, look_miss, List.map_cons, List.map_nil, Nat.add_zero, max_v, min_v, ↓cnd_t, ↓cnd_f, startEnv, Option.map_some, List.length_nil, List.length_cons, List.nil_append, List.cons_append, List.getElem?_cons_zero, List.getElem?_cons_succ, List.set_cons_zero, List.set_cons_succ, Bool.not_true, Bool.not_false, reduceIte, Nat.reduceEqDiff, Nat.reduceAdd, Nat.reduceLT, blt_lit, beq_lit, Bool.or_true, Bool.true_or, Bool.or_false, Bool.false_or, Bool.and_true, Bool.true_and, Bool.and_self, cond_true, cond_false, List.append_nil, Iv.eta, Option.map_none, idxO_l0, idxO_l1, decide_true, decide_false, reqs_true, Int.zero_sub, wrap_lit, wrapu_lit, Int.reduceLE, Int.reduceLT, Int.reduceAdd, Int.reduceSub, Int.reduceMul, Int.reduceNeg, Int.reduceEq, Option.bind_some, bin_shr_u64, bin_shl_u64, bin_shr_i64, bin_shl_i64, and_m32', Int.reduceToNat, Int.reducePow, Int.reduceMod, Int.reduceDiv, wrap_u64s, true_or, or_true, true_and, and_true, Option.isSome_none, Option.isSome_some, Nat.reduceLeDiff, Nat.reduceMul, Int.toNat_natCast, Int.cast_ofNat_Int, Int.natCast_zero, Int.natCast_one, List.isEmpty_nil, List.isEmpty_cons, List.replicate_zero, List.replicate_succ, T1, T2, T3, T4, T5, T6, T9, T10, T11, T12, T21, T22, T23, T24, T25, T26, T27, T28, T29, T30, T31, T32, T33, T34, T35, T36, T37, T38, T39, T40, T41, T43, T44, T45, T46, T47, T48, T49, T50, T51, T53, T54, T55, T56, T57, T58, T59, T61, T63, T65, T67, T68, T70, T72, T73, T74, T75, T76, T77, T78, T81, T83, T89, T90, T91, T92, T93, T95, T96, e1, e2]
    repeat' (first | with_reducible refine cnd_split (fun hc => ?_) (fun hc => ?_) | with_reducible refine Reqs.mk ?_ ?_)
    all_goals (try simp only [decide_eq_true_eq, decide_eq_false_iff_not] at *)
    all_goals first
      | trivial
      | (refine ⟨?_, ?_⟩ <;> omega)
      | (refine endS_v (t := (oddI atanhP n)) hr ?_; rw [oddI, if_pos (by assumption)]; done)
      | (refine endS_v (t := (oddI atanhP n)) hr ?_; rw [oddI, if_neg (by omega), atanhP, if_pos (by assumption)]; first | done | rfl)
      | (refine endS_v (t := (oddI atanhP n)) hr ?_; rw [oddI, if_neg (by omega), atanhP, if_neg (by assumption)]; first | done | rfl)
      | (refine endS_v (t := (oddI atanhP n)) hr ?_
         have hlt : ¬ 4294967296 ≤ n := by assumption
         rw [oddI, if_neg (by omega), atanhP, if_neg hlt]
         have z1 : IntKind.i64.wrap (4294967296 + n) = 4294967296 + n := wrap_om (by omega) (by omega)
         have z2 : IntKind.i64.wrap (4294967296 - n) = 4294967296 - n := wrap_om (by omega) (by omega)
         have z3 := at_mk (n := 4294967296 + n) (by omega)
         have z4 := at_mk (n := 4294967296 - n) (by omega)
         simp only [z1, z2, z3, z4]
         try rfl)
  · cases hF

-- impl.odd Atanh
def F_closeAtanh : FT
  | [.c (.p (.fn 26))], _ => some (True, .v (.c (.clo 64 [.own 0 0])), [[.fn 26]])
  | _, _ => none
theorem F_closeAtanh_eq {g : List PC} : F_closeAtanh [.c (.p (.fn 26))] g = some (True, .v (.c (.clo 64 [.own 0 0])), [[.fn 26]]) := rfl
theorem impl_odd_closeAtanh_ok : Fn Tryz.prog 25 F_closeAtanh := by
  refine fn_of_go (O := orc []) mixed T_ok (orc_sound _) Tryz.func25 (by kernel_rfl) rfl Tryz.ntmps25 (by kernel_rfl) Tryz.results25 ?_
  intro args g pre r new hF hpre
  unfold F_closeAtanh at hF
  split at hF
  · skip
    simp only [Option.some.injEq, Prod.mk.injEq] at hF
    obtain ⟨rfl, hr, rfl⟩ := hF
    refine ⟨by simp, ?_⟩
    simp (config := { maxSteps := 4000000, implicitDefEqProofs := false }) only [WK0, WK1, WK2, WK3, WK4, WK5, WK6, WK7, WK8, WK9, WK10, WK11, WK12, WK13, WK14, WK15, WK16, WK17, WK18, WK19, WK20, WK21, WK22, WK23, look_hit, look_miss, List.map_cons, List.map_nil, Nat.add_zero, max_v, min_v, ↓cnd_t, ↓cnd_f, startEnv, Option.map_some, List.length_nil, List.length_cons, List.nil_append, List.cons_append, List.getElem?_cons_zero, List.getElem?_cons_succ, List.set_cons_zero, List.set_cons_succ, Bool.not_true, Bool.not_false, reduceIte, Nat.reduceEqDiff, Nat.reduceAdd, Nat.reduceLT, blt_lit, beq_lit, Bool.or_true, Bool.true_or, Bool.or_false, Bool.false_or, Bool.and_true, Bool.true_and, Bool.and_self, cond_true, cond_false, List.append_nil, Iv.eta, Option.map_none, idxO_l0, idxO_l1, decide_true, decide_false, reqs_true, Int.zero_sub, wrap_lit, wrapu_lit, Int.reduceLE, Int.reduceLT, Int.reduceAdd, Int.reduceSub, Int.reduceMul, Int.reduceNeg, Int.reduceEq, Option.bind_some, bin_shr_u64, bin_shl_u64, bin_shr_i64, bin_shl_i64, and_m32', Int.reduceToNat, Int.reducePow, Int.reduceMod, Int.reduceDiv, wrap_u64s, true_or, or_true, true_and, and_true, Option.isSome_none, Option.isSome_some, Nat.reduceLeDiff, Nat.reduceMul, Int.toNat_natCast, Int.cast_ofNat_Int, Int.natCast_zero, Int.natCast_one, List.isEmpty_nil, List.isEmpty_cons, List.replicate_zero, List.replicate_succ, T1, T2, T3, T4, T5, T6, T9, T10, T11, T12, T21, T22, T23, T24, T25, T26, T27, T28, T29, T30, T31, T32, T33, T34, T35, T36, T37, T38, T39, T40, T41, T43, T44, T45, T46, T47, T48, T49, T50, T51, T53, T54, T55, T56, T57, T58, T59, T61, T63, T65, T67, T68, T70, T72, T73, T74, T75, T76, T77, T78, T81, T83, T89, T90, T91, T92, T93, T95, T96]
    exact (by subst hr; exact ⟨rfl, by simp [SV.res, AV.res, Cl.res, Pt.res, full], rfl⟩)
  · cases hF

-- impl.odd$1 Atanh
def F_oddCAtanh : FT
  | [.c (.p (.int .i64 n)), .c (.ptr (.giv 0))], [.fn 26] => some (-1152921504606846976 < n ∧ n < 1152921504606846976, .v (.agg [.int .i64 ((oddI atanhP n)).lo, .int .i64 ((oddI atanhP n)).hi]), [])
  | _, _ => none
theorem F_oddCAtanh_eq {n : Int} : F_oddCAtanh [.c (.p (.int .i64 n)), .c (.ptr (.giv 0))] [.fn 26] = some (-1152921504606846976 < n ∧ n < 1152921504606846976, .v (.agg [.int .i64 ((oddI atanhP n)).lo, .int .i64 ((oddI atanhP n)).hi]), []) := rfl
theorem impl_odd_1_oddCAtanh_ok : Fn Tryz.prog 64 F_oddCAtanh := by
  refine fn_of_go (O := orc [⟨26, F_atanhP, .inl impl_AtanhI_1_atanhP_ok⟩, ⟨53, F_negI, .inl impl_NegI_negI_ok⟩]) mixed T_ok (orc_sound _) Tryz.func64 (by kernel_rfl) rfl Tryz.ntmps64 (by kernel_rfl) Tryz.results64 ?_
  intro args g pre r new hF hpre
  unfold F_oddCAtanh at hF
  split at hF
  · rename_i n
    simp only [Option.some.injEq, Prod.mk.injEq] at hF
    obtain ⟨rfl, hr, rfl⟩ := hF
    refine ⟨by simp, ?_⟩
    have e2 : IntKind.i64.wrap (-n) = -n := wrap_om (by omega) (by omega)
    simp (config := { maxSteps := 4000000, implicitDefEqProofs := false }) only [F_atanhP_eq, F_negI_eq, WK0, WK1, WK2, WK3, WK4, WK5, WK6, WK7, WK8, WK9, WK10, WK11, WK12, WK13, WK14, WK15, WK16, WK17, WK18, WK19, WK20, WK21, WK22, WK23, look_hit, look_miss, List.map_cons, List.map_nil, Nat.add_zero, max_v, min_v, ↓cnd_t, ↓cnd_f, startEnv, Option.map_some, List.length_nil, List.length_cons, List.nil_append, List.cons_append, List.getElem?_cons_zero, List.getElem?_cons_succ, List.set_cons_zero, List.set_cons_succ, Bool.not_true, Bool.not_false, reduceIte, Nat.reduceEqDiff, Nat.reduceAdd, Nat.reduceLT, blt_lit, beq_lit, Bool.or_true, Bool.true_or, Bool.or_false, Bool.false_or, Bool.and_true, Bool.true_and, Bool.and_self, cond_true, cond_false, List.append_nil, Iv.eta, Option.map_none, idxO_l0, idxO_l1, decide_true, decide_false, reqs_true, Int.zero_sub, wrap_lit, wrapu_lit, Int.reduceLE, Int.reduceLT, Int.reduceAdd, Int.reduceSub, Int.reduceMul, Int.reduceNeg, Int.reduceEq, Option.bind_some, bin_shr_u64, bin_shl_u64, bin_shr_i64, bin_shl_i64, and_m32', Int.reduceToNat, Int.reducePow, Int.reduceMod, Int.reduceDiv, wrap_u64s, true_or, or_true, true_and, and_true, Option.isSome_none, Option.isSome_some, Nat.reduceLeDiff, Nat.reduceMul, Int.toNat_natCast, Int.cast_ofNat_Int, Int.natCast_zero, Int.natCast_one, List.isEmpty_nil, List.isEmpty_cons, List.replicate_zero, List.replicate_succ, T1, T2, T3, T4, T5, T6, T9, T10, T11, T12, T21, T22, T23, T24, T25, T26, T27, T28, T29, T30, T31, T32, T33, T34, T35, T36, T37, T38, T39, T40, T41, T43, T44, T45, T46, T47, T48, T49, T50, T51, T53, T54, T55, T56, T57, T58, T59, T61, T63, T65, T67, T68, T70, T72, T73, T74, T75, T76, T77, T78, T81, T83, T89, T90, T91, T92, T93, T95, T96, e2]
    repeat' (first | with_reducible refine cnd_split (fun hc => ?_) (fun hc => ?_) | with_reducible refine Reqs.mk ?_ ?_)
    all_goals (try simp only [decide_eq_true_eq, decide_eq_false_iff_not] at *)
    all_goals first
      | trivial
      | (refine ⟨?_, ?_⟩ <;> omega)
      | (refine endS_v (t := (oddI atanhP n)) hr ?_; rw [oddI, if_pos (by assumption)]; done)
      | (refine endS_v (t := (oddI atanhP n)) hr ?_; rw [oddI, if_neg (by omega)]; done)
  · cases hF

-- impl.monotonic Atanh
def F_monoAtanh : FT
  | [.agg [.int .i64 x1, .int .i64 x2], .c (.clo 64 [.giv 0])], [.fn 26] => some (True, .v (.agg [.int .i64 ((monoI (oddI atanhP) (Iv.mk x1 x2))).lo, .int .i64 ((monoI (oddI atanhP) (Iv.mk x1 x2))).hi]), [])
  | _, _ => none
theorem F_monoAtanh_eq {x1 : Int} {x2 : Int} : F_monoAtanh [.agg [.int .i64 x1, .int .i64 x2], .c (.clo 64 [.giv 0])] [.fn 26] = some (True, .v (.agg [.int .i64 ((monoI (oddI atanhP) (Iv.mk x1 x2))).lo, .int .i64 ((monoI (oddI atanhP) (Iv.mk x1 x2))).hi]), []) := rfl
theorem impl_monotonic_monoAtanh_ok : Fn Tryz.prog 24 F_monoAtanh := by
  refine fn_of_go (O := orc [⟨27, F_whole, .inl impl_Whole_whole_ok⟩, ⟨61, F_notOk, .inl impl_IsWhole_notOk_ok⟩, ⟨62, F_areOk, .inl impl_areBounded_areOk_ok⟩, ⟨63, F_bounded, .inl impl_bounded_bounded_ok⟩, ⟨64, F_oddCAtanh, .inl impl_odd_1_oddCAtanh_ok⟩]) mixed T_ok (orc_sound _) Tryz.func24 (by kernel_rfl) rfl Tryz.ntmps24 (by kernel_rfl) Tryz.results24 ?_
  intro args g pre r new hF hpre
  unfold F_monoAtanh at hF
  split at hF
  · rename_i x1 x2
    simp only [Option.some.injEq, Prod.mk.injEq] at hF
    obtain ⟨rfl, hr, rfl⟩ := hF
    refine ⟨by simp, ?_⟩
    simp (config := { maxSteps := 4000000, implicitDefEqProofs := false }) only [F_areOk_eq, F_bounded_eq, F_notOk_eq, F_oddCAtanh_eq, F_whole_eq, WK0, WK1, WK2, WK3, WK4, WK5, WK6, WK7, WK8, WK9, WK10, WK11, WK12, WK13, WK14, WK15, WK16, WK17, WK18, WK19, WK20, WK21, WK22, WK23, look_hit, look_miss, List.map_cons, List.map_nil, Nat.add_zero, max_v, min_v, ↓cnd_t, ↓cnd_f, startEnv, Option.map_some, List.length_nil, List.length_cons, List.nil_append, List.cons_append, List.getElem?_cons_zero, List.getElem?_cons_succ, List.set_cons_zero, List.set_cons_succ, Bool.not_true, Bool.not_false, reduceIte, Nat.reduceEqDiff, Nat.reduceAdd, Nat.reduceLT, blt_lit, beq_lit, Bool.or_true, Bool.true_or, Bool.or_false, Bool.false_or, Bool.and_true, Bool.true_and, Bool.and_self, cond_true, cond_false, List.append_nil, Iv.eta, Option.map_none, idxO_l0, idxO_l1, decide_true, decide_false, reqs_true, Int.zero_sub, wrap_lit, wrapu_lit, Int.reduceLE, Int.reduceLT, Int.reduceAdd, Int.reduceSub, Int.reduceMul, Int.reduceNeg, Int.reduceEq, Option.bind_some, bin_shr_u64, bin_shl_u64, bin_shr_i64, bin_shl_i64, and_m32', Int.reduceToNat, Int.reducePow, Int.reduceMod, Int.reduceDiv, wrap_u64s, true_or, or_true, true_and, and_true, Option.isSome_none, Option.isSome_some, Nat.reduceLeDiff, Nat.reduceMul, Int.toNat_natCast, Int.cast_ofNat_Int, Int.natCast_zero, Int.natCast_one, List.isEmpty_nil, List.isEmpty_cons, List.replicate_zero, List.replicate_succ, T1, T2, T3, T4, T5, T6, T9, T10, T11, T12, T21, T22, T23, T24, T25, T26, T27, T28, T29, T30, T31, T32, T33, T34, T35, T36, T37, T38, T39, T40, T41, T43, T44, T45, T46, T47, T48, T49, T50, T51, T53, T54, T55, T56, T57, T58, T59, T61, T63, T65, T67, T68, T70, T72, T73, T74, T75, T76, T77, T78, T81, T83, T89, T90, T91, T92, T93, T95, T96]
    repeat' (first | with_reducible refine cnd_split (fun hc => ?_) (fun hc => ?_) | with_reducible refine Reqs.mk ?_ ?_)
    all_goals first
      | trivial
      | (have hk := okI_mk.1 (by assumption : okI ⟨x1, x2⟩ = true); omega)
      | (refine endS_v (t := (monoI (oddI atanhP) (Iv.mk x1 x2))) hr ?_; rw [mono_no (by assumption)]; done)
      | (refine endS_v (t := (monoI (oddI atanhP) (Iv.mk x1 x2))) hr ?_; rw [mono_ok (by assumption), endsI]; simp_all; done)
  · cases hF

-- def AtanhI
def atanhIF (x : Iv) : Iv := monoI (oddI atanhP) x
def F_atanhI : FT
  | [.agg [.int .i64 x1, .int .i64 x2]], _ => some (True, .v (.agg [.int .i64 ((atanhIF (Iv.mk x1 x2))).lo, .int .i64 ((atanhIF (Iv.mk x1 x2))).hi]), [])
  | _, _ => none
theorem F_atanhI_eq {x1 : Int} {x2 : Int} {g : List PC} : F_atanhI [.agg [.int .i64 x1, .int .i64 x2]] g = some (True, .v (.agg [.int .i64 ((atanhIF (Iv.mk x1 x2))).lo, .int .i64 ((atanhIF (Iv.mk x1 x2))).hi]), []) := rfl

-- impl.AtanhI
theorem impl_AtanhI_atanhI_ok : Fn Tryz.prog 10 F_atanhI := by
  refine fn_of_go (O := orc [⟨24, F_monoAtanh, .inl impl_monotonic_monoAtanh_ok⟩, ⟨25, F_closeAtanh, .inl impl_odd_closeAtanh_ok⟩]) mixed T_ok (orc_sound _) Tryz.func10 (by kernel_rfl) rfl Tryz.ntmps10 (by kernel_rfl) Tryz.results10 ?_
  intro args g pre r new hF hpre
  unfold F_atanhI at hF
  split at hF
  · rename_i x1 x2
    simp only [Option.some.injEq, Prod.mk.injEq] at hF
    obtain ⟨rfl, hr, rfl⟩ := hF
    refine ⟨by simp, ?_⟩
    simp (config := { maxSteps := 4000000, implicitDefEqProofs := false }) only [F_closeAtanh_eq, F_monoAtanh_eq, WK0, WK1, WK2, WK3, WK4, WK5, WK6, WK7, WK8, WK9, WK10, WK11, WK12, WK13, WK14, WK15, WK16, WK17, WK18, WK19, WK20, WK21, WK22, WK23, look_hit, look_miss, List.map_cons, List.map_nil, Nat.add_zero, max_v, min_v, ↓cnd_t, ↓cnd_f, startEnv, Option.map_some, List.length_nil, List.length_cons, List.nil_append, List.cons_append, List.getElem?_cons_zero, List.getElem?_cons_succ, List.set_cons_zero, List.set_cons_succ, Bool.not_true, Bool.not_false, reduceIte, Nat.reduceEqDiff, Nat.reduceAdd, Nat.reduceLT, blt_lit, beq_lit, Bool.or_true, Bool.true_or, Bool.or_false, Bool.false_or, Bool.and_true, Bool.true_and, Bool.and_self, cond_true, cond_false, List.append_nil, Iv.eta, Option.map_none, idxO_l0, idxO_l1, decide_true, decide_false, reqs_true, Int.zero_sub, wrap_lit, wrapu_lit, Int.reduceLE, Int.reduceLT, Int.reduceAdd, Int.reduceSub, Int.reduceMul, Int.reduceNeg, Int.reduceEq, Option.bind_some, bin_shr_u64, bin_shl_u64, bin_shr_i64, bin_shl_i64, and_m32', Int.reduceToNat, Int.reducePow, Int.reduceMod, Int.reduceDiv, wrap_u64s, true_or, or_true, true_and, and_true, Option.isSome_none, Option.isSome_some, Nat.reduceLeDiff, Nat.reduceMul, Int.toNat_natCast, Int.cast_ofNat_Int, Int.natCast_zero, Int.natCast_one, List.isEmpty_nil, List.isEmpty_cons, List.replicate_zero, List.replicate_succ, T1, T2, T3, T4, T5, T6, T9, T10, T11, T12, T21, T22, T23, T24, T25, T26, T27, T28, T29, T30, T31, T32, T33, T34, T35, T36, T37, T38, T39, T40, T41, T43, T44, T45, T46, T47, T48, T49, T50, T51, T53, T54, T55, T56, T57, T58, T59, T61, T63, T65, T67, T68, T70, T72, T73, T74, T75, T76, T77, T78, T81, T83, T89, T90, T91, T92, T93, T95, T96]
    repeat' (first | with_reducible refine cnd_split (fun hc => ?_) (fun hc => ?_) | with_reducible refine Reqs.mk ?_ ?_)
    all_goals first | trivial | exact endS_v (t := (atanhIF (Iv.mk x1 x2))) hr rfl
  · cases hF

-- spec.AtanhI
theorem spec_AtanhI_atanhI_ok : Fn Tryz.prog 8 F_atanhI := by
  refine fn_of_go (O := orc [⟨20, F_okI, .inl spec_l04Ok_okI_ok⟩, ⟨21, F_whole, .inl spec_l04Whole_whole_ok⟩, ⟨22, F_endsI, .inl spec_l08Ends_endsI_ok⟩, ⟨23, F_oddAtanh, .inl spec_l08Atanh_oddAtanh_ok⟩]) mixed T_ok (orc_sound _) Tryz.func8 (by kernel_rfl) rfl Tryz.ntmps8 (by kernel_rfl) Tryz.results8 ?_
  intro args g pre r new hF hpre
  unfold F_atanhI at hF
  split at hF
  · rename_i x1 x2
    simp only [Option.some.injEq, Prod.mk.injEq] at hF
    obtain ⟨rfl, hr, rfl⟩ := hF
    refine ⟨by simp, ?_⟩
    simp (config := { maxSteps := 4000000, implicitDefEqProofs := false }) only [F_endsI_eq, F_oddAtanh_eq, F_okI_eq, F_whole_eq, WK0, WK1, WK2, WK3, WK4, WK5, WK6, WK7, WK8, WK9, WK10, WK11, WK12, WK13, WK14, WK15, WK16, WK17, WK18, WK19, WK20, WK21, WK22, WK23, look_hit, look_miss, List.map_cons, List.map_nil, Nat.add_zero, max_v, min_v, ↓cnd_t, ↓cnd_f, startEnv, Option.map_some, List.length_nil, List.length_cons, List.nil_append, List.cons_append, List.getElem?_cons_zero, List.getElem?_cons_succ, List.set_cons_zero, List.set_cons_succ, Bool.not_true, Bool.not_false, reduceIte, Nat.reduceEqDiff, Nat.reduceAdd, Nat.reduceLT, blt_lit, beq_lit, Bool.or_true, Bool.true_or, Bool.or_false, Bool.false_or, Bool.and_true, Bool.true_and, Bool.and_self, cond_true, cond_false, List.append_nil, Iv.eta, Option.map_none, idxO_l0, idxO_l1, decide_true, decide_false, reqs_true, Int.zero_sub, wrap_lit, wrapu_lit, Int.reduceLE, Int.reduceLT, Int.reduceAdd, Int.reduceSub, Int.reduceMul, Int.reduceNeg, Int.reduceEq, Option.bind_some, bin_shr_u64, bin_shl_u64, bin_shr_i64, bin_shl_i64, and_m32', Int.reduceToNat, Int.reducePow, Int.reduceMod, Int.reduceDiv, wrap_u64s, true_or, or_true, true_and, and_true, Option.isSome_none, Option.isSome_some, Nat.reduceLeDiff, Nat.reduceMul, Int.toNat_natCast, Int.cast_ofNat_Int, Int.natCast_zero, Int.natCast_one, List.isEmpty_nil, List.isEmpty_cons, List.replicate_zero, List.replicate_succ, T1, T2, T3, T4, T5, T6, T9, T10, T11, T12, T21, T22, T23, T24, T25, T26, T27, T28, T29, T30, T31, T32, T33, T34, T35, T36, T37, T38, T39, T40, T41, T43, T44, T45, T46, T47, T48, T49, T50, T51, T53, T54, T55, T56, T57, T58, T59, T61, T63, T65, T67, T68, T70, T72, T73, T74, T75, T76, T77, T78, T81, T83, T89, T90, T91, T92, T93, T95, T96]
    repeat' (first | with_reducible refine cnd_split (fun hc => ?_) (fun hc => ?_) | with_reducible refine Reqs.mk ?_ ?_)
    all_goals first
      | trivial
      | (have hk := okI_mk.1 (by assumption : okI ⟨x1, x2⟩ = true); omega)
      | (refine endS_v (t := (atanhIF (Iv.mk x1 x2))) hr ?_; rw [atanhIF, mono_no (by first | assumption | exact abs_no (by assumption))]; done)
      | (refine endS_v (t := (atanhIF (Iv.mk x1 x2))) hr ?_; rw [atanhIF]; first | (rw [mono_ok (by assumption)]; done) | (rw [monoI, if_pos h9.1, endsI]; done))
  · cases hF

end Go.Proofs.YtmkpilmlgjnadaaGreat.Eng
