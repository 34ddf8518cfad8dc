/- What functions of the program compute, and that the program computes it: part 21. -/
import Derived.Test.YtmkpilmlgjnadaaTab
import Derived.Test.YtmkpilmlgjnadaaEng16
import Derived.Laws.BitsLemmas
import Derived.Laws.Bits64
import Derived.Laws.Bits64b
import Derived.Lib.Mul64
import Derived.Lib.BitFns
import Derived.Laws.Externs
import Derived.Test.YtmkpilmlgjnadaaL1
import Derived.Test.YtmkpilmlgjnadaaL2
import Derived.Test.YtmkpilmlgjnadaaL3
import Derived.Test.YtmkpilmlgjnadaaL11
import Derived.Test.YtmkpilmlgjnadaaL14
import Derived.Test.YtmkpilmlgjnadaaL15
import Derived.Test.YtmkpilmlgjnadaaL16
import Derived.Test.YtmkpilmlgjnadaaL20
namespace Go.Proofs.Ytmkpilmlgjnadaa.Eng
open Go Go.RowKit
set_option linter.unusedVariables false
set_option linter.unusedSimpArgs false
set_option maxRecDepth 100000
set_option maxHeartbeats 1000000
-- impl.TanhI$1
def F_tanhP : FT
  | [.c (.p (.int .i64 n))], _ => some (0 ≤ n ∧ n < 1152921504606846976, .v (.agg [.int .i64 ((tanhP n)).lo, .int .i64 ((tanhP n)).hi]), [])
  | _, _ => none
theorem F_tanhP_eq {n : Int} {g : List PC} : F_tanhP [.c (.p (.int .i64 n))] g = some (0 ≤ n ∧ n < 1152921504606846976, .v (.agg [.int .i64 ((tanhP n)).lo, .int .i64 ((tanhP n)).hi]), []) := rfl
theorem impl_TanhI_1_tanhP_ok : Fn Try.prog 61 F_tanhP := by
  refine fn_of_go (O := orc [⟨11, F_expA, .inl impl_ExpAt_expA_ok⟩, ⟨40, F_subI, .inl impl_SubI_subI_ok⟩, ⟨43, F_intI, .inl impl_Integer_intI_ok⟩, ⟨44, F_addI, .inl impl_AddI_addI_ok⟩, ⟨45, F_divI, .inl impl_DivI_divI_ok⟩]) mixed T_ok (orc_sound _) Try.func61 (by kernel_rfl) rfl Try.ntmps61 (by kernel_rfl) Try.results61 ?_
  intro args g pre r new hF hpre
  unfold F_tanhP at hF
  split at hF
  · rename_i n
    simp only [Option.some.injEq, Prod.mk.injEq] at hF
    obtain ⟨rfl, hr, rfl⟩ := hF
    refine ⟨by simp, ?_⟩
    have e1 : IntKind.i64.wrap (-2 * n) = -2 * n := wrap_om (by omega) (by omega)
    simp (config := { maxSteps := 4000000, implicitDefEqProofs := false }) only [F_addI_eq, F_divI_eq, F_expA_eq, F_intI_eq, F_subI_eq, WK0, WK1, WK2, WK3, WK4, WK5, WK6, WK7, WK8, WK9, WK10, WK11, WK12, WK13, WK14, WK15, WK16, WK17, WK18, WK19, WK20, WK21, WK22, WK23, look_hit, look_miss, List.map_cons, List.map_nil, Nat.add_zero, max_v, min_v, ↓cnd_t, ↓cnd_f, startEnv, Option.map_some, List.length_nil, List.length_cons, List.nil_append, List.cons_append, List.getElem?_cons_zero, List.getElem?_cons_succ, List.set_cons_zero, List.set_cons_succ, Bool.not_true, Bool.not_false, reduceIte, Nat.reduceEqDiff, Nat.reduceAdd, Nat.reduceLT, blt_lit, beq_lit, Bool.or_true, Bool.true_or, Bool.or_false, Bool.false_or, Bool.and_true, Bool.true_and, Bool.and_self, cond_true, cond_false, List.append_nil, Iv.eta, Option.map_none, idxO_l0, idxO_l1, decide_true, decide_false, reqs_true, Int.zero_sub, wrap_lit, wrapu_lit, Int.reduceLE, Int.reduceLT, Int.reduceAdd, Int.reduceSub, Int.reduceMul, Int.reduceNeg, Int.reduceEq, Option.bind_some, bin_shr_u64, bin_shl_u64, bin_shr_i64, bin_shl_i64, and_m32', Int.reduceToNat, Int.reducePow, Int.reduceMod, Int.reduceDiv, wrap_u64s, true_or, or_true, true_and, and_true, Option.isSome_none, Option.isSome_some, Nat.reduceLeDiff, Nat.reduceMul, Int.toNat_natCast, Int.cast_ofNat_Int, Int.natCast_zero, Int.natCast_one, List.isEmpty_nil, List.isEmpty_cons, List.replicate_zero, List.replicate_succ, T1, T2, T3, T4, T5, T6, T9, T10, T11, T12, T21, T22, T23, T24, T25, T26, T27, T28, T29, T30, T31, T32, T33, T34, T35, T36, T37, T38, T39, T40, T42, T43, T44, T45, T46, T47, T48, T50, T51, T52, T53, T54, T55, T56, T57, T58, T59, T61, T62, T63, T65, T67, T69, T70, T71, T72, T75, T77, T83, T84, T85, T86, T87, T89, T90, e1]
    repeat' (first | with_reducible refine cnd_split (fun hc => ?_) (fun hc => ?_) | with_reducible refine Reqs.mk ?_ ?_)
    all_goals (try simp only [decide_eq_true_eq, decide_eq_false_iff_not] at *)
    all_goals first
      | trivial
      | (exfalso; omega)
      | (refine endS_v (t := (tanhP n)) hr ?_; rw [tanhP, if_pos (by assumption)]; first | done | rfl)
      | (refine endS_v (t := (tanhP n)) hr ?_; rw [tanhP, if_neg (by assumption)]; first | done | rfl)
      | (unfold inR; omega)
      | (refine endS_v (t := (tanhP n)) hr ?_
         have hlt : ¬ 4294967296 ≤ n := by assumption
         rw [atanhP, if_neg hlt]
         have z1 : IntKind.i64.wrap (4294967296 + n) = 4294967296 + n := wrap_om (by omega) (by omega)
         have z2 : IntKind.i64.wrap (4294967296 - n) = 4294967296 - n := wrap_om (by omega) (by omega)
         have z3 := at_mk (n := 4294967296 + n) (by omega)
         have z4 := at_mk (n := 4294967296 - n) (by omega)
         simp only [z1, z2, z3, z4]
         try rfl)
  · cases hF

-- spec.l08Tanh
theorem spec_l08Tanh_tanhP_ok : Fn Try.prog 59 F_tanhP := by
  refine fn_of_go (O := orc [⟨10, F_expA, .inl spec_ExpAt_expA_ok⟩, ⟨28, F_subI, .inl spec_SubI_subI_ok⟩, ⟨31, F_oneI, .inl spec_l08One_oneI_ok⟩, ⟨32, F_addI, .inl spec_AddI_addI_ok⟩, ⟨33, F_divI, .inl spec_DivI_divI_ok⟩, ⟨69, F_negI, .inl spec_NegI_negI_ok⟩]) mixed T_ok (orc_sound _) Try.func59 (by kernel_rfl) rfl Try.ntmps59 (by kernel_rfl) Try.results59 ?_
  intro args g pre r new hF hpre
  unfold F_tanhP at hF
  split at hF
  · rename_i n
    simp only [Option.some.injEq, Prod.mk.injEq] at hF
    obtain ⟨rfl, hr, rfl⟩ := hF
    refine ⟨by simp, ?_⟩
    have e1 : IntKind.i64.wrap (-2 * n) = -2 * n := wrap_om (by omega) (by omega)
    simp (config := { maxSteps := 4000000, implicitDefEqProofs := false }) only [F_addI_eq, F_divI_eq, F_expA_eq, F_negI_eq, F_oneI_eq, F_subI_eq, WK0, WK1, WK2, WK3, WK4, WK5, WK6, WK7, WK8, WK9, WK10, WK11, WK12, WK13, WK14, WK15, WK16, WK17, WK18, WK19, WK20, WK21, WK22, WK23, look_hit, look_miss, List.map_cons, List.map_nil, Nat.add_zero, max_v, min_v, ↓cnd_t, ↓cnd_f, startEnv, Option.map_some, List.length_nil, List.length_cons, List.nil_append, List.cons_append, List.getElem?_cons_zero, List.getElem?_cons_succ, List.set_cons_zero, List.set_cons_succ, Bool.not_true, Bool.not_false, reduceIte, Nat.reduceEqDiff, Nat.reduceAdd, Nat.reduceLT, blt_lit, beq_lit, Bool.or_true, Bool.true_or, Bool.or_false, Bool.false_or, Bool.and_true, Bool.true_and, Bool.and_self, cond_true, cond_false, List.append_nil, Iv.eta, Option.map_none, idxO_l0, idxO_l1, decide_true, decide_false, reqs_true, Int.zero_sub, wrap_lit, wrapu_lit, Int.reduceLE, Int.reduceLT, Int.reduceAdd, Int.reduceSub, Int.reduceMul, Int.reduceNeg, Int.reduceEq, Option.bind_some, bin_shr_u64, bin_shl_u64, bin_shr_i64, bin_shl_i64, and_m32', Int.reduceToNat, Int.reducePow, Int.reduceMod, Int.reduceDiv, wrap_u64s, true_or, or_true, true_and, and_true, Option.isSome_none, Option.isSome_some, Nat.reduceLeDiff, Nat.reduceMul, Int.toNat_natCast, Int.cast_ofNat_Int, Int.natCast_zero, Int.natCast_one, List.isEmpty_nil, List.isEmpty_cons, List.replicate_zero, List.replicate_succ, T1, T2, T3, T4, T5, T6, T9, T10, T11, T12, T21, T22, T23, T24, T25, T26, T27, T28, T29, T30, T31, T32, T33, T34, T35, T36, T37, T38, T39, T40, T42, T43, T44, T45, T46, T47, T48, T50, T51, T52, T53, T54, T55, T56, T57, T58, T59, T61, T62, T63, T65, T67, T69, T70, T71, T72, T75, T77, T83, T84, T85, T86, T87, T89, T90, e1]
    repeat' (first | with_reducible refine cnd_split (fun hc => ?_) (fun hc => ?_) | with_reducible refine Reqs.mk ?_ ?_)
    all_goals (try simp only [decide_eq_true_eq, decide_eq_false_iff_not] at *)
    all_goals first
      | trivial
      | (exfalso; omega)
      | (refine endS_v (t := (tanhP n)) hr ?_; rw [tanhP, if_pos (by assumption)]; first | done | rfl)
      | (refine endS_v (t := (tanhP n)) hr ?_; rw [tanhP, if_neg (by assumption)]; first | done | rfl)
      | (unfold inR; omega)
      | (refine endS_v (t := (tanhP n)) hr ?_
         have hlt : ¬ 4294967296 ≤ n := by assumption
         rw [atanhP, if_neg hlt]
         have z1 : IntKind.i64.wrap (4294967296 + n) = 4294967296 + n := wrap_om (by omega) (by omega)
         have z2 : IntKind.i64.wrap (4294967296 - n) = 4294967296 - n := wrap_om (by omega) (by omega)
         have z3 := at_mk (n := 4294967296 + n) (by omega)
         have z4 := at_mk (n := 4294967296 - n) (by omega)
         simp only [z1, z2, z3, z4]
         try rfl)
  · cases hF

-- spec.l08Tanh2
def F_oddTanh : FT
  | [.c (.p (.int .i64 n))], _ => some (-1152921504606846976 < n ∧ n < 1152921504606846976, .v (.agg [.int .i64 ((oddI tanhP n)).lo, .int .i64 ((oddI tanhP n)).hi]), [])
  | _, _ => none
theorem F_oddTanh_eq {n : Int} {g : List PC} : F_oddTanh [.c (.p (.int .i64 n))] g = some (-1152921504606846976 < n ∧ n < 1152921504606846976, .v (.agg [.int .i64 ((oddI tanhP n)).lo, .int .i64 ((oddI tanhP n)).hi]), []) := rfl
theorem spec_l08Tanh_oddTanh_ok : Fn Try.prog 59 F_oddTanh := by
  refine fn_of_go (O := orc [⟨10, F_expA, .inl spec_ExpAt_expA_ok⟩, ⟨28, F_subI, .inl spec_SubI_subI_ok⟩, ⟨31, F_oneI, .inl spec_l08One_oneI_ok⟩, ⟨32, F_addI, .inl spec_AddI_addI_ok⟩, ⟨33, F_divI, .inl spec_DivI_divI_ok⟩, ⟨59, F_tanhP, .inl spec_l08Tanh_tanhP_ok⟩, ⟨69, F_negI, .inl spec_NegI_negI_ok⟩]) mixed T_ok (orc_sound _) Try.func59 (by kernel_rfl) rfl Try.ntmps59 (by kernel_rfl) Try.results59 ?_
  intro args g pre r new hF hpre
  unfold F_oddTanh at hF
  split at hF
  · rename_i n
    simp only [Option.some.injEq, Prod.mk.injEq] at hF
    obtain ⟨rfl, hr, rfl⟩ := hF
    refine ⟨by simp, ?_⟩
    have e1 := at_mk (n := n) (by omega)
    have e2 : IntKind.i64.wrap (-n) = -n := wrap_om (by omega) (by omega)
    have e3 : IntKind.i64.wrap (-2 * n) = -2 * n := wrap_om (by omega) (by omega)
    simp (config := { maxSteps := 4000000, implicitDefEqProofs := false }) only [F_addI_eq, F_divI_eq, F_expA_eq, F_negI_eq, F_oneI_eq, F_subI_eq, F_tanhP_eq, WK0, WK1, WK2, WK3, WK4, WK5, WK6, WK7, WK8, WK9, WK10, WK11, WK12, WK13, WK14, WK15, WK16, WK17, WK18, WK19, WK20, WK21, WK22, WK23, look_hit, look_miss, List.map_cons, List.map_nil, Nat.add_zero, max_v, min_v, ↓cnd_t, ↓cnd_f, startEnv, Option.map_some, List.length_nil, List.length_cons, List.nil_append, List.cons_append, List.getElem?_cons_zero, List.getElem?_cons_succ, List.set_cons_zero, List.set_cons_succ, Bool.not_true, Bool.not_false, reduceIte, Nat.reduceEqDiff, Nat.reduceAdd, Nat.reduceLT, blt_lit, beq_lit, Bool.or_true, Bool.true_or, Bool.or_false, Bool.false_or, Bool.and_true, Bool.true_and, Bool.and_self, cond_true, cond_false, List.append_nil, Iv.eta, Option.map_none, idxO_l0, idxO_l1, decide_true, decide_false, reqs_true, Int.zero_sub, wrap_lit, wrapu_lit, Int.reduceLE, Int.reduceLT, Int.reduceAdd, Int.reduceSub, Int.reduceMul, Int.reduceNeg, Int.reduceEq, Option.bind_some, bin_shr_u64, bin_shl_u64, bin_shr_i64, bin_shl_i64, and_m32', Int.reduceToNat, Int.reducePow, Int.reduceMod, Int.reduceDiv, wrap_u64s, true_or, or_true, true_and, and_true, Option.isSome_none, Option.isSome_some, Nat.reduceLeDiff, Nat.reduceMul, Int.toNat_natCast, Int.cast_ofNat_Int, Int.natCast_zero, Int.natCast_one, List.isEmpty_nil, List.isEmpty_cons, List.replicate_zero, List.replicate_succ, T1, T2, T3, T4, T5, T6, T9, T10, T11, T12, T21, T22, T23, T24, T25, T26, T27, T28, T29, T30, T31, T32, T33, T34, T35, T36, T37, T38, T39, T40, T42, T43, T44, T45, T46, T47, T48, T50, T51, T52, T53, T54, T55, T56, T57, T58, T59, T61, T62, T63, T65, T67, T69, T70, T71, T72, T75, T77, T83, T84, T85, T86, T87, T89, T90, e3, e2]
    repeat' (first | with_reducible refine cnd_split (fun hc => ?_) (fun hc => ?_) | with_reducible refine Reqs.mk ?_ ?_)
    all_goals (try simp only [decide_eq_true_eq, decide_eq_false_iff_not] at *)
    all_goals first
      | trivial
      | (refine ⟨?_, ?_⟩ <;> omega)
      | (refine endS_v (t := (oddI tanhP n)) hr ?_; rw [oddI, if_pos (by assumption)]; done)
      | (refine endS_v (t := (oddI tanhP n)) hr ?_; rw [oddI, if_neg (by omega), tanhP, if_pos (by assumption)]; first | done | rfl)
      | (refine endS_v (t := (oddI tanhP n)) hr ?_; rw [oddI, if_neg (by omega), tanhP, if_neg (by assumption)]; first | done | rfl)
      | (refine endS_v (t := (oddI tanhP n)) hr ?_
         have hlt : ¬ 4294967296 ≤ n := by assumption
         rw [oddI, if_neg (by omega), atanhP, if_neg hlt]
         have z1 : IntKind.i64.wrap (4294967296 + n) = 4294967296 + n := wrap_om (by omega) (by omega)
         have z2 : IntKind.i64.wrap (4294967296 - n) = 4294967296 - n := wrap_om (by omega) (by omega)
         have z3 := at_mk (n := 4294967296 + n) (by omega)
         have z4 := at_mk (n := 4294967296 - n) (by omega)
         simp only [z1, z2, z3, z4]
         try rfl)
  · cases hF

-- impl.odd Tanh
def F_closeTanh : FT
  | [.c (.p (.fn 61))], _ => some (True, .v (.c (.clo 95 [.own 0 0])), [[.fn 61]])
  | _, _ => none
theorem F_closeTanh_eq {g : List PC} : F_closeTanh [.c (.p (.fn 61))] g = some (True, .v (.c (.clo 95 [.own 0 0])), [[.fn 61]]) := rfl
theorem impl_odd_closeTanh_ok : Fn Try.prog 60 F_closeTanh := by
  refine fn_of_go (O := orc []) mixed T_ok (orc_sound _) Try.func60 (by kernel_rfl) rfl Try.ntmps60 (by kernel_rfl) Try.results60 ?_
  intro args g pre r new hF hpre
  unfold F_closeTanh at hF
  split at hF
  · skip
    simp only [Option.some.injEq, Prod.mk.injEq] at hF
    obtain ⟨rfl, hr, rfl⟩ := hF
    refine ⟨by simp, ?_⟩
    simp (config := { maxSteps := 4000000, implicitDefEqProofs := false }) only [WK0, WK1, WK2, WK3, WK4, WK5, WK6, WK7, WK8, WK9, WK10, WK11, WK12, WK13, WK14, WK15, WK16, WK17, WK18, WK19, WK20, WK21, WK22, WK23, look_hit, look_miss, List.map_cons, List.map_nil, Nat.add_zero, max_v, min_v, ↓cnd_t, ↓cnd_f, startEnv, Option.map_some, List.length_nil, List.length_cons, List.nil_append, List.cons_append, List.getElem?_cons_zero, List.getElem?_cons_succ, List.set_cons_zero, List.set_cons_succ, Bool.not_true, Bool.not_false, reduceIte, Nat.reduceEqDiff, Nat.reduceAdd, Nat.reduceLT, blt_lit, beq_lit, Bool.or_true, Bool.true_or, Bool.or_false, Bool.false_or, Bool.and_true, Bool.true_and, Bool.and_self, cond_true, cond_false, List.append_nil, Iv.eta, Option.map_none, idxO_l0, idxO_l1, decide_true, decide_false, reqs_true, Int.zero_sub, wrap_lit, wrapu_lit, Int.reduceLE, Int.reduceLT, Int.reduceAdd, Int.reduceSub, Int.reduceMul, Int.reduceNeg, Int.reduceEq, Option.bind_some, bin_shr_u64, bin_shl_u64, bin_shr_i64, bin_shl_i64, and_m32', Int.reduceToNat, Int.reducePow, Int.reduceMod, Int.reduceDiv, wrap_u64s, true_or, or_true, true_and, and_true, Option.isSome_none, Option.isSome_some, Nat.reduceLeDiff, Nat.reduceMul, Int.toNat_natCast, Int.cast_ofNat_Int, Int.natCast_zero, Int.natCast_one, List.isEmpty_nil, List.isEmpty_cons, List.replicate_zero, List.replicate_succ, T1, T2, T3, T4, T5, T6, T9, T10, T11, T12, T21, T22, T23, T24, T25, T26, T27, T28, T29, T30, T31, T32, T33, T34, T35, T36, T37, T38, T39, T40, T42, T43, T44, T45, T46, T47, T48, T50, T51, T52, T53, T54, T55, T56, T57, T58, T59, T61, T62, T63, T65, T67, T69, T70, T71, T72, T75, T77, T83, T84, T85, T86, T87, T89, T90]
    exact (by subst hr; exact ⟨rfl, by simp [SV.res, AV.res, Cl.res, Pt.res, full], rfl⟩)
  · cases hF

-- impl.odd$1 Tanh
def F_oddCTanh : FT
  | [.c (.p (.int .i64 n)), .c (.ptr (.giv 0))], [.fn 61] => some (-1152921504606846976 < n ∧ n < 1152921504606846976, .v (.agg [.int .i64 ((oddI tanhP n)).lo, .int .i64 ((oddI tanhP n)).hi]), [])
  | _, _ => none
theorem F_oddCTanh_eq {n : Int} : F_oddCTanh [.c (.p (.int .i64 n)), .c (.ptr (.giv 0))] [.fn 61] = some (-1152921504606846976 < n ∧ n < 1152921504606846976, .v (.agg [.int .i64 ((oddI tanhP n)).lo, .int .i64 ((oddI tanhP n)).hi]), []) := rfl
theorem impl_odd_1_oddCTanh_ok : Fn Try.prog 95 F_oddCTanh := by
  refine fn_of_go (O := orc [⟨61, F_tanhP, .inl impl_TanhI_1_tanhP_ok⟩, ⟨79, F_negI, .inl impl_NegI_negI_ok⟩]) mixed T_ok (orc_sound _) Try.func95 (by kernel_rfl) rfl Try.ntmps95 (by kernel_rfl) Try.results95 ?_
  intro args g pre r new hF hpre
  unfold F_oddCTanh at hF
  split at hF
  · rename_i n
    simp only [Option.some.injEq, Prod.mk.injEq] at hF
    obtain ⟨rfl, hr, rfl⟩ := hF
    refine ⟨by simp, ?_⟩
    have e2 : IntKind.i64.wrap (-n) = -n := wrap_om (by omega) (by omega)
    simp (config := { maxSteps := 4000000, implicitDefEqProofs := false }) only [F_negI_eq, F_tanhP_eq, WK0, WK1, WK2, WK3, WK4, WK5, WK6, WK7, WK8, WK9, WK10, WK11, WK12, WK13, WK14, WK15, WK16, WK17, WK18, WK19, WK20, WK21, WK22, WK23, look_hit, look_miss, List.map_cons, List.map_nil, Nat.add_zero, max_v, min_v, ↓cnd_t, ↓cnd_f, startEnv, Option.map_some, List.length_nil, List.length_cons, List.nil_append, List.cons_append, List.getElem?_cons_zero, List.getElem?_cons_succ, List.set_cons_zero, List.set_cons_succ, Bool.not_true, Bool.not_false, reduceIte, Nat.reduceEqDiff, Nat.reduceAdd, Nat.reduceLT, blt_lit, beq_lit, Bool.or_true, Bool.true_or, Bool.or_false, Bool.false_or, Bool.and_true, Bool.true_and, Bool.and_self, cond_true, cond_false, List.append_nil, Iv.eta, Option.map_none, idxO_l0, idxO_l1, decide_true, decide_false, reqs_true, Int.zero_sub, wrap_lit, wrapu_lit, Int.reduceLE, Int.reduceLT, Int.reduceAdd, Int.reduceSub, Int.reduceMul, Int.reduceNeg, Int.reduceEq, Option.bind_some, bin_shr_u64, bin_shl_u64, bin_shr_i64, bin_shl_i64, and_m32', Int.reduceToNat, Int.reducePow, Int.reduceMod, Int.reduceDiv, wrap_u64s, true_or, or_true, true_and, and_true, Option.isSome_none, Option.isSome_some, Nat.reduceLeDiff, Nat.reduceMul, Int.toNat_natCast, Int.cast_ofNat_Int, Int.natCast_zero, Int.natCast_one, List.isEmpty_nil, List.isEmpty_cons, List.replicate_zero, List.replicate_succ, T1, T2, T3, T4, T5, T6, T9, T10, T11, T12, T21, T22, T23, T24, T25, T26, T27, T28, T29, T30, T31, T32, T33, T34, T35, T36, T37, T38, T39, T40, T42, T43, T44, T45, T46, T47, T48, T50, T51, T52, T53, T54, T55, T56, T57, T58, T59, T61, T62, T63, T65, T67, T69, T70, T71, T72, T75, T77, T83, T84, T85, T86, T87, T89, T90, e2]
    repeat' (first | with_reducible refine cnd_split (fun hc => ?_) (fun hc => ?_) | with_reducible refine Reqs.mk ?_ ?_)
    all_goals (try simp only [decide_eq_true_eq, decide_eq_false_iff_not] at *)
    all_goals first
      | trivial
      | (refine ⟨?_, ?_⟩ <;> omega)
      | (refine endS_v (t := (oddI tanhP n)) hr ?_; rw [oddI, if_pos (by assumption)]; done)
      | (refine endS_v (t := (oddI tanhP n)) hr ?_; rw [oddI, if_neg (by omega)]; done)
  · cases hF

-- impl.monotonic Tanh
def F_monoTanh : FT
  | [.agg [.int .i64 x1, .int .i64 x2], .c (.clo 95 [.giv 0])], [.fn 61] => some (True, .v (.agg [.int .i64 ((monoI (oddI tanhP) (Iv.mk x1 x2))).lo, .int .i64 ((monoI (oddI tanhP) (Iv.mk x1 x2))).hi]), [])
  | _, _ => none
theorem F_monoTanh_eq {x1 : Int} {x2 : Int} : F_monoTanh [.agg [.int .i64 x1, .int .i64 x2], .c (.clo 95 [.giv 0])] [.fn 61] = some (True, .v (.agg [.int .i64 ((monoI (oddI tanhP) (Iv.mk x1 x2))).lo, .int .i64 ((monoI (oddI tanhP) (Iv.mk x1 x2))).hi]), []) := rfl
theorem impl_monotonic_monoTanh_ok : Fn Try.prog 51 F_monoTanh := by
  refine fn_of_go (O := orc [⟨39, F_whole, .inl impl_Whole_whole_ok⟩, ⟨81, F_bounded, .inl impl_bounded_bounded_ok⟩, ⟨82, F_areOk, .inl impl_areBounded_areOk_ok⟩, ⟨90, F_notOk, .inl impl_IsWhole_notOk_ok⟩, ⟨95, F_oddCTanh, .inl impl_odd_1_oddCTanh_ok⟩]) mixed T_ok (orc_sound _) Try.func51 (by kernel_rfl) rfl Try.ntmps51 (by kernel_rfl) Try.results51 ?_
  intro args g pre r new hF hpre
  unfold F_monoTanh at hF
  split at hF
  · rename_i x1 x2
    simp only [Option.some.injEq, Prod.mk.injEq] at hF
    obtain ⟨rfl, hr, rfl⟩ := hF
    refine ⟨by simp, ?_⟩
    simp (config := { maxSteps := 4000000, implicitDefEqProofs := false }) only [F_areOk_eq, F_bounded_eq, F_notOk_eq, F_oddCTanh_eq, F_whole_eq, WK0, WK1, WK2, WK3, WK4, WK5, WK6, WK7, WK8, WK9, WK10, WK11, WK12, WK13, WK14, WK15, WK16, WK17, WK18, WK19, WK20, WK21, WK22, WK23, look_hit, look_miss, List.map_cons, List.map_nil, Nat.add_zero, max_v, min_v, ↓cnd_t, ↓cnd_f, startEnv, Option.map_some, List.length_nil, List.length_cons, List.nil_append, List.cons_append, List.getElem?_cons_zero, List.getElem?_cons_succ, List.set_cons_zero, List.set_cons_succ, Bool.not_true, Bool.not_false, reduceIte, Nat.reduceEqDiff, Nat.reduceAdd, Nat.reduceLT, blt_lit, beq_lit, Bool.or_true, Bool.true_or, Bool.or_false, Bool.false_or, Bool.and_true, Bool.true_and, Bool.and_self, cond_true, cond_false, List.append_nil, Iv.eta, Option.map_none, idxO_l0, idxO_l1, decide_true, decide_false, reqs_true, Int.zero_sub, wrap_lit, wrapu_lit, Int.reduceLE, Int.reduceLT, Int.reduceAdd, Int.reduceSub, Int.reduceMul, Int.reduceNeg, Int.reduceEq, Option.bind_some, bin_shr_u64, bin_shl_u64, bin_shr_i64, bin_shl_i64, and_m32', Int.reduceToNat, Int.reducePow, Int.reduceMod, Int.reduceDiv, wrap_u64s, true_or, or_true, true_and, and_true, Option.isSome_none, Option.isSome_some, Nat.reduceLeDiff, Nat.reduceMul, Int.toNat_natCast, Int.cast_ofNat_Int, Int.natCast_zero, Int.natCast_one, List.isEmpty_nil, List.isEmpty_cons, List.replicate_zero, List.replicate_succ, T1, T2, T3, T4, T5, T6, T9, T10, T11, T12, T21, T22, T23, T24, T25, T26, T27, T28, T29, T30, T31, T32, T33, T34, T35, T36, T37, T38, T39, T40, T42, T43, T44, T45, T46, T47, T48, T50, T51, T52, T53, T54, T55, T56, T57, T58, T59, T61, T62, T63, T65, T67, T69, T70, T71, T72, T75, T77, T83, T84, T85, T86, T87, T89, T90]
    repeat' (first | with_reducible refine cnd_split (fun hc => ?_) (fun hc => ?_) | with_reducible refine Reqs.mk ?_ ?_)
    all_goals first
      | trivial
      | (have hk := okI_mk.1 (by assumption : okI ⟨x1, x2⟩ = true); omega)
      | (refine endS_v (t := (monoI (oddI tanhP) (Iv.mk x1 x2))) hr ?_; rw [mono_no (by assumption)]; done)
      | (refine endS_v (t := (monoI (oddI tanhP) (Iv.mk x1 x2))) hr ?_; rw [mono_ok (by assumption), endsI]; simp_all; done)
  · cases hF

-- def TanhI
def tanhIF (x : Iv) : Iv := monoI (oddI tanhP) x
def F_tanhI : FT
  | [.agg [.int .i64 x1, .int .i64 x2]], _ => some (True, .v (.agg [.int .i64 ((tanhIF (Iv.mk x1 x2))).lo, .int .i64 ((tanhIF (Iv.mk x1 x2))).hi]), [])
  | _, _ => none
theorem F_tanhI_eq {x1 : Int} {x2 : Int} {g : List PC} : F_tanhI [.agg [.int .i64 x1, .int .i64 x2]] g = some (True, .v (.agg [.int .i64 ((tanhIF (Iv.mk x1 x2))).lo, .int .i64 ((tanhIF (Iv.mk x1 x2))).hi]), []) := rfl

-- impl.TanhI
theorem impl_TanhI_tanhI_ok : Fn Try.prog 21 F_tanhI := by
  refine fn_of_go (O := orc [⟨51, F_monoTanh, .inl impl_monotonic_monoTanh_ok⟩, ⟨60, F_closeTanh, .inl impl_odd_closeTanh_ok⟩]) mixed T_ok (orc_sound _) Try.func21 (by kernel_rfl) rfl Try.ntmps21 (by kernel_rfl) Try.results21 ?_
  intro args g pre r new hF hpre
  unfold F_tanhI at hF
  split at hF
  · rename_i x1 x2
    simp only [Option.some.injEq, Prod.mk.injEq] at hF
    obtain ⟨rfl, hr, rfl⟩ := hF
    refine ⟨by simp, ?_⟩
    simp (config := { maxSteps := 4000000, implicitDefEqProofs := false }) only [F_closeTanh_eq, F_monoTanh_eq, WK0, WK1, WK2, WK3, WK4, WK5, WK6, WK7, WK8, WK9, WK10, WK11, WK12, WK13, WK14, WK15, WK16, WK17, WK18, WK19, WK20, WK21, WK22, WK23, look_hit, look_miss, List.map_cons, List.map_nil, Nat.add_zero, max_v, min_v, ↓cnd_t, ↓cnd_f, startEnv, Option.map_some, List.length_nil, List.length_cons, List.nil_append, List.cons_append, List.getElem?_cons_zero, List.getElem?_cons_succ, List.set_cons_zero, List.set_cons_succ, Bool.not_true, Bool.not_false, reduceIte, Nat.reduceEqDiff, Nat.reduceAdd, Nat.reduceLT, blt_lit, beq_lit, Bool.or_true, Bool.true_or, Bool.or_false, Bool.false_or, Bool.and_true, Bool.true_and, Bool.and_self, cond_true, cond_false, List.append_nil, Iv.eta, Option.map_none, idxO_l0, idxO_l1, decide_true, decide_false, reqs_true, Int.zero_sub, wrap_lit, wrapu_lit, Int.reduceLE, Int.reduceLT, Int.reduceAdd, Int.reduceSub, Int.reduceMul, Int.reduceNeg, Int.reduceEq, Option.bind_some, bin_shr_u64, bin_shl_u64, bin_shr_i64, bin_shl_i64, and_m32', Int.reduceToNat, Int.reducePow, Int.reduceMod, Int.reduceDiv, wrap_u64s, true_or, or_true, true_and, and_true, Option.isSome_none, Option.isSome_some, Nat.reduceLeDiff, Nat.reduceMul, Int.toNat_natCast, Int.cast_ofNat_Int, Int.natCast_zero, Int.natCast_one, List.isEmpty_nil, List.isEmpty_cons, List.replicate_zero, List.replicate_succ, T1, T2, T3, T4, T5, T6, T9, T10, T11, T12, T21, T22, T23, T24, T25, T26, T27, T28, T29, T30, T31, T32, T33, T34, T35, T36, T37, T38, T39, T40, T42, T43, T44, T45, T46, T47, T48, T50, T51, T52, T53, T54, T55, T56, T57, T58, T59, T61, T62, T63, T65, T67, T69, T70, T71, T72, T75, T77, T83, T84, T85, T86, T87, T89, T90]
    repeat' (first | with_reducible refine cnd_split (fun hc => ?_) (fun hc => ?_) | with_reducible refine Reqs.mk ?_ ?_)
    all_goals first | trivial | exact endS_v (t := (tanhIF (Iv.mk x1 x2))) hr rfl
  · cases hF

-- spec.TanhI
theorem spec_TanhI_tanhI_ok : Fn Try.prog 20 F_tanhI := by
  refine fn_of_go (O := orc [⟨27, F_whole, .inl spec_l04Whole_whole_ok⟩, ⟨49, F_okI, .inl spec_l04Ok_okI_ok⟩, ⟨50, F_endsI, .inl spec_l08Ends_endsI_ok⟩, ⟨59, F_oddTanh, .inl spec_l08Tanh_oddTanh_ok⟩]) mixed T_ok (orc_sound _) Try.func20 (by kernel_rfl) rfl Try.ntmps20 (by kernel_rfl) Try.results20 ?_
  intro args g pre r new hF hpre
  unfold F_tanhI at hF
  split at hF
  · rename_i x1 x2
    simp only [Option.some.injEq, Prod.mk.injEq] at hF
    obtain ⟨rfl, hr, rfl⟩ := hF
    refine ⟨by simp, ?_⟩
    simp (config := { maxSteps := 4000000, implicitDefEqProofs := false }) only [F_endsI_eq, F_oddTanh_eq, F_okI_eq, F_whole_eq, WK0, WK1, WK2, WK3, WK4, WK5, WK6, WK7, WK8, WK9, WK10, WK11, WK12, WK13, WK14, WK15, WK16, WK17, WK18, WK19, WK20, WK21, WK22, WK23, look_hit, look_miss, List.map_cons, List.map_nil, Nat.add_zero, max_v, min_v, ↓cnd_t, ↓cnd_f, startEnv, Option.map_some, List.length_nil, List.length_cons, List.nil_append, List.cons_append, List.getElem?_cons_zero, List.getElem?_cons_succ, List.set_cons_zero, List.set_cons_succ, Bool.not_true, Bool.not_false, reduceIte, Nat.reduceEqDiff, Nat.reduceAdd, Nat.reduceLT, blt_lit, beq_lit, Bool.or_true, Bool.true_or, Bool.or_false, Bool.false_or, Bool.and_true, Bool.true_and, Bool.and_self, cond_true, cond_false, List.append_nil, Iv.eta, Option.map_none, idxO_l0, idxO_l1, decide_true, decide_false, reqs_true, Int.zero_sub, wrap_lit, wrapu_lit, Int.reduceLE, Int.reduceLT, Int.reduceAdd, Int.reduceSub, Int.reduceMul, Int.reduceNeg, Int.reduceEq, Option.bind_some, bin_shr_u64, bin_shl_u64, bin_shr_i64, bin_shl_i64, and_m32', Int.reduceToNat, Int.reducePow, Int.reduceMod, Int.reduceDiv, wrap_u64s, true_or, or_true, true_and, and_true, Option.isSome_none, Option.isSome_some, Nat.reduceLeDiff, Nat.reduceMul, Int.toNat_natCast, Int.cast_ofNat_Int, Int.natCast_zero, Int.natCast_one, List.isEmpty_nil, List.isEmpty_cons, List.replicate_zero, List.replicate_succ, T1, T2, T3, T4, T5, T6, T9, T10, T11, T12, T21, T22, T23, T24, T25, T26, T27, T28, T29, T30, T31, T32, T33, T34, T35, T36, T37, T38, T39, T40, T42, T43, T44, T45, T46, T47, T48, T50, T51, T52, T53, T54, T55, T56, T57, T58, T59, T61, T62, T63, T65, T67, T69, T70, T71, T72, T75, T77, T83, T84, T85, T86, T87, T89, T90]
    repeat' (first | with_reducible refine cnd_split (fun hc => ?_) (fun hc => ?_) | with_reducible refine Reqs.mk ?_ ?_)
    all_goals first
      | trivial
      | (have hk := okI_mk.1 (by assumption : okI ⟨x1, x2⟩ = true); omega)
      | (refine endS_v (t := (tanhIF (Iv.mk x1 x2))) hr ?_; rw [tanhIF, mono_no (by first | assumption | exact abs_no (by assumption))]; done)
      | (refine endS_v (t := (tanhIF (Iv.mk x1 x2))) hr ?_; rw [tanhIF]; first | (rw [mono_ok (by assumption)]; done) | (rw [monoI, if_pos h9.1, endsI]; done))
  · cases hF

-- def AsinhI
def asinhIF (x : Iv) : Iv := monoI (oddI asinhP) x
def F_asinhI : FT
  | [.agg [.int .i64 x1, .int .i64 x2]], _ => some (True, .v (.agg [.int .i64 ((asinhIF (Iv.mk x1 x2))).lo, .int .i64 ((asinhIF (Iv.mk x1 x2))).hi]), [])
  | _, _ => none
theorem F_asinhI_eq {x1 : Int} {x2 : Int} {g : List PC} : F_asinhI [.agg [.int .i64 x1, .int .i64 x2]] g = some (True, .v (.agg [.int .i64 ((asinhIF (Iv.mk x1 x2))).lo, .int .i64 ((asinhIF (Iv.mk x1 x2))).hi]), []) := rfl

-- def AtanhI
def atanhIF (x : Iv) : Iv := monoI (oddI atanhP) x
def F_atanhI : FT
  | [.agg [.int .i64 x1, .int .i64 x2]], _ => some (True, .v (.agg [.int .i64 ((atanhIF (Iv.mk x1 x2))).lo, .int .i64 ((atanhIF (Iv.mk x1 x2))).hi]), [])
  | _, _ => none
theorem F_atanhI_eq {x1 : Int} {x2 : Int} {g : List PC} : F_atanhI [.agg [.int .i64 x1, .int .i64 x2]] g = some (True, .v (.agg [.int .i64 ((atanhIF (Iv.mk x1 x2))).lo, .int .i64 ((atanhIF (Iv.mk x1 x2))).hi]), []) := rfl

end Go.Proofs.Ytmkpilmlgjnadaa.Eng
