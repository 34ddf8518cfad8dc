/- What functions of the program compute, and that the program computes it: part 2. -/
import Derived.Test.YtcnapkdccjibpaaDoorTab
import Derived.Test.YtcnapkdccjibpaaDoorEng16
import Derived.Laws.BitsLemmas
import Derived.Laws.Bits64
import Derived.Laws.Bits64b
import Derived.Lib.Mul64
import Derived.Lib.BitFns
import Derived.Laws.Externs
import Derived.Test.YtcnapkdccjibpaaDoorL1
namespace Go.Proofs.YtcnapkdccjibpaaDoor.Eng
open Go Go.RowKit
set_option linter.unusedVariables false
set_option linter.unusedSimpArgs false
set_option maxRecDepth 100000
set_option maxHeartbeats 1000000
-- within
def within (x lo hi : Int) : Bool := decide (lo ≤ x) && decide (x ≤ hi)
def F_within : FT
  | [.c (.p (.int .i64 x)), .c (.p (.int .i64 lo)), .c (.p (.int .i64 hi))], _ => some (True, .v (.c (.p (.bool (within x lo hi)))), [])
  | _, _ => none
theorem F_within_eq {x : Int} {lo : Int} {hi : Int} {g : List PC} : F_within [.c (.p (.int .i64 x)), .c (.p (.int .i64 lo)), .c (.p (.int .i64 hi))] g = some (True, .v (.c (.p (.bool (within x lo hi)))), []) := rfl
theorem within_iff {x lo hi : Int} : within x lo hi = true ↔ lo ≤ x ∧ x ≤ hi := by simp [within]

-- impl.within
theorem impl_within_within_ok : Fn Tryd.prog 15 F_within := by
  refine fn_of_go (O := orc []) mixed T_ok (orc_sound _) Tryd.func15 (by kernel_rfl) rfl Tryd.ntmps15 (by kernel_rfl) Tryd.results15 ?_
  intro args g pre r new hF hpre
  unfold F_within at hF
  split at hF
  · rename_i x lo hi
    simp only [Option.some.injEq, Prod.mk.injEq] at hF
    obtain ⟨rfl, hr, rfl⟩ := hF
    refine ⟨by simp, ?_⟩
    simp (config := { maxSteps := 4000000, implicitDefEqProofs := false }) only [WK0, WK1, WK2, WK3, WK4, WK5, WK6, WK7, WK8, WK9, WK10, WK11, WK12, WK13, WK14, WK15, WK16, WK17, WK18, WK19, WK20, WK21, WK22, WK23, WK24, WK25, WK26, WK27, WK28, look_hit, look_miss, List.map_cons, List.map_nil, Nat.add_zero, max_v, min_v, ↓cnd_t, ↓cnd_f, ↓grd_b, ↓grd_u, startEnv, Option.map_some, List.length_nil, List.length_cons, List.nil_append, List.cons_append, List.getElem?_cons_zero, List.getElem?_cons_succ, List.set_cons_zero, List.set_cons_succ, Bool.not_true, Bool.not_false, reduceIte, Nat.reduceEqDiff, Nat.reduceAdd, Nat.reduceLT, blt_lit, beq_lit, Bool.or_true, Bool.true_or, Bool.or_false, Bool.false_or, Bool.and_true, Bool.true_and, Bool.and_self, cond_true, cond_false, List.append_nil, Iv.eta, Option.map_none, idxO_l0, idxO_l1, decide_true, decide_false, reqs_true, Int.zero_sub, wrap_lit, wrapu_lit, Int.reduceLE, Int.reduceLT, Int.reduceAdd, Int.reduceSub, Int.reduceMul, Int.reduceNeg, Int.reduceEq, Option.bind_some, bin_shr_u64, bin_shl_u64, bin_shr_i64, bin_shl_i64, and_m32', Int.reduceToNat, Int.reducePow, Int.reduceMod, Int.reduceDiv, wrap_u64s, true_or, or_true, true_and, and_true, Option.isSome_none, Option.isSome_some, Nat.reduceLeDiff, Nat.reduceMul, Int.toNat_natCast, Int.cast_ofNat_Int, Int.natCast_zero, Int.natCast_one, List.isEmpty_nil, List.isEmpty_cons, List.replicate_zero, List.replicate_succ, T1, T2, T3, T4, T5, T6, T9, T10, T11, T12, T21, T22, T23, T24, T25, T26, T27, T28, T29, T30, T31, T32, T34, T35, T36, T37, T38, T39, T40, T41, T42, T43, T44, T45, T47, T48, T50, T51, T53, T56, T60, T61, T62, T63, T64, T65, T67, T69, T70, T71, T72, T74, T76, T77, T78, T79, T80, T82, T83, T84, T85, T86, T92, T93, T94, T95, T96, T99]
    repeat' (first | with_reducible refine cnd_split (fun hc => ?_) (fun hc => ?_) | with_reducible refine Reqs.mk ?_ ?_)
    all_goals (refine endS_b (t := (within x lo hi)) hr ?_; simp_all [within]; try omega)
  · cases hF

-- spec.l00In
theorem spec_l00In_within_ok : Fn Tryd.prog 20 F_within := by
  refine fn_of_go (O := orc []) mixed T_ok (orc_sound _) Tryd.func20 (by kernel_rfl) rfl Tryd.ntmps20 (by kernel_rfl) Tryd.results20 ?_
  intro args g pre r new hF hpre
  unfold F_within at hF
  split at hF
  · rename_i x lo hi
    simp only [Option.some.injEq, Prod.mk.injEq] at hF
    obtain ⟨rfl, hr, rfl⟩ := hF
    refine ⟨by simp, ?_⟩
    simp (config := { maxSteps := 4000000, implicitDefEqProofs := false }) only [WK0, WK1, WK2, WK3, WK4, WK5, WK6, WK7, WK8, WK9, WK10, WK11, WK12, WK13, WK14, WK15, WK16, WK17, WK18, WK19, WK20, WK21, WK22, WK23, WK24, WK25, WK26, WK27, WK28, look_hit, look_miss, List.map_cons, List.map_nil, Nat.add_zero, max_v, min_v, ↓cnd_t, ↓cnd_f, ↓grd_b, ↓grd_u, startEnv, Option.map_some, List.length_nil, List.length_cons, List.nil_append, List.cons_append, List.getElem?_cons_zero, List.getElem?_cons_succ, List.set_cons_zero, List.set_cons_succ, Bool.not_true, Bool.not_false, reduceIte, Nat.reduceEqDiff, Nat.reduceAdd, Nat.reduceLT, blt_lit, beq_lit, Bool.or_true, Bool.true_or, Bool.or_false, Bool.false_or, Bool.and_true, Bool.true_and, Bool.and_self, cond_true, cond_false, List.append_nil, Iv.eta, Option.map_none, idxO_l0, idxO_l1, decide_true, decide_false, reqs_true, Int.zero_sub, wrap_lit, wrapu_lit, Int.reduceLE, Int.reduceLT, Int.reduceAdd, Int.reduceSub, Int.reduceMul, Int.reduceNeg, Int.reduceEq, Option.bind_some, bin_shr_u64, bin_shl_u64, bin_shr_i64, bin_shl_i64, and_m32', Int.reduceToNat, Int.reducePow, Int.reduceMod, Int.reduceDiv, wrap_u64s, true_or, or_true, true_and, and_true, Option.isSome_none, Option.isSome_some, Nat.reduceLeDiff, Nat.reduceMul, Int.toNat_natCast, Int.cast_ofNat_Int, Int.natCast_zero, Int.natCast_one, List.isEmpty_nil, List.isEmpty_cons, List.replicate_zero, List.replicate_succ, T1, T2, T3, T4, T5, T6, T9, T10, T11, T12, T21, T22, T23, T24, T25, T26, T27, T28, T29, T30, T31, T32, T34, T35, T36, T37, T38, T39, T40, T41, T42, T43, T44, T45, T47, T48, T50, T51, T53, T56, T60, T61, T62, T63, T64, T65, T67, T69, T70, T71, T72, T74, T76, T77, T78, T79, T80, T82, T83, T84, T85, T86, T92, T93, T94, T95, T96, T99]
    repeat' (first | with_reducible refine cnd_split (fun hc => ?_) (fun hc => ?_) | with_reducible refine Reqs.mk ?_ ?_)
    all_goals (refine endS_b (t := (within x lo hi)) hr ?_; simp_all [within]; try omega)
  · cases hF

-- okI
def okI (a : Iv) : Bool := decide (-1152921504606846976 < a.lo) && (decide (a.lo ≤ a.hi) && decide (a.hi < 1152921504606846976))
def F_okI : FT
  | [.agg [.int .i64 a1, .int .i64 a2]], _ => some (True, .v (.c (.p (.bool (okI (Iv.mk a1 a2))))), [])
  | _, _ => none
theorem F_okI_eq {a1 : Int} {a2 : Int} {g : List PC} : F_okI [.agg [.int .i64 a1, .int .i64 a2]] g = some (True, .v (.c (.p (.bool (okI (Iv.mk a1 a2))))), []) := rfl
theorem okI_iff {a : Iv} : okI a = true ↔ -1152921504606846976 < a.lo ∧ a.lo ≤ a.hi ∧ a.hi < 1152921504606846976 := by simp [okI]
theorem okI_mk {a b : Int} : okI ⟨a, b⟩ = true ↔ -1152921504606846976 < a ∧ a ≤ b ∧ b < 1152921504606846976 := okI_iff
def whole : Iv := ⟨-1152921504606846976, 1152921504606846976⟩
def F_whole : FT
  | [], _ => some (True, .v (.agg [.int .i64 ((whole)).lo, .int .i64 ((whole)).hi]), [])
  | _, _ => none
theorem F_whole_eq {g : List PC} : F_whole [] g = some (True, .v (.agg [.int .i64 ((whole)).lo, .int .i64 ((whole)).hi]), []) := rfl
/-- An interval, or the whole one. -/
def mkI (lo hi : Int) : Iv := if okI ⟨lo, hi⟩ then ⟨lo, hi⟩ else whole
theorem mkI_ok {a b : Int} (h : okI ⟨a, b⟩ = true) : mkI a b = ⟨a, b⟩ := by simp [mkI, h]
theorem mkI_lin {a b : Int} (h1 : -1152921504606846976 < a) (h2 : a ≤ b) (h3 : b < 1152921504606846976) : mkI a b = ⟨a, b⟩ := mkI_ok (okI_mk.2 ⟨h1, h2, h3⟩)
def F_notOk : FT
  | [.agg [.int .i64 a1, .int .i64 a2]], _ => some (True, .v (.c (.p (.bool (!okI (Iv.mk a1 a2))))), [])
  | _, _ => none
theorem F_notOk_eq {a1 : Int} {a2 : Int} {g : List PC} : F_notOk [.agg [.int .i64 a1, .int .i64 a2]] g = some (True, .v (.c (.p (.bool (!okI (Iv.mk a1 a2))))), []) := rfl
def F_mkI : FT
  | [.c (.p (.int .i64 lo)), .c (.p (.int .i64 hi))], _ => some (True, .v (.agg [.int .i64 ((mkI lo hi)).lo, .int .i64 ((mkI lo hi)).hi]), [])
  | _, _ => none
theorem F_mkI_eq {lo : Int} {hi : Int} {g : List PC} : F_mkI [.c (.p (.int .i64 lo)), .c (.p (.int .i64 hi))] g = some (True, .v (.agg [.int .i64 ((mkI lo hi)).lo, .int .i64 ((mkI lo hi)).hi]), []) := rfl
def F_bounded : FT
  | [.c (.p (.int .i64 lo)), .c (.p (.int .i64 hi)), .c (.p (.bool ok))], _ => some (True, .v (.agg [.int .i64 ((if ok then mkI lo hi else whole)).lo, .int .i64 ((if ok then mkI lo hi else whole)).hi]), [])
  | _, _ => none
theorem F_bounded_eq {lo : Int} {hi : Int} {ok : Bool} {g : List PC} : F_bounded [.c (.p (.int .i64 lo)), .c (.p (.int .i64 hi)), .c (.p (.bool ok))] g = some (True, .v (.agg [.int .i64 ((if ok then mkI lo hi else whole)).lo, .int .i64 ((if ok then mkI lo hi else whole)).hi]), []) := rfl

-- impl.ValidInterval
theorem impl_ValidInterval_okI_ok : Fn Tryd.prog 13 F_okI := by
  refine fn_of_go (O := orc []) mixed T_ok (orc_sound _) Tryd.func13 (by kernel_rfl) rfl Tryd.ntmps13 (by kernel_rfl) Tryd.results13 ?_
  intro args g pre r new hF hpre
  unfold F_okI at hF
  split at hF
  · rename_i a1 a2
    simp only [Option.some.injEq, Prod.mk.injEq] at hF
    obtain ⟨rfl, hr, rfl⟩ := hF
    refine ⟨by simp, ?_⟩
    simp (config := { maxSteps := 4000000, implicitDefEqProofs := false }) only [WK0, WK1, WK2, WK3, WK4, WK5, WK6, WK7, WK8, WK9, WK10, WK11, WK12, WK13, WK14, WK15, WK16, WK17, WK18, WK19, WK20, WK21, WK22, WK23, WK24, WK25, WK26, WK27, WK28, look_hit, look_miss, List.map_cons, List.map_nil, Nat.add_zero, max_v, min_v, ↓cnd_t, ↓cnd_f, ↓grd_b, ↓grd_u, startEnv, Option.map_some, List.length_nil, List.length_cons, List.nil_append, List.cons_append, List.getElem?_cons_zero, List.getElem?_cons_succ, List.set_cons_zero, List.set_cons_succ, Bool.not_true, Bool.not_false, reduceIte, Nat.reduceEqDiff, Nat.reduceAdd, Nat.reduceLT, blt_lit, beq_lit, Bool.or_true, Bool.true_or, Bool.or_false, Bool.false_or, Bool.and_true, Bool.true_and, Bool.and_self, cond_true, cond_false, List.append_nil, Iv.eta, Option.map_none, idxO_l0, idxO_l1, decide_true, decide_false, reqs_true, Int.zero_sub, wrap_lit, wrapu_lit, Int.reduceLE, Int.reduceLT, Int.reduceAdd, Int.reduceSub, Int.reduceMul, Int.reduceNeg, Int.reduceEq, Option.bind_some, bin_shr_u64, bin_shl_u64, bin_shr_i64, bin_shl_i64, and_m32', Int.reduceToNat, Int.reducePow, Int.reduceMod, Int.reduceDiv, wrap_u64s, true_or, or_true, true_and, and_true, Option.isSome_none, Option.isSome_some, Nat.reduceLeDiff, Nat.reduceMul, Int.toNat_natCast, Int.cast_ofNat_Int, Int.natCast_zero, Int.natCast_one, List.isEmpty_nil, List.isEmpty_cons, List.replicate_zero, List.replicate_succ, T1, T2, T3, T4, T5, T6, T9, T10, T11, T12, T21, T22, T23, T24, T25, T26, T27, T28, T29, T30, T31, T32, T34, T35, T36, T37, T38, T39, T40, T41, T42, T43, T44, T45, T47, T48, T50, T51, T53, T56, T60, T61, T62, T63, T64, T65, T67, T69, T70, T71, T72, T74, T76, T77, T78, T79, T80, T82, T83, T84, T85, T86, T92, T93, T94, T95, T96, T99]
    repeat' (first | with_reducible refine cnd_split (fun hc => ?_) (fun hc => ?_) | with_reducible refine Reqs.mk ?_ ?_)
    all_goals (refine endS_b (t := (okI (Iv.mk a1 a2))) hr ?_; simp_all [okI]; try omega)
  · cases hF

-- spec.l04Ok
theorem spec_l04Ok_okI_ok : Fn Tryd.prog 11 F_okI := by
  refine fn_of_go (O := orc []) mixed T_ok (orc_sound _) Tryd.func11 (by kernel_rfl) rfl Tryd.ntmps11 (by kernel_rfl) Tryd.results11 ?_
  intro args g pre r new hF hpre
  unfold F_okI at hF
  split at hF
  · rename_i a1 a2
    simp only [Option.some.injEq, Prod.mk.injEq] at hF
    obtain ⟨rfl, hr, rfl⟩ := hF
    refine ⟨by simp, ?_⟩
    simp (config := { maxSteps := 4000000, implicitDefEqProofs := false }) only [WK0, WK1, WK2, WK3, WK4, WK5, WK6, WK7, WK8, WK9, WK10, WK11, WK12, WK13, WK14, WK15, WK16, WK17, WK18, WK19, WK20, WK21, WK22, WK23, WK24, WK25, WK26, WK27, WK28, look_hit, look_miss, List.map_cons, List.map_nil, Nat.add_zero, max_v, min_v, ↓cnd_t, ↓cnd_f, ↓grd_b, ↓grd_u, startEnv, Option.map_some, List.length_nil, List.length_cons, List.nil_append, List.cons_append, List.getElem?_cons_zero, List.getElem?_cons_succ, List.set_cons_zero, List.set_cons_succ, Bool.not_true, Bool.not_false, reduceIte, Nat.reduceEqDiff, Nat.reduceAdd, Nat.reduceLT, blt_lit, beq_lit, Bool.or_true, Bool.true_or, Bool.or_false, Bool.false_or, Bool.and_true, Bool.true_and, Bool.and_self, cond_true, cond_false, List.append_nil, Iv.eta, Option.map_none, idxO_l0, idxO_l1, decide_true, decide_false, reqs_true, Int.zero_sub, wrap_lit, wrapu_lit, Int.reduceLE, Int.reduceLT, Int.reduceAdd, Int.reduceSub, Int.reduceMul, Int.reduceNeg, Int.reduceEq, Option.bind_some, bin_shr_u64, bin_shl_u64, bin_shr_i64, bin_shl_i64, and_m32', Int.reduceToNat, Int.reducePow, Int.reduceMod, Int.reduceDiv, wrap_u64s, true_or, or_true, true_and, and_true, Option.isSome_none, Option.isSome_some, Nat.reduceLeDiff, Nat.reduceMul, Int.toNat_natCast, Int.cast_ofNat_Int, Int.natCast_zero, Int.natCast_one, List.isEmpty_nil, List.isEmpty_cons, List.replicate_zero, List.replicate_succ, T1, T2, T3, T4, T5, T6, T9, T10, T11, T12, T21, T22, T23, T24, T25, T26, T27, T28, T29, T30, T31, T32, T34, T35, T36, T37, T38, T39, T40, T41, T42, T43, T44, T45, T47, T48, T50, T51, T53, T56, T60, T61, T62, T63, T64, T65, T67, T69, T70, T71, T72, T74, T76, T77, T78, T79, T80, T82, T83, T84, T85, T86, T92, T93, T94, T95, T96, T99]
    repeat' (first | with_reducible refine cnd_split (fun hc => ?_) (fun hc => ?_) | with_reducible refine Reqs.mk ?_ ?_)
    all_goals (refine endS_b (t := (okI (Iv.mk a1 a2))) hr ?_; simp_all [okI]; try omega)
  · cases hF

-- impl.IsWhole
theorem impl_IsWhole_notOk_ok : Fn Tryd.prog 8 F_notOk := by
  refine fn_of_go (O := orc [⟨13, F_okI, .inl impl_ValidInterval_okI_ok⟩]) mixed T_ok (orc_sound _) Tryd.func8 (by kernel_rfl) rfl Tryd.ntmps8 (by kernel_rfl) Tryd.results8 ?_
  intro args g pre r new hF hpre
  unfold F_notOk at hF
  split at hF
  · rename_i a1 a2
    simp only [Option.some.injEq, Prod.mk.injEq] at hF
    obtain ⟨rfl, hr, rfl⟩ := hF
    refine ⟨by simp, ?_⟩
    simp (config := { maxSteps := 4000000, implicitDefEqProofs := false }) only [F_okI_eq, WK0, WK1, WK2, WK3, WK4, WK5, WK6, WK7, WK8, WK9, WK10, WK11, WK12, WK13, WK14, WK15, WK16, WK17, WK18, WK19, WK20, WK21, WK22, WK23, WK24, WK25, WK26, WK27, WK28, look_hit, look_miss, List.map_cons, List.map_nil, Nat.add_zero, max_v, min_v, ↓cnd_t, ↓cnd_f, ↓grd_b, ↓grd_u, startEnv, Option.map_some, List.length_nil, List.length_cons, List.nil_append, List.cons_append, List.getElem?_cons_zero, List.getElem?_cons_succ, List.set_cons_zero, List.set_cons_succ, Bool.not_true, Bool.not_false, reduceIte, Nat.reduceEqDiff, Nat.reduceAdd, Nat.reduceLT, blt_lit, beq_lit, Bool.or_true, Bool.true_or, Bool.or_false, Bool.false_or, Bool.and_true, Bool.true_and, Bool.and_self, cond_true, cond_false, List.append_nil, Iv.eta, Option.map_none, idxO_l0, idxO_l1, decide_true, decide_false, reqs_true, Int.zero_sub, wrap_lit, wrapu_lit, Int.reduceLE, Int.reduceLT, Int.reduceAdd, Int.reduceSub, Int.reduceMul, Int.reduceNeg, Int.reduceEq, Option.bind_some, bin_shr_u64, bin_shl_u64, bin_shr_i64, bin_shl_i64, and_m32', Int.reduceToNat, Int.reducePow, Int.reduceMod, Int.reduceDiv, wrap_u64s, true_or, or_true, true_and, and_true, Option.isSome_none, Option.isSome_some, Nat.reduceLeDiff, Nat.reduceMul, Int.toNat_natCast, Int.cast_ofNat_Int, Int.natCast_zero, Int.natCast_one, List.isEmpty_nil, List.isEmpty_cons, List.replicate_zero, List.replicate_succ, T1, T2, T3, T4, T5, T6, T9, T10, T11, T12, T21, T22, T23, T24, T25, T26, T27, T28, T29, T30, T31, T32, T34, T35, T36, T37, T38, T39, T40, T41, T42, T43, T44, T45, T47, T48, T50, T51, T53, T56, T60, T61, T62, T63, T64, T65, T67, T69, T70, T71, T72, T74, T76, T77, T78, T79, T80, T82, T83, T84, T85, T86, T92, T93, T94, T95, T96, T99]
    repeat' (first | with_reducible refine cnd_split (fun hc => ?_) (fun hc => ?_) | with_reducible refine Reqs.mk ?_ ?_)
    all_goals (first | trivial | refine endS_b (t := (!okI (Iv.mk a1 a2))) hr ?_; simp_all)
  · cases hF

-- small
def absZ (x : Int) : Int := if x < 0 then -x else x
def F_absZ : FT
  | [.c (.p (.int .i64 x))], _ => some (-9223372036854775808 < x ∧ x ≤ 9223372036854775807, .v (.c (.p (.int .i64 (absZ x)))), [])
  | _, _ => none
theorem F_absZ_eq {x : Int} {g : List PC} : F_absZ [.c (.p (.int .i64 x))] g = some (-9223372036854775808 < x ∧ x ≤ 9223372036854775807, .v (.c (.p (.int .i64 (absZ x)))), []) := rfl
def F_min2 : FT
  | [.c (.p (.int .i64 x)), .c (.p (.int .i64 y))], _ => some (True, .v (.c (.p (.int .i64 (min x y)))), [])
  | _, _ => none
theorem F_min2_eq {x : Int} {y : Int} {g : List PC} : F_min2 [.c (.p (.int .i64 x)), .c (.p (.int .i64 y))] g = some (True, .v (.c (.p (.int .i64 (min x y)))), []) := rfl
def F_max2 : FT
  | [.c (.p (.int .i64 x)), .c (.p (.int .i64 y))], _ => some (True, .v (.c (.p (.int .i64 (max x y)))), [])
  | _, _ => none
theorem F_max2_eq {x : Int} {y : Int} {g : List PC} : F_max2 [.c (.p (.int .i64 x)), .c (.p (.int .i64 y))] g = some (True, .v (.c (.p (.int .i64 (max x y)))), []) := rfl
def F_atI : FT
  | [.c (.p (.int .i64 n))], _ => some (True, .v (.agg [.int .i64 ((Iv.mk n n)).lo, .int .i64 ((Iv.mk n n)).hi]), [])
  | _, _ => none
theorem F_atI_eq {n : Int} {g : List PC} : F_atI [.c (.p (.int .i64 n))] g = some (True, .v (.agg [.int .i64 ((Iv.mk n n)).lo, .int .i64 ((Iv.mk n n)).hi]), []) := rfl

end Go.Proofs.YtcnapkdccjibpaaDoor.Eng
