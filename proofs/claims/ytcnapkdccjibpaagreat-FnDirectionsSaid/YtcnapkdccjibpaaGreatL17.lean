/- What functions of the program compute, and that the program computes it: part 17. -/
import Derived.Test.YtcnapkdccjibpaaGreatTab
import Derived.Test.YtcnapkdccjibpaaGreatEng16
import Derived.Laws.BitsLemmas
import Derived.Laws.Bits64
import Derived.Laws.Bits64b
import Derived.Lib.Mul64
import Derived.Lib.BitFns
import Derived.Laws.Externs
import Derived.Test.YtcnapkdccjibpaaGreatL1
import Derived.Test.YtcnapkdccjibpaaGreatL2
import Derived.Test.YtcnapkdccjibpaaGreatL3
import Derived.Test.YtcnapkdccjibpaaGreatL6
import Derived.Test.YtcnapkdccjibpaaGreatL7
import Derived.Test.YtcnapkdccjibpaaGreatL8
import Derived.Test.YtcnapkdccjibpaaGreatL12
import Derived.Test.YtcnapkdccjibpaaGreatL15
import Derived.Test.YtcnapkdccjibpaaGreatL16
namespace Go.Proofs.YtcnapkdccjibpaaGreat.Eng
open Go Go.RowKit
set_option linter.unusedVariables false
set_option linter.unusedSimpArgs false
set_option maxRecDepth 100000
set_option maxHeartbeats 1000000
-- arctan
def halfI2 : Iv := ⟨-6746518853, 6746518853⟩
def halvedI (x : Iv) : Iv := divI x (addI (intI 1) (sqrtI (addI (intI 1) (sqrI x))))
def fourI (x : Iv) : Iv := dblI (dblI (arcS (halvedI (halvedI x))))
def openOk (n : Int) : Bool := decide (-1152921504606846976 < n) && decide (n < 1152921504606846976)
theorem openOk_iff {n : Int} : openOk n = true ↔ -1152921504606846976 < n ∧ n < 1152921504606846976 := by simp [openOk]
def atanP (n : Int) : Iv := if 4294967296 < n then subI (turnI 1) (fourI (divI (intI 1) ⟨n, n⟩)) else fourI ⟨n, n⟩
def atanA (n : Int) : Iv := if openOk n then (if n < 0 then negI (atanP (-n)) else atanP n) else halfI2
def atanI (x : Iv) : Iv := if okI x then hullI (atanA x.lo) (atanA x.hi) else halfI2
def asinA (n : Int) : Iv := if within n (-4294967296) 4294967296 then (meetI (dblI (atanI (divI ⟨n, n⟩ (addI (intI 1) (circleI n))))) halfI2).1 else whole
def asinI (x : Iv) : Iv := if (meetI x ringI).2 then hullI (asinA (meetI x ringI).1.lo) (asinA (meetI x ringI).1.hi) else whole
def acosI (x : Iv) : Iv := subI (turnI 1) (asinI x)
def F_half2 : FT
  | [], _ => some (True, .v (.agg [.int .i64 ((halfI2)).lo, .int .i64 ((halfI2)).hi]), [])
  | _, _ => none
theorem F_half2_eq {g : List PC} : F_half2 [] g = some (True, .v (.agg [.int .i64 ((halfI2)).lo, .int .i64 ((halfI2)).hi]), []) := rfl
def F_halved : FT
  | [.agg [.int .i64 x1, .int .i64 x2]], _ => some (True, .v (.agg [.int .i64 ((halvedI (Iv.mk x1 x2))).lo, .int .i64 ((halvedI (Iv.mk x1 x2))).hi]), [])
  | _, _ => none
theorem F_halved_eq {x1 : Int} {x2 : Int} {g : List PC} : F_halved [.agg [.int .i64 x1, .int .i64 x2]] g = some (True, .v (.agg [.int .i64 ((halvedI (Iv.mk x1 x2))).lo, .int .i64 ((halvedI (Iv.mk x1 x2))).hi]), []) := rfl
def F_four : FT
  | [.agg [.int .i64 x1, .int .i64 x2]], _ => some (True, .v (.agg [.int .i64 ((fourI (Iv.mk x1 x2))).lo, .int .i64 ((fourI (Iv.mk x1 x2))).hi]), [])
  | _, _ => none
theorem F_four_eq {x1 : Int} {x2 : Int} {g : List PC} : F_four [.agg [.int .i64 x1, .int .i64 x2]] g = some (True, .v (.agg [.int .i64 ((fourI (Iv.mk x1 x2))).lo, .int .i64 ((fourI (Iv.mk x1 x2))).hi]), []) := rfl
def F_openOk : FT
  | [.c (.p (.int .i64 n))], _ => some (True, .v (.c (.p (.bool (openOk n)))), [])
  | _, _ => none
theorem F_openOk_eq {n : Int} {g : List PC} : F_openOk [.c (.p (.int .i64 n))] g = some (True, .v (.c (.p (.bool (openOk n)))), []) := rfl
def F_atanP : FT
  | [.c (.p (.int .i64 n))], _ => some (0 ≤ n ∧ n < 1152921504606846976, .v (.agg [.int .i64 ((atanP n)).lo, .int .i64 ((atanP n)).hi]), [])
  | _, _ => none
theorem F_atanP_eq {n : Int} {g : List PC} : F_atanP [.c (.p (.int .i64 n))] g = some (0 ≤ n ∧ n < 1152921504606846976, .v (.agg [.int .i64 ((atanP n)).lo, .int .i64 ((atanP n)).hi]), []) := rfl
def F_atanA : FT
  | [.c (.p (.int .i64 n))], _ => some (True, .v (.agg [.int .i64 ((atanA n)).lo, .int .i64 ((atanA n)).hi]), [])
  | _, _ => none
theorem F_atanA_eq {n : Int} {g : List PC} : F_atanA [.c (.p (.int .i64 n))] g = some (True, .v (.agg [.int .i64 ((atanA n)).lo, .int .i64 ((atanA n)).hi]), []) := rfl
def F_atanI : FT
  | [.agg [.int .i64 x1, .int .i64 x2]], _ => some (True, .v (.agg [.int .i64 ((atanI (Iv.mk x1 x2))).lo, .int .i64 ((atanI (Iv.mk x1 x2))).hi]), [])
  | _, _ => none
theorem F_atanI_eq {x1 : Int} {x2 : Int} {g : List PC} : F_atanI [.agg [.int .i64 x1, .int .i64 x2]] g = some (True, .v (.agg [.int .i64 ((atanI (Iv.mk x1 x2))).lo, .int .i64 ((atanI (Iv.mk x1 x2))).hi]), []) := rfl
def F_asinA : FT
  | [.c (.p (.int .i64 n))], _ => some (True, .v (.agg [.int .i64 ((asinA n)).lo, .int .i64 ((asinA n)).hi]), [])
  | _, _ => none
theorem F_asinA_eq {n : Int} {g : List PC} : F_asinA [.c (.p (.int .i64 n))] g = some (True, .v (.agg [.int .i64 ((asinA n)).lo, .int .i64 ((asinA n)).hi]), []) := rfl
def F_asinI : FT
  | [.agg [.int .i64 x1, .int .i64 x2]], _ => some (True, .v (.agg [.int .i64 ((asinI (Iv.mk x1 x2))).lo, .int .i64 ((asinI (Iv.mk x1 x2))).hi]), [])
  | _, _ => none
theorem F_asinI_eq {x1 : Int} {x2 : Int} {g : List PC} : F_asinI [.agg [.int .i64 x1, .int .i64 x2]] g = some (True, .v (.agg [.int .i64 ((asinI (Iv.mk x1 x2))).lo, .int .i64 ((asinI (Iv.mk x1 x2))).hi]), []) := rfl
def F_acosI : FT
  | [.agg [.int .i64 x1, .int .i64 x2]], _ => some (True, .v (.agg [.int .i64 ((acosI (Iv.mk x1 x2))).lo, .int .i64 ((acosI (Iv.mk x1 x2))).hi]), [])
  | _, _ => none
theorem F_acosI_eq {x1 : Int} {x2 : Int} {g : List PC} : F_acosI [.agg [.int .i64 x1, .int .i64 x2]] g = some (True, .v (.agg [.int .i64 ((acosI (Iv.mk x1 x2))).lo, .int .i64 ((acosI (Iv.mk x1 x2))).hi]), []) := rfl
theorem turn1 : turnI 1 = ⟨6746518852, 6746518853⟩ := rfl
theorem turnA1 : turnA 1 = ⟨6746518852, 6746518853⟩ := rfl

-- impl.halfCircle
theorem impl_halfCircle_half2_ok : Fn Tryz.prog 106 F_half2 := by
  refine fn_of_go (O := orc [⟨108, F_turnI, .inl impl_TurnI_turnI_ok⟩]) mixed T_ok (orc_sound _) Tryz.func106 (by kernel_rfl) rfl Tryz.ntmps106 (by kernel_rfl) Tryz.results106 ?_
  intro args g pre r new hF hpre
  unfold F_half2 at hF
  split at hF
  · skip
    simp only [Option.some.injEq, Prod.mk.injEq] at hF
    obtain ⟨rfl, hr, rfl⟩ := hF
    refine ⟨by simp, ?_⟩
    simp (config := { maxSteps := 4000000, implicitDefEqProofs := false }) only [F_turnI_eq, WK0, WK1, WK2, WK3, WK4, WK5, WK6, WK7, WK8, WK9, WK10, WK11, WK12, WK13, WK14, WK15, WK16, WK17, WK18, WK19, WK20, WK21, WK22, WK23, WK24, WK25, WK26, WK27, WK28, look_hit, look_miss, List.map_cons, List.map_nil, Nat.add_zero, max_v, min_v, ↓cnd_t, ↓cnd_f, ↓grd_b, ↓grd_u, startEnv, Option.map_some, List.length_nil, List.length_cons, List.nil_append, List.cons_append, List.getElem?_cons_zero, List.getElem?_cons_succ, List.set_cons_zero, List.set_cons_succ, Bool.not_true, Bool.not_false, reduceIte, Nat.reduceEqDiff, Nat.reduceAdd, Nat.reduceLT, blt_lit, beq_lit, Bool.or_true, Bool.true_or, Bool.or_false, Bool.false_or, Bool.and_true, Bool.true_and, Bool.and_self, cond_true, cond_false, List.append_nil, Iv.eta, Option.map_none, idxO_l0, idxO_l1, decide_true, decide_false, reqs_true, Int.zero_sub, wrap_lit, wrapu_lit, Int.reduceLE, Int.reduceLT, Int.reduceAdd, Int.reduceSub, Int.reduceMul, Int.reduceNeg, Int.reduceEq, Option.bind_some, bin_shr_u64, bin_shl_u64, bin_shr_i64, bin_shl_i64, and_m32', Int.reduceToNat, Int.reducePow, Int.reduceMod, Int.reduceDiv, wrap_u64s, true_or, or_true, true_and, and_true, Option.isSome_none, Option.isSome_some, Nat.reduceLeDiff, Nat.reduceMul, Int.toNat_natCast, Int.cast_ofNat_Int, Int.natCast_zero, Int.natCast_one, List.isEmpty_nil, List.isEmpty_cons, List.replicate_zero, List.replicate_succ, T1, T2, T3, T4, T5, T6, T9, T10, T11, T12, T21, T22, T23, T24, T26, T27, T28, T29, T30, T31, T32, T33, T34, T35, T37, T38, T39, T40, T42, T43, T44, T45, T46, T47, T48, T50, T52, T54, T55, T56, T57, T58, T59, T60, T61, T62, T63, T64, T65, T66, T67, T68, T69, T70, T71, T72, T73, T75, T77, T78, T79, T80, T82, T83, T84, T85, T87, T89, T90, T91, T92, T95, T97, T103, T104, T105, T106, T107, T109, T110, turn1]
    repeat' (first | with_reducible refine cnd_split (fun hc => ?_) (fun hc => ?_) | with_reducible refine Reqs.mk ?_ ?_)
    all_goals first | trivial | exact endS_v (t := (halfI2)) hr rfl
  · cases hF

-- impl.halved
theorem impl_halved_halved_ok : Fn Tryz.prog 151 F_halved := by
  refine fn_of_go (O := orc [⟨74, F_divI, .inl impl_DivI_divI_ok⟩, ⟨86, F_addI, .inl impl_AddI_addI_ok⟩, ⟨90, F_intI, .inl impl_Integer_intI_ok⟩, ⟨93, F_sqrtI, .inl impl_SqrtI_sqrtI_ok⟩, ⟨94, F_sqrI, .inl impl_SqrI_sqrI_ok⟩]) mixed T_ok (orc_sound _) Tryz.func151 (by kernel_rfl) rfl Tryz.ntmps151 (by kernel_rfl) Tryz.results151 ?_
  intro args g pre r new hF hpre
  unfold F_halved at hF
  split at hF
  · rename_i x1 x2
    simp only [Option.some.injEq, Prod.mk.injEq] at hF
    obtain ⟨rfl, hr, rfl⟩ := hF
    refine ⟨by simp, ?_⟩
    simp (config := { maxSteps := 4000000, implicitDefEqProofs := false }) only [F_addI_eq, F_divI_eq, F_intI_eq, F_sqrI_eq, F_sqrtI_eq, WK0, WK1, WK2, WK3, WK4, WK5, WK6, WK7, WK8, WK9, WK10, WK11, WK12, WK13, WK14, WK15, WK16, WK17, WK18, WK19, WK20, WK21, WK22, WK23, WK24, WK25, WK26, WK27, WK28, look_hit, look_miss, List.map_cons, List.map_nil, Nat.add_zero, max_v, min_v, ↓cnd_t, ↓cnd_f, ↓grd_b, ↓grd_u, startEnv, Option.map_some, List.length_nil, List.length_cons, List.nil_append, List.cons_append, List.getElem?_cons_zero, List.getElem?_cons_succ, List.set_cons_zero, List.set_cons_succ, Bool.not_true, Bool.not_false, reduceIte, Nat.reduceEqDiff, Nat.reduceAdd, Nat.reduceLT, blt_lit, beq_lit, Bool.or_true, Bool.true_or, Bool.or_false, Bool.false_or, Bool.and_true, Bool.true_and, Bool.and_self, cond_true, cond_false, List.append_nil, Iv.eta, Option.map_none, idxO_l0, idxO_l1, decide_true, decide_false, reqs_true, Int.zero_sub, wrap_lit, wrapu_lit, Int.reduceLE, Int.reduceLT, Int.reduceAdd, Int.reduceSub, Int.reduceMul, Int.reduceNeg, Int.reduceEq, Option.bind_some, bin_shr_u64, bin_shl_u64, bin_shr_i64, bin_shl_i64, and_m32', Int.reduceToNat, Int.reducePow, Int.reduceMod, Int.reduceDiv, wrap_u64s, true_or, or_true, true_and, and_true, Option.isSome_none, Option.isSome_some, Nat.reduceLeDiff, Nat.reduceMul, Int.toNat_natCast, Int.cast_ofNat_Int, Int.natCast_zero, Int.natCast_one, List.isEmpty_nil, List.isEmpty_cons, List.replicate_zero, List.replicate_succ, T1, T2, T3, T4, T5, T6, T9, T10, T11, T12, T21, T22, T23, T24, T26, T27, T28, T29, T30, T31, T32, T33, T34, T35, T37, T38, T39, T40, T42, T43, T44, T45, T46, T47, T48, T50, T52, T54, T55, T56, T57, T58, T59, T60, T61, T62, T63, T64, T65, T66, T67, T68, T69, T70, T71, T72, T73, T75, T77, T78, T79, T80, T82, T83, T84, T85, T87, T89, T90, T91, T92, T95, T97, T103, T104, T105, T106, T107, T109, T110]
    repeat' (first | with_reducible refine cnd_split (fun hc => ?_) (fun hc => ?_) | with_reducible refine Reqs.mk ?_ ?_)
    all_goals first | trivial | exact endS_v (t := (halvedI (Iv.mk x1 x2))) hr rfl
  · cases hF

-- impl.fourfold
theorem impl_fourfold_four_ok : Fn Tryz.prog 109 F_four := by
  refine fn_of_go (O := orc [⟨111, F_dblI, .inl impl_DoubleI_dblI_ok⟩, ⟨150, F_arcS, .inl impl_ArcSeries_arcS_ok⟩, ⟨151, F_halved, .inl impl_halved_halved_ok⟩]) mixed T_ok (orc_sound _) Tryz.func109 (by kernel_rfl) rfl Tryz.ntmps109 (by kernel_rfl) Tryz.results109 ?_
  intro args g pre r new hF hpre
  unfold F_four at hF
  split at hF
  · rename_i x1 x2
    simp only [Option.some.injEq, Prod.mk.injEq] at hF
    obtain ⟨rfl, hr, rfl⟩ := hF
    refine ⟨by simp, ?_⟩
    simp (config := { maxSteps := 4000000, implicitDefEqProofs := false }) only [F_arcS_eq, F_dblI_eq, F_halved_eq, WK0, WK1, WK2, WK3, WK4, WK5, WK6, WK7, WK8, WK9, WK10, WK11, WK12, WK13, WK14, WK15, WK16, WK17, WK18, WK19, WK20, WK21, WK22, WK23, WK24, WK25, WK26, WK27, WK28, look_hit, look_miss, List.map_cons, List.map_nil, Nat.add_zero, max_v, min_v, ↓cnd_t, ↓cnd_f, ↓grd_b, ↓grd_u, startEnv, Option.map_some, List.length_nil, List.length_cons, List.nil_append, List.cons_append, List.getElem?_cons_zero, List.getElem?_cons_succ, List.set_cons_zero, List.set_cons_succ, Bool.not_true, Bool.not_false, reduceIte, Nat.reduceEqDiff, Nat.reduceAdd, Nat.reduceLT, blt_lit, beq_lit, Bool.or_true, Bool.true_or, Bool.or_false, Bool.false_or, Bool.and_true, Bool.true_and, Bool.and_self, cond_true, cond_false, List.append_nil, Iv.eta, Option.map_none, idxO_l0, idxO_l1, decide_true, decide_false, reqs_true, Int.zero_sub, wrap_lit, wrapu_lit, Int.reduceLE, Int.reduceLT, Int.reduceAdd, Int.reduceSub, Int.reduceMul, Int.reduceNeg, Int.reduceEq, Option.bind_some, bin_shr_u64, bin_shl_u64, bin_shr_i64, bin_shl_i64, and_m32', Int.reduceToNat, Int.reducePow, Int.reduceMod, Int.reduceDiv, wrap_u64s, true_or, or_true, true_and, and_true, Option.isSome_none, Option.isSome_some, Nat.reduceLeDiff, Nat.reduceMul, Int.toNat_natCast, Int.cast_ofNat_Int, Int.natCast_zero, Int.natCast_one, List.isEmpty_nil, List.isEmpty_cons, List.replicate_zero, List.replicate_succ, T1, T2, T3, T4, T5, T6, T9, T10, T11, T12, T21, T22, T23, T24, T26, T27, T28, T29, T30, T31, T32, T33, T34, T35, T37, T38, T39, T40, T42, T43, T44, T45, T46, T47, T48, T50, T52, T54, T55, T56, T57, T58, T59, T60, T61, T62, T63, T64, T65, T66, T67, T68, T69, T70, T71, T72, T73, T75, T77, T78, T79, T80, T82, T83, T84, T85, T87, T89, T90, T91, T92, T95, T97, T103, T104, T105, T106, T107, T109, T110]
    repeat' (first | with_reducible refine cnd_split (fun hc => ?_) (fun hc => ?_) | with_reducible refine Reqs.mk ?_ ?_)
    all_goals first | trivial | exact endS_v (t := (fourI (Iv.mk x1 x2))) hr rfl
  · cases hF

-- impl.isOpen
theorem impl_isOpen_openOk_ok : Fn Tryz.prog 105 F_openOk := by
  refine fn_of_go (O := orc []) mixed T_ok (orc_sound _) Tryz.func105 (by kernel_rfl) rfl Tryz.ntmps105 (by kernel_rfl) Tryz.results105 ?_
  intro args g pre r new hF hpre
  unfold F_openOk at hF
  split at hF
  · rename_i n
    simp only [Option.some.injEq, Prod.mk.injEq] at hF
    obtain ⟨rfl, hr, rfl⟩ := hF
    refine ⟨by simp, ?_⟩
    simp (config := { maxSteps := 4000000, implicitDefEqProofs := false }) only [WK0, WK1, WK2, WK3, WK4, WK5, WK6, WK7, WK8, WK9, WK10, WK11, WK12, WK13, WK14, WK15, WK16, WK17, WK18, WK19, WK20, WK21, WK22, WK23, WK24, WK25, WK26, WK27, WK28, look_hit, look_miss, List.map_cons, List.map_nil, Nat.add_zero, max_v, min_v, ↓cnd_t, ↓cnd_f, ↓grd_b, ↓grd_u, startEnv, Option.map_some, List.length_nil, List.length_cons, List.nil_append, List.cons_append, List.getElem?_cons_zero, List.getElem?_cons_succ, List.set_cons_zero, List.set_cons_succ, Bool.not_true, Bool.not_false, reduceIte, Nat.reduceEqDiff, Nat.reduceAdd, Nat.reduceLT, blt_lit, beq_lit, Bool.or_true, Bool.true_or, Bool.or_false, Bool.false_or, Bool.and_true, Bool.true_and, Bool.and_self, cond_true, cond_false, List.append_nil, Iv.eta, Option.map_none, idxO_l0, idxO_l1, decide_true, decide_false, reqs_true, Int.zero_sub, wrap_lit, wrapu_lit, Int.reduceLE, Int.reduceLT, Int.reduceAdd, Int.reduceSub, Int.reduceMul, Int.reduceNeg, Int.reduceEq, Option.bind_some, bin_shr_u64, bin_shl_u64, bin_shr_i64, bin_shl_i64, and_m32', Int.reduceToNat, Int.reducePow, Int.reduceMod, Int.reduceDiv, wrap_u64s, true_or, or_true, true_and, and_true, Option.isSome_none, Option.isSome_some, Nat.reduceLeDiff, Nat.reduceMul, Int.toNat_natCast, Int.cast_ofNat_Int, Int.natCast_zero, Int.natCast_one, List.isEmpty_nil, List.isEmpty_cons, List.replicate_zero, List.replicate_succ, T1, T2, T3, T4, T5, T6, T9, T10, T11, T12, T21, T22, T23, T24, T26, T27, T28, T29, T30, T31, T32, T33, T34, T35, T37, T38, T39, T40, T42, T43, T44, T45, T46, T47, T48, T50, T52, T54, T55, T56, T57, T58, T59, T60, T61, T62, T63, T64, T65, T66, T67, T68, T69, T70, T71, T72, T73, T75, T77, T78, T79, T80, T82, T83, T84, T85, T87, T89, T90, T91, T92, T95, T97, T103, T104, T105, T106, T107, T109, T110]
    repeat' (first | with_reducible refine cnd_split (fun hc => ?_) (fun hc => ?_) | with_reducible refine Reqs.mk ?_ ?_)
    all_goals (refine endS_b (t := (openOk n)) hr ?_; simp_all [openOk]; try omega)
  · cases hF

-- impl.AtanAt
theorem impl_AtanAt_atanP_ok : Fn Tryz.prog 40 F_atanP := by
  refine fn_of_go (O := orc [⟨74, F_divI, .inl impl_DivI_divI_ok⟩, ⟨83, F_subI, .inl impl_SubI_subI_ok⟩, ⟨90, F_intI, .inl impl_Integer_intI_ok⟩, ⟨92, F_atI, .inl impl_at_atI_ok⟩, ⟨105, F_openOk, .inl impl_isOpen_openOk_ok⟩, ⟨106, F_half2, .inl impl_halfCircle_half2_ok⟩, ⟨107, F_negI, .inl impl_NegI_negI_ok⟩, ⟨108, F_turnI, .inl impl_TurnI_turnI_ok⟩, ⟨109, F_four, .inl impl_fourfold_four_ok⟩]) mixed T_ok (orc_sound _) Tryz.func40 (by kernel_rfl) rfl Tryz.ntmps40 (by kernel_rfl) Tryz.results40 ?_
  intro args g pre r new hF hpre
  unfold F_atanP at hF
  split at hF
  · rename_i n
    simp only [Option.some.injEq, Prod.mk.injEq] at hF
    obtain ⟨rfl, hr, rfl⟩ := hF
    refine ⟨by simp, ?_⟩
    simp (config := { maxSteps := 4000000, implicitDefEqProofs := false }) only [F_atI_eq, F_divI_eq, F_four_eq, F_half2_eq, F_intI_eq, F_negI_eq, F_openOk_eq, F_subI_eq, F_turnI_eq, WK0, WK1, WK2, WK3, WK4, WK5, WK6, WK7, WK8, WK9, WK10, WK11, WK12, WK13, WK14, WK15, WK16, WK17, WK18, WK19, WK20, WK21, WK22, WK23, WK24, WK25, WK26, WK27, WK28, look_hit, look_miss, List.map_cons, List.map_nil, Nat.add_zero, max_v, min_v, ↓cnd_t, ↓cnd_f, ↓grd_b, ↓grd_u, startEnv, Option.map_some, List.length_nil, List.length_cons, List.nil_append, List.cons_append, List.getElem?_cons_zero, List.getElem?_cons_succ, List.set_cons_zero, List.set_cons_succ, Bool.not_true, Bool.not_false, reduceIte, Nat.reduceEqDiff, Nat.reduceAdd, Nat.reduceLT, blt_lit, beq_lit, Bool.or_true, Bool.true_or, Bool.or_false, Bool.false_or, Bool.and_true, Bool.true_and, Bool.and_self, cond_true, cond_false, List.append_nil, Iv.eta, Option.map_none, idxO_l0, idxO_l1, decide_true, decide_false, reqs_true, Int.zero_sub, wrap_lit, wrapu_lit, Int.reduceLE, Int.reduceLT, Int.reduceAdd, Int.reduceSub, Int.reduceMul, Int.reduceNeg, Int.reduceEq, Option.bind_some, bin_shr_u64, bin_shl_u64, bin_shr_i64, bin_shl_i64, and_m32', Int.reduceToNat, Int.reducePow, Int.reduceMod, Int.reduceDiv, wrap_u64s, true_or, or_true, true_and, and_true, Option.isSome_none, Option.isSome_some, Nat.reduceLeDiff, Nat.reduceMul, Int.toNat_natCast, Int.cast_ofNat_Int, Int.natCast_zero, Int.natCast_one, List.isEmpty_nil, List.isEmpty_cons, List.replicate_zero, List.replicate_succ, T1, T2, T3, T4, T5, T6, T9, T10, T11, T12, T21, T22, T23, T24, T26, T27, T28, T29, T30, T31, T32, T33, T34, T35, T37, T38, T39, T40, T42, T43, T44, T45, T46, T47, T48, T50, T52, T54, T55, T56, T57, T58, T59, T60, T61, T62, T63, T64, T65, T66, T67, T68, T69, T70, T71, T72, T73, T75, T77, T78, T79, T80, T82, T83, T84, T85, T87, T89, T90, T91, T92, T95, T97, T103, T104, T105, T106, T107, T109, T110]
    repeat' (first | with_reducible refine cnd_split (fun hc => ?_) (fun hc => ?_) | with_reducible refine Reqs.mk ?_ ?_)
    all_goals (try simp only [decide_eq_true_eq, decide_eq_false_iff_not] at *)
    all_goals first
      | trivial
      | (exfalso; omega)
      | (have : openOk n = true := by rw [openOk_iff]; omega
         simp_all; done)
      | (refine endS_v (t := (atanP n)) hr ?_; rw [atanP, if_pos (by assumption)]; done)
      | (refine endS_v (t := (atanP n)) hr ?_; rw [atanP, if_neg (by assumption)]; done)
  · cases hF

-- impl.AtanAt2
theorem impl_AtanAt_atanA_ok : Fn Tryz.prog 40 F_atanA := by
  refine fn_of_go (O := orc [⟨40, F_atanP, .inl impl_AtanAt_atanP_ok⟩, ⟨74, F_divI, .inl impl_DivI_divI_ok⟩, ⟨83, F_subI, .inl impl_SubI_subI_ok⟩, ⟨90, F_intI, .inl impl_Integer_intI_ok⟩, ⟨92, F_atI, .inl impl_at_atI_ok⟩, ⟨105, F_openOk, .inl impl_isOpen_openOk_ok⟩, ⟨106, F_half2, .inl impl_halfCircle_half2_ok⟩, ⟨107, F_negI, .inl impl_NegI_negI_ok⟩, ⟨108, F_turnI, .inl impl_TurnI_turnI_ok⟩, ⟨109, F_four, .inl impl_fourfold_four_ok⟩]) mixed T_ok (orc_sound _) Tryz.func40 (by kernel_rfl) rfl Tryz.ntmps40 (by kernel_rfl) Tryz.results40 ?_
  intro args g pre r new hF hpre
  unfold F_atanA at hF
  split at hF
  · rename_i n
    simp only [Option.some.injEq, Prod.mk.injEq] at hF
    obtain ⟨rfl, hr, rfl⟩ := hF
    refine ⟨by simp, ?_⟩
    simp (config := { maxSteps := 4000000, implicitDefEqProofs := false }) only [F_atI_eq, F_atanP_eq, F_divI_eq, F_four_eq, F_half2_eq, F_intI_eq, F_negI_eq, F_openOk_eq, F_subI_eq, F_turnI_eq, WK0, WK1, WK2, WK3, WK4, WK5, WK6, WK7, WK8, WK9, WK10, WK11, WK12, WK13, WK14, WK15, WK16, WK17, WK18, WK19, WK20, WK21, WK22, WK23, WK24, WK25, WK26, WK27, WK28, look_hit, look_miss, List.map_cons, List.map_nil, Nat.add_zero, max_v, min_v, ↓cnd_t, ↓cnd_f, ↓grd_b, ↓grd_u, startEnv, Option.map_some, List.length_nil, List.length_cons, List.nil_append, List.cons_append, List.getElem?_cons_zero, List.getElem?_cons_succ, List.set_cons_zero, List.set_cons_succ, Bool.not_true, Bool.not_false, reduceIte, Nat.reduceEqDiff, Nat.reduceAdd, Nat.reduceLT, blt_lit, beq_lit, Bool.or_true, Bool.true_or, Bool.or_false, Bool.false_or, Bool.and_true, Bool.true_and, Bool.and_self, cond_true, cond_false, List.append_nil, Iv.eta, Option.map_none, idxO_l0, idxO_l1, decide_true, decide_false, reqs_true, Int.zero_sub, wrap_lit, wrapu_lit, Int.reduceLE, Int.reduceLT, Int.reduceAdd, Int.reduceSub, Int.reduceMul, Int.reduceNeg, Int.reduceEq, Option.bind_some, bin_shr_u64, bin_shl_u64, bin_shr_i64, bin_shl_i64, and_m32', Int.reduceToNat, Int.reducePow, Int.reduceMod, Int.reduceDiv, wrap_u64s, true_or, or_true, true_and, and_true, Option.isSome_none, Option.isSome_some, Nat.reduceLeDiff, Nat.reduceMul, Int.toNat_natCast, Int.cast_ofNat_Int, Int.natCast_zero, Int.natCast_one, List.isEmpty_nil, List.isEmpty_cons, List.replicate_zero, List.replicate_succ, T1, T2, T3, T4, T5, T6, T9, T10, T11, T12, T21, T22, T23, T24, T26, T27, T28, T29, T30, T31, T32, T33, T34, T35, T37, T38, T39, T40, T42, T43, T44, T45, T46, T47, T48, T50, T52, T54, T55, T56, T57, T58, T59, T60, T61, T62, T63, T64, T65, T66, T67, T68, T69, T70, T71, T72, T73, T75, T77, T78, T79, T80, T82, T83, T84, T85, T87, T89, T90, T91, T92, T95, T97, T103, T104, T105, T106, T107, T109, T110]
    repeat' (first | with_reducible refine cnd_split (fun hc => ?_) (fun hc => ?_) | with_reducible refine Reqs.mk ?_ ?_)
    all_goals (try simp only [decide_eq_true_eq, decide_eq_false_iff_not] at *)
    all_goals first
      | trivial
      | (refine endS_v (t := (atanA n)) hr ?_; rw [atanA, if_neg (by simp_all)]; done)
      | skip
    all_goals (have hw := openOk_iff.1 (by assumption : openOk n = true))
    all_goals first
      | (rw [wrap_om (n := -n) (by omega) (by omega)]; omega)
      | (refine endS_v (t := (atanA n)) hr ?_
         rw [wrap_om (n := -n) (by omega) (by omega), atanA, if_pos (by assumption), if_pos (by assumption)]; done)
      | (refine endS_v (t := (atanA n)) hr ?_
         rw [atanA, if_pos (by assumption), if_neg (by omega), atanP]
         first
         | (rw [if_pos (by assumption)]; done)
         | (rw [if_neg (by assumption)]; done))
  · cases hF

-- impl.AtanI
theorem impl_AtanI_atanI_ok : Fn Tryz.prog 112 F_atanI := by
  refine fn_of_go (O := orc [⟨40, F_atanA, .inl impl_AtanAt_atanA_ok⟩, ⟨73, F_hullI, .inl impl_HullI_hullI_ok⟩, ⟨98, F_notOk, .inl impl_IsWhole_notOk_ok⟩, ⟨106, F_half2, .inl impl_halfCircle_half2_ok⟩]) mixed T_ok (orc_sound _) Tryz.func112 (by kernel_rfl) rfl Tryz.ntmps112 (by kernel_rfl) Tryz.results112 ?_
  intro args g pre r new hF hpre
  unfold F_atanI at hF
  split at hF
  · rename_i x1 x2
    simp only [Option.some.injEq, Prod.mk.injEq] at hF
    obtain ⟨rfl, hr, rfl⟩ := hF
    refine ⟨by simp, ?_⟩
    simp (config := { maxSteps := 4000000, implicitDefEqProofs := false }) only [F_atanA_eq, F_half2_eq, F_hullI_eq, F_notOk_eq, WK0, WK1, WK2, WK3, WK4, WK5, WK6, WK7, WK8, WK9, WK10, WK11, WK12, WK13, WK14, WK15, WK16, WK17, WK18, WK19, WK20, WK21, WK22, WK23, WK24, WK25, WK26, WK27, WK28, look_hit, look_miss, List.map_cons, List.map_nil, Nat.add_zero, max_v, min_v, ↓cnd_t, ↓cnd_f, ↓grd_b, ↓grd_u, startEnv, Option.map_some, List.length_nil, List.length_cons, List.nil_append, List.cons_append, List.getElem?_cons_zero, List.getElem?_cons_succ, List.set_cons_zero, List.set_cons_succ, Bool.not_true, Bool.not_false, reduceIte, Nat.reduceEqDiff, Nat.reduceAdd, Nat.reduceLT, blt_lit, beq_lit, Bool.or_true, Bool.true_or, Bool.or_false, Bool.false_or, Bool.and_true, Bool.true_and, Bool.and_self, cond_true, cond_false, List.append_nil, Iv.eta, Option.map_none, idxO_l0, idxO_l1, decide_true, decide_false, reqs_true, Int.zero_sub, wrap_lit, wrapu_lit, Int.reduceLE, Int.reduceLT, Int.reduceAdd, Int.reduceSub, Int.reduceMul, Int.reduceNeg, Int.reduceEq, Option.bind_some, bin_shr_u64, bin_shl_u64, bin_shr_i64, bin_shl_i64, and_m32', Int.reduceToNat, Int.reducePow, Int.reduceMod, Int.reduceDiv, wrap_u64s, true_or, or_true, true_and, and_true, Option.isSome_none, Option.isSome_some, Nat.reduceLeDiff, Nat.reduceMul, Int.toNat_natCast, Int.cast_ofNat_Int, Int.natCast_zero, Int.natCast_one, List.isEmpty_nil, List.isEmpty_cons, List.replicate_zero, List.replicate_succ, T1, T2, T3, T4, T5, T6, T9, T10, T11, T12, T21, T22, T23, T24, T26, T27, T28, T29, T30, T31, T32, T33, T34, T35, T37, T38, T39, T40, T42, T43, T44, T45, T46, T47, T48, T50, T52, T54, T55, T56, T57, T58, T59, T60, T61, T62, T63, T64, T65, T66, T67, T68, T69, T70, T71, T72, T73, T75, T77, T78, T79, T80, T82, T83, T84, T85, T87, T89, T90, T91, T92, T95, T97, T103, T104, T105, T106, T107, T109, T110]
    repeat' (first | with_reducible refine cnd_split (fun hc => ?_) (fun hc => ?_) | with_reducible refine Reqs.mk ?_ ?_)
    all_goals first
      | trivial
      | (refine endS_v (t := (atanI (Iv.mk x1 x2))) hr ?_; simp_all [atanI]; done)
  · cases hF

end Go.Proofs.YtcnapkdccjibpaaGreat.Eng
