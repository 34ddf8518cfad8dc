/- What functions of the program compute, and that the program computes it: part 18. -/
import Derived.Test.YtcnapkdccjibpaaGreatTab
import Derived.Test.YtcnapkdccjibpaaGreatEng16
import Derived.Laws.BitsLemmas
import Derived.Laws.Bits64
import Derived.Laws.Bits64b
import Derived.Lib.Mul64
import Derived.Lib.BitFns
import Derived.Laws.Externs
import Derived.Test.YtcnapkdccjibpaaGreatL1
import Derived.Test.YtcnapkdccjibpaaGreatL2
import Derived.Test.YtcnapkdccjibpaaGreatL3
import Derived.Test.YtcnapkdccjibpaaGreatL8
import Derived.Test.YtcnapkdccjibpaaGreatL12
import Derived.Test.YtcnapkdccjibpaaGreatL17
namespace Go.Proofs.YtcnapkdccjibpaaGreat.Eng
open Go Go.RowKit
set_option linter.unusedVariables false
set_option linter.unusedSimpArgs false
set_option maxRecDepth 100000
set_option maxHeartbeats 1000000
-- directions
def dirA (y x : Int) : Iv := if openOk y = true ∧ openOk x = true ∧ ¬ (y = 0 ∧ x = 0) then (if absZ x < absZ y then subI (turnI (if y < 0 then -1 else 1)) (atanI (divI ⟨x, x⟩ ⟨y, y⟩)) else if 0 < x then atanI (divI ⟨y, y⟩ ⟨x, x⟩) else if y < 0 then addI (atanI (divI ⟨y, y⟩ ⟨x, x⟩)) (turnI (-2)) else addI (atanI (divI ⟨y, y⟩ ⟨x, x⟩)) (turnI 2)) else whole
def F_dirA : FT
  | [.c (.p (.int .i64 y)), .c (.p (.int .i64 x))], _ => some (True, .v (.agg [.int .i64 ((dirA y x)).lo, .int .i64 ((dirA y x)).hi]), [])
  | _, _ => none
theorem F_dirA_eq {y : Int} {x : Int} {g : List PC} : F_dirA [.c (.p (.int .i64 y)), .c (.p (.int .i64 x))] g = some (True, .v (.agg [.int .i64 ((dirA y x)).lo, .int .i64 ((dirA y x)).hi]), []) := rfl
theorem dirA_w {y x : Int} (h : ¬ (openOk y = true ∧ openOk x = true ∧ ¬ (y = 0 ∧ x = 0))) : dirA y x = whole := by
  unfold dirA
  rw [if_neg h]
theorem dirA_1 {y x : Int} (h : openOk y = true ∧ openOk x = true ∧ ¬ (y = 0 ∧ x = 0)) (ha : absZ x < absZ y) (hy : y < 0) : dirA y x = subI (turnI (-1)) (atanI (divI ⟨x, x⟩ ⟨y, y⟩)) := by
  unfold dirA
  rw [if_pos h, if_pos ha, if_pos hy]
theorem dirA_2 {y x : Int} (h : openOk y = true ∧ openOk x = true ∧ ¬ (y = 0 ∧ x = 0)) (ha : absZ x < absZ y) (hy : ¬ y < 0) : dirA y x = subI (turnI 1) (atanI (divI ⟨x, x⟩ ⟨y, y⟩)) := by
  unfold dirA
  rw [if_pos h, if_pos ha, if_neg hy]
theorem dirA_3 {y x : Int} (h : openOk y = true ∧ openOk x = true ∧ ¬ (y = 0 ∧ x = 0)) (ha : ¬ absZ x < absZ y) (hx : 0 < x) : dirA y x = atanI (divI ⟨y, y⟩ ⟨x, x⟩) := by
  unfold dirA
  rw [if_pos h, if_neg ha, if_pos hx]
theorem dirA_4 {y x : Int} (h : openOk y = true ∧ openOk x = true ∧ ¬ (y = 0 ∧ x = 0)) (ha : ¬ absZ x < absZ y) (hx : ¬ 0 < x) (hy : y < 0) : dirA y x = addI (atanI (divI ⟨y, y⟩ ⟨x, x⟩)) (turnI (-2)) := by
  unfold dirA
  rw [if_pos h, if_neg ha, if_neg hx, if_pos hy]
theorem dirA_5 {y x : Int} (h : openOk y = true ∧ openOk x = true ∧ ¬ (y = 0 ∧ x = 0)) (ha : ¬ absZ x < absZ y) (hx : ¬ 0 < x) (hy : ¬ y < 0) : dirA y x = addI (atanI (divI ⟨y, y⟩ ⟨x, x⟩)) (turnI 2) := by
  unfold dirA
  rw [if_pos h, if_neg ha, if_neg hx, if_neg hy]
theorem abs_lt_iff {y x : Int} : absZ x < absZ y ↔ x < absZ y ∧ -x < absZ y := by
  unfold absZ
  repeat' split
  all_goals omega
def dirI (y x : Iv) : Iv := if okI y = true ∧ okI x = true ∧ ¬ ((okI y = false ∨ within 0 y.lo y.hi = true) ∧ (okI x = false ∨ within 0 x.lo x.hi = true)) ∧ ¬ (x.lo < 0 ∧ y.lo < 0 ∧ 0 ≤ y.hi) then hullI (hullI (dirA y.lo x.lo) (dirA y.lo x.hi)) (hullI (dirA y.hi x.lo) (dirA y.hi x.hi)) else whole
def F_dirI : FT
  | [.agg [.int .i64 y1, .int .i64 y2], .agg [.int .i64 x1, .int .i64 x2]], _ => some (True, .v (.agg [.int .i64 ((dirI (Iv.mk y1 y2) (Iv.mk x1 x2))).lo, .int .i64 ((dirI (Iv.mk y1 y2) (Iv.mk x1 x2))).hi]), [])
  | _, _ => none
theorem F_dirI_eq {y1 : Int} {y2 : Int} {x1 : Int} {x2 : Int} {g : List PC} : F_dirI [.agg [.int .i64 y1, .int .i64 y2], .agg [.int .i64 x1, .int .i64 x2]] g = some (True, .v (.agg [.int .i64 ((dirI (Iv.mk y1 y2) (Iv.mk x1 x2))).lo, .int .i64 ((dirI (Iv.mk y1 y2) (Iv.mk x1 x2))).hi]), []) := rfl

-- impl.DirectionAt
theorem impl_DirectionAt_dirA_ok : Fn Tryz.prog 53 F_dirA := by
  refine fn_of_go (O := orc [⟨71, F_whole, .inl impl_Whole_whole_ok⟩, ⟨74, F_divI, .inl impl_DivI_divI_ok⟩, ⟨83, F_subI, .inl impl_SubI_subI_ok⟩, ⟨86, F_addI, .inl impl_AddI_addI_ok⟩, ⟨92, F_atI, .inl impl_at_atI_ok⟩, ⟨105, F_openOk, .inl impl_isOpen_openOk_ok⟩, ⟨108, F_turnI, .inl impl_TurnI_turnI_ok⟩, ⟨112, F_atanI, .inl impl_AtanI_atanI_ok⟩, ⟨124, F_absZ, .inl impl_abs_absZ_ok⟩]) mixed T_ok (orc_sound _) Tryz.func53 (by kernel_rfl) rfl Tryz.ntmps53 (by kernel_rfl) Tryz.results53 ?_
  intro args g pre r new hF hpre
  unfold F_dirA at hF
  split at hF
  · rename_i y x
    simp only [Option.some.injEq, Prod.mk.injEq] at hF
    obtain ⟨rfl, hr, rfl⟩ := hF
    refine ⟨by simp, ?_⟩
    simp (config := { maxSteps := 4000000, implicitDefEqProofs := false }) only [F_absZ_eq, F_addI_eq, F_atI_eq, F_atanI_eq, F_divI_eq, F_openOk_eq, F_subI_eq, F_turnI_eq, F_whole_eq, WK0, WK1, WK2, WK3, WK4, WK5, WK6, WK7, WK8, WK9, WK10, WK11, WK12, WK13, WK14, WK15, WK16, WK17, WK18, WK19, WK20, WK21, WK22, WK23, WK24, WK25, WK26, WK27, WK28, look_hit, look_miss, List.map_cons, List.map_nil, Nat.add_zero, max_v, min_v, ↓cnd_t, ↓cnd_f, ↓grd_b, ↓grd_u, startEnv, Option.map_some, List.length_nil, List.length_cons, List.nil_append, List.cons_append, List.getElem?_cons_zero, List.getElem?_cons_succ, List.set_cons_zero, List.set_cons_succ, Bool.not_true, Bool.not_false, reduceIte, Nat.reduceEqDiff, Nat.reduceAdd, Nat.reduceLT, blt_lit, beq_lit, Bool.or_true, Bool.true_or, Bool.or_false, Bool.false_or, Bool.and_true, Bool.true_and, Bool.and_self, cond_true, cond_false, List.append_nil, Iv.eta, Option.map_none, idxO_l0, idxO_l1, decide_true, decide_false, reqs_true, Int.zero_sub, wrap_lit, wrapu_lit, Int.reduceLE, Int.reduceLT, Int.reduceAdd, Int.reduceSub, Int.reduceMul, Int.reduceNeg, Int.reduceEq, Option.bind_some, bin_shr_u64, bin_shl_u64, bin_shr_i64, bin_shl_i64, and_m32', Int.reduceToNat, Int.reducePow, Int.reduceMod, Int.reduceDiv, wrap_u64s, true_or, or_true, true_and, and_true, Option.isSome_none, Option.isSome_some, Nat.reduceLeDiff, Nat.reduceMul, Int.toNat_natCast, Int.cast_ofNat_Int, Int.natCast_zero, Int.natCast_one, List.isEmpty_nil, List.isEmpty_cons, List.replicate_zero, List.replicate_succ, T1, T2, T3, T4, T5, T6, T9, T10, T11, T12, T21, T22, T23, T24, T26, T27, T28, T29, T30, T31, T32, T33, T34, T35, T37, T38, T39, T40, T42, T43, T44, T45, T46, T47, T48, T50, T52, T54, T55, T56, T57, T58, T59, T60, T61, T62, T63, T64, T65, T66, T67, T68, T69, T70, T71, T72, T73, T75, T77, T78, T79, T80, T82, T83, T84, T85, T87, T89, T90, T91, T92, T95, T97, T103, T104, T105, T106, T107, T109, T110]
    repeat' (first | with_reducible refine cnd_split (fun hc => ?_) (fun hc => ?_) | with_reducible refine Reqs.mk ?_ ?_)
    all_goals (try simp only [decide_eq_true_eq, decide_eq_false_iff_not] at *)
    all_goals first
      | trivial
      | (have h1 := openOk_iff.1 (by assumption : openOk y = true); omega)
      | (have h1 := openOk_iff.1 (by assumption : openOk x = true); omega)
      | (refine endS_v (t := (dirA y x)) hr ?_; rw [dirA_w (by simp_all)]; done)
      | (refine endS_v (t := (dirA y x)) hr ?_; rw [dirA_w (by rintro ⟨g1, g2, g3⟩; simp_all)]; done)
      | (have hh : openOk y = true ∧ openOk x = true ∧ ¬ (y = 0 ∧ x = 0) := ⟨by assumption, by assumption, by omega⟩
         refine endS_v (t := (dirA y x)) hr ?_
         first
         | (rw [dirA_1 hh (by assumption) (by assumption)]; done)
         | (rw [dirA_2 hh (by assumption) (by assumption)]; done)
         | (rw [dirA_3 hh (by assumption) (by assumption)]; done)
         | (rw [dirA_4 hh (by assumption) (by assumption) (by assumption)]; done)
         | (rw [dirA_5 hh (by assumption) (by assumption) (by assumption)]; done))
  · cases hF

-- impl.DirectionI
theorem impl_DirectionI_dirI_ok : Fn Tryz.prog 50 F_dirI := by
  refine fn_of_go (O := orc [⟨53, F_dirA, .inl impl_DirectionAt_dirA_ok⟩, ⟨71, F_whole, .inl impl_Whole_whole_ok⟩, ⟨73, F_hullI, .inl impl_HullI_hullI_ok⟩, ⟨121, F_areOk, .inl impl_areBounded_areOk_ok⟩, ⟨122, F_hasI, .inl impl_HasI_hasI_ok⟩]) mixed T_ok (orc_sound _) Tryz.func50 (by kernel_rfl) rfl Tryz.ntmps50 (by kernel_rfl) Tryz.results50 ?_
  intro args g pre r new hF hpre
  unfold F_dirI at hF
  split at hF
  · rename_i y1 y2 x1 x2
    simp only [Option.some.injEq, Prod.mk.injEq] at hF
    obtain ⟨rfl, hr, rfl⟩ := hF
    refine ⟨by simp, ?_⟩
    simp (config := { maxSteps := 4000000, implicitDefEqProofs := false }) only [F_areOk_eq, F_dirA_eq, F_hasI_eq, F_hullI_eq, F_whole_eq, WK0, WK1, WK2, WK3, WK4, WK5, WK6, WK7, WK8, WK9, WK10, WK11, WK12, WK13, WK14, WK15, WK16, WK17, WK18, WK19, WK20, WK21, WK22, WK23, WK24, WK25, WK26, WK27, WK28, look_hit, look_miss, List.map_cons, List.map_nil, Nat.add_zero, max_v, min_v, ↓cnd_t, ↓cnd_f, ↓grd_b, ↓grd_u, startEnv, Option.map_some, List.length_nil, List.length_cons, List.nil_append, List.cons_append, List.getElem?_cons_zero, List.getElem?_cons_succ, List.set_cons_zero, List.set_cons_succ, Bool.not_true, Bool.not_false, reduceIte, Nat.reduceEqDiff, Nat.reduceAdd, Nat.reduceLT, blt_lit, beq_lit, Bool.or_true, Bool.true_or, Bool.or_false, Bool.false_or, Bool.and_true, Bool.true_and, Bool.and_self, cond_true, cond_false, List.append_nil, Iv.eta, Option.map_none, idxO_l0, idxO_l1, decide_true, decide_false, reqs_true, Int.zero_sub, wrap_lit, wrapu_lit, Int.reduceLE, Int.reduceLT, Int.reduceAdd, Int.reduceSub, Int.reduceMul, Int.reduceNeg, Int.reduceEq, Option.bind_some, bin_shr_u64, bin_shl_u64, bin_shr_i64, bin_shl_i64, and_m32', Int.reduceToNat, Int.reducePow, Int.reduceMod, Int.reduceDiv, wrap_u64s, true_or, or_true, true_and, and_true, Option.isSome_none, Option.isSome_some, Nat.reduceLeDiff, Nat.reduceMul, Int.toNat_natCast, Int.cast_ofNat_Int, Int.natCast_zero, Int.natCast_one, List.isEmpty_nil, List.isEmpty_cons, List.replicate_zero, List.replicate_succ, T1, T2, T3, T4, T5, T6, T9, T10, T11, T12, T21, T22, T23, T24, T26, T27, T28, T29, T30, T31, T32, T33, T34, T35, T37, T38, T39, T40, T42, T43, T44, T45, T46, T47, T48, T50, T52, T54, T55, T56, T57, T58, T59, T60, T61, T62, T63, T64, T65, T66, T67, T68, T69, T70, T71, T72, T73, T75, T77, T78, T79, T80, T82, T83, T84, T85, T87, T89, T90, T91, T92, T95, T97, T103, T104, T105, T106, T107, T109, T110]
    repeat' (first | with_reducible refine cnd_split (fun hc => ?_) (fun hc => ?_) | with_reducible refine Reqs.mk ?_ ?_)
    all_goals (try simp only [decide_eq_true_eq, decide_eq_false_iff_not] at *)
    all_goals first
      | trivial
      | (refine endS_v (t := (dirI (Iv.mk y1 y2) (Iv.mk x1 x2))) hr ?_; rw [dirI, if_neg (by first | (simp_all; done) | (simp_all <;> omega))]; done)
      | (refine endS_v (t := (dirI (Iv.mk y1 y2) (Iv.mk x1 x2))) hr ?_; rw [dirI, if_neg (by rintro ⟨g1, g2, g3, g4⟩; first | (simp_all; done) | (simp_all <;> omega))]; done)
      | (refine endS_v (t := (dirI (Iv.mk y1 y2) (Iv.mk x1 x2))) hr ?_; rw [dirI, if_pos (by simp_all <;> omega)]; done)
  · cases hF

end Go.Proofs.YtcnapkdccjibpaaGreat.Eng
