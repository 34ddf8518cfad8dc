/- What functions of the program compute, and that the program computes it: part 20. -/
import Derived.Test.YtcnapkdccjibpaaGreatTab
import Derived.Test.YtcnapkdccjibpaaGreatEng16
import Derived.Laws.BitsLemmas
import Derived.Laws.Bits64
import Derived.Laws.Bits64b
import Derived.Lib.Mul64
import Derived.Lib.BitFns
import Derived.Laws.Externs
import Derived.Test.YtcnapkdccjibpaaGreatL1
import Derived.Test.YtcnapkdccjibpaaGreatL2
import Derived.Test.YtcnapkdccjibpaaGreatL3
import Derived.Test.YtcnapkdccjibpaaGreatL6
import Derived.Test.YtcnapkdccjibpaaGreatL7
import Derived.Test.YtcnapkdccjibpaaGreatL8
import Derived.Test.YtcnapkdccjibpaaGreatL12
import Derived.Test.YtcnapkdccjibpaaGreatL16
import Derived.Test.YtcnapkdccjibpaaGreatL17
namespace Go.Proofs.YtcnapkdccjibpaaGreat.Eng
open Go Go.RowKit
set_option linter.unusedVariables false
set_option linter.unusedSimpArgs false
set_option maxRecDepth 100000
set_option maxHeartbeats 1000000
-- impl.HalfI
theorem impl_HalfI_halfI_ok : Fn Tryz.prog 82 F_halfI := by
  refine fn_of_go (O := orc [⟨71, F_whole, .inl impl_Whole_whole_ok⟩, ⟨98, F_notOk, .inl impl_IsWhole_notOk_ok⟩]) mixed T_ok (orc_sound _) Tryz.func82 (by kernel_rfl) rfl Tryz.ntmps82 (by kernel_rfl) Tryz.results82 ?_
  intro args g pre r new hF hpre
  unfold F_halfI at hF
  split at hF
  · rename_i a1 a2
    simp only [Option.some.injEq, Prod.mk.injEq] at hF
    obtain ⟨rfl, hr, rfl⟩ := hF
    refine ⟨by simp, ?_⟩
    simp (config := { maxSteps := 4000000, implicitDefEqProofs := false }) only [F_notOk_eq, F_whole_eq, WK0, WK1, WK2, WK3, WK4, WK5, WK6, WK7, WK8, WK9, WK10, WK11, WK12, WK13, WK14, WK15, WK16, WK17, WK18, WK19, WK20, WK21, WK22, WK23, WK24, WK25, WK26, WK27, WK28, look_hit, look_miss, List.map_cons, List.map_nil, Nat.add_zero, max_v, min_v, ↓cnd_t, ↓cnd_f, ↓grd_b, ↓grd_u, startEnv, Option.map_some, List.length_nil, List.length_cons, List.nil_append, List.cons_append, List.getElem?_cons_zero, List.getElem?_cons_succ, List.set_cons_zero, List.set_cons_succ, Bool.not_true, Bool.not_false, reduceIte, Nat.reduceEqDiff, Nat.reduceAdd, Nat.reduceLT, blt_lit, beq_lit, Bool.or_true, Bool.true_or, Bool.or_false, Bool.false_or, Bool.and_true, Bool.true_and, Bool.and_self, cond_true, cond_false, List.append_nil, Iv.eta, Option.map_none, idxO_l0, idxO_l1, decide_true, decide_false, reqs_true, Int.zero_sub, wrap_lit, wrapu_lit, Int.reduceLE, Int.reduceLT, Int.reduceAdd, Int.reduceSub, Int.reduceMul, Int.reduceNeg, Int.reduceEq, Option.bind_some, bin_shr_u64, bin_shl_u64, bin_shr_i64, bin_shl_i64, and_m32', Int.reduceToNat, Int.reducePow, Int.reduceMod, Int.reduceDiv, wrap_u64s, true_or, or_true, true_and, and_true, Option.isSome_none, Option.isSome_some, Nat.reduceLeDiff, Nat.reduceMul, Int.toNat_natCast, Int.cast_ofNat_Int, Int.natCast_zero, Int.natCast_one, List.isEmpty_nil, List.isEmpty_cons, List.replicate_zero, List.replicate_succ, T1, T2, T3, T4, T5, T6, T9, T10, T11, T12, T21, T22, T23, T24, T26, T27, T28, T29, T30, T31, T32, T33, T34, T35, T37, T38, T39, T40, T42, T43, T44, T45, T46, T47, T48, T50, T52, T54, T55, T56, T57, T58, T59, T60, T61, T62, T63, T64, T65, T66, T67, T68, T69, T70, T71, T72, T73, T75, T77, T78, T79, T80, T82, T83, T84, T85, T87, T89, T90, T91, T92, T95, T97, T103, T104, T105, T106, T107, T109, T110]
    repeat' (first | with_reducible refine cnd_split (fun hc => ?_) (fun hc => ?_) | with_reducible refine Reqs.mk ?_ ?_)
    all_goals (first | trivial | (refine endS_v (t := (halfI (Iv.mk a1 a2))) hr ?_; try simp_all [halfI]))
    all_goals (try simp only [okI_mk, within_iff] at *)
    all_goals (try simp (disch := omega) only [wrap_om, wrapu_om, mkI_lin])
    all_goals (try simp_all [halfI])
    all_goals (try omega)
  · cases hF

-- mono
def monoI (f : Int → Iv) (x : Iv) : Iv := if okI x then (if okI (f x.lo) && okI (f x.hi) then mkI (f x.lo).lo (f x.hi).hi else whole) else whole
def oddI (f : Int → Iv) (n : Int) : Iv := if n < 0 then negI (f (-n)) else f n
def sinhF (n : Int) : Iv := halfI (subI (expA n) (expA (-n)))
def coshF (n : Int) : Iv := halfI (addI (expA n) (expA (-n)))
def tanhP (n : Int) : Iv := if 51539607552 < n then ⟨4294967295, 4294967296⟩ else divI (subI (intI 1) (expA (-2 * n))) (addI (intI 1) (expA (-2 * n)))
def asinhP (n : Int) : Iv := if n ≤ 35184372088832 then monoI logA (addI ⟨n, n⟩ (sqrtI (addI (sqrI ⟨n, n⟩) (intI 1)))) else addI (addI (lnI 1) (logA n)) ⟨0, 16⟩
def atanhP (n : Int) : Iv := if 4294967296 ≤ n then whole else halfI (monoI logA (divI ⟨4294967296 + n, 4294967296 + n⟩ ⟨4294967296 - n, 4294967296 - n⟩))
def endsI (a b : Iv) : Iv := if okI a && okI b then mkI a.lo b.hi else whole
def F_endsI : FT
  | [.agg [.int .i64 a1, .int .i64 a2], .agg [.int .i64 b1, .int .i64 b2]], _ => some (True, .v (.agg [.int .i64 ((endsI (Iv.mk a1 a2) (Iv.mk b1 b2))).lo, .int .i64 ((endsI (Iv.mk a1 a2) (Iv.mk b1 b2))).hi]), [])
  | _, _ => none
theorem F_endsI_eq {a1 : Int} {a2 : Int} {b1 : Int} {b2 : Int} {g : List PC} : F_endsI [.agg [.int .i64 a1, .int .i64 a2], .agg [.int .i64 b1, .int .i64 b2]] g = some (True, .v (.agg [.int .i64 ((endsI (Iv.mk a1 a2) (Iv.mk b1 b2))).lo, .int .i64 ((endsI (Iv.mk a1 a2) (Iv.mk b1 b2))).hi]), []) := rfl
theorem mono_ok {f : Int → Iv} {x1 x2 : Int} (h : okI ⟨x1, x2⟩ = true) : monoI f ⟨x1, x2⟩ = endsI (f x1) (f x2) := by
  unfold monoI endsI
  rw [if_pos h]
theorem mono_no {f : Int → Iv} {x : Iv} (h : okI x = false) : monoI f x = whole := by
  unfold monoI
  rw [h]; rfl
theorem abs_ok {x : Iv} (h : okI x = true) : okI (absI x) = true ∧ 0 ≤ (absI x).lo := by
  have hn := nearI_ok h
  unfold absI
  rw [if_pos h]
  refine ⟨hn, ?_⟩
  show 0 ≤ nearI x
  unfold nearI absZ
  repeat' split
  all_goals omega
theorem abs_no {x : Iv} (h : okI x = false) : okI (absI x) = false := by
  unfold absI
  rw [h]; rfl
theorem at_mk {n : Int} (h : -1152921504606846976 < n ∧ n < 1152921504606846976) : mkI n n = ⟨n, n⟩ := mkI_lin h.1 (by omega) h.2

-- impl.monotonic Exp
def F_monoExp : FT
  | [.agg [.int .i64 x1, .int .i64 x2], .c (.p (.fn 35))], _ => some (True, .v (.agg [.int .i64 ((monoI (expA) (Iv.mk x1 x2))).lo, .int .i64 ((monoI (expA) (Iv.mk x1 x2))).hi]), [])
  | _, _ => none
theorem F_monoExp_eq {x1 : Int} {x2 : Int} {g : List PC} : F_monoExp [.agg [.int .i64 x1, .int .i64 x2], .c (.p (.fn 35))] g = some (True, .v (.agg [.int .i64 ((monoI (expA) (Iv.mk x1 x2))).lo, .int .i64 ((monoI (expA) (Iv.mk x1 x2))).hi]), []) := rfl
theorem impl_monotonic_monoExp_ok : Fn Tryz.prog 80 F_monoExp := by
  refine fn_of_go (O := orc [⟨35, F_expA, .inl impl_ExpAt_expA_ok⟩, ⟨71, F_whole, .inl impl_Whole_whole_ok⟩, ⟨98, F_notOk, .inl impl_IsWhole_notOk_ok⟩, ⟨121, F_areOk, .inl impl_areBounded_areOk_ok⟩, ⟨141, F_bounded, .inl impl_bounded_bounded_ok⟩]) mixed T_ok (orc_sound _) Tryz.func80 (by kernel_rfl) rfl Tryz.ntmps80 (by kernel_rfl) Tryz.results80 ?_
  intro args g pre r new hF hpre
  unfold F_monoExp at hF
  split at hF
  · rename_i x1 x2
    simp only [Option.some.injEq, Prod.mk.injEq] at hF
    obtain ⟨rfl, hr, rfl⟩ := hF
    refine ⟨by simp, ?_⟩
    simp (config := { maxSteps := 4000000, implicitDefEqProofs := false }) only [F_areOk_eq, F_bounded_eq, F_expA_eq, F_notOk_eq, F_whole_eq, WK0, WK1, WK2, WK3, WK4, WK5, WK6, WK7, WK8, WK9, WK10, WK11, WK12, WK13, WK14, WK15, WK16, WK17, WK18, WK19, WK20, WK21, WK22, WK23, WK24, WK25, WK26, WK27, WK28, look_hit, look_miss, List.map_cons, List.map_nil, Nat.add_zero, max_v, min_v, ↓cnd_t, ↓cnd_f, ↓grd_b, ↓grd_u, startEnv, Option.map_some, List.length_nil, List.length_cons, List.nil_append, List.cons_append, List.getElem?_cons_zero, List.getElem?_cons_succ, List.set_cons_zero, List.set_cons_succ, Bool.not_true, Bool.not_false, reduceIte, Nat.reduceEqDiff, Nat.reduceAdd, Nat.reduceLT, blt_lit, beq_lit, Bool.or_true, Bool.true_or, Bool.or_false, Bool.false_or, Bool.and_true, Bool.true_and, Bool.and_self, cond_true, cond_false, List.append_nil, Iv.eta, Option.map_none, idxO_l0, idxO_l1, decide_true, decide_false, reqs_true, Int.zero_sub, wrap_lit, wrapu_lit, Int.reduceLE, Int.reduceLT, Int.reduceAdd, Int.reduceSub, Int.reduceMul, Int.reduceNeg, Int.reduceEq, Option.bind_some, bin_shr_u64, bin_shl_u64, bin_shr_i64, bin_shl_i64, and_m32', Int.reduceToNat, Int.reducePow, Int.reduceMod, Int.reduceDiv, wrap_u64s, true_or, or_true, true_and, and_true, Option.isSome_none, Option.isSome_some, Nat.reduceLeDiff, Nat.reduceMul, Int.toNat_natCast, Int.cast_ofNat_Int, Int.natCast_zero, Int.natCast_one, List.isEmpty_nil, List.isEmpty_cons, List.replicate_zero, List.replicate_succ, T1, T2, T3, T4, T5, T6, T9, T10, T11, T12, T21, T22, T23, T24, T26, T27, T28, T29, T30, T31, T32, T33, T34, T35, T37, T38, T39, T40, T42, T43, T44, T45, T46, T47, T48, T50, T52, T54, T55, T56, T57, T58, T59, T60, T61, T62, T63, T64, T65, T66, T67, T68, T69, T70, T71, T72, T73, T75, T77, T78, T79, T80, T82, T83, T84, T85, T87, T89, T90, T91, T92, T95, T97, T103, T104, T105, T106, T107, T109, T110]
    repeat' (first | with_reducible refine cnd_split (fun hc => ?_) (fun hc => ?_) | with_reducible refine Reqs.mk ?_ ?_)
    all_goals first
      | trivial
      | (have hk := okI_mk.1 (by assumption : okI ⟨x1, x2⟩ = true); omega)
      | (refine endS_v (t := (monoI (expA) (Iv.mk x1 x2))) hr ?_; rw [mono_no (by assumption)]; done)
      | (refine endS_v (t := (monoI (expA) (Iv.mk x1 x2))) hr ?_; rw [mono_ok (by assumption), endsI]; simp_all; done)
  · cases hF

-- def ExpI
def expIF (x : Iv) : Iv := monoI (expA) x
def F_expI : FT
  | [.agg [.int .i64 x1, .int .i64 x2]], _ => some (True, .v (.agg [.int .i64 ((expIF (Iv.mk x1 x2))).lo, .int .i64 ((expIF (Iv.mk x1 x2))).hi]), [])
  | _, _ => none
theorem F_expI_eq {x1 : Int} {x2 : Int} {g : List PC} : F_expI [.agg [.int .i64 x1, .int .i64 x2]] g = some (True, .v (.agg [.int .i64 ((expIF (Iv.mk x1 x2))).lo, .int .i64 ((expIF (Iv.mk x1 x2))).hi]), []) := rfl

-- impl.ExpI
theorem impl_ExpI_expI_ok : Fn Tryz.prog 23 F_expI := by
  refine fn_of_go (O := orc [⟨35, F_expA, .inl impl_ExpAt_expA_ok⟩, ⟨80, F_monoExp, .inl impl_monotonic_monoExp_ok⟩]) mixed T_ok (orc_sound _) Tryz.func23 (by kernel_rfl) rfl Tryz.ntmps23 (by kernel_rfl) Tryz.results23 ?_
  intro args g pre r new hF hpre
  unfold F_expI at hF
  split at hF
  · rename_i x1 x2
    simp only [Option.some.injEq, Prod.mk.injEq] at hF
    obtain ⟨rfl, hr, rfl⟩ := hF
    refine ⟨by simp, ?_⟩
    simp (config := { maxSteps := 4000000, implicitDefEqProofs := false }) only [F_expA_eq, F_monoExp_eq, WK0, WK1, WK2, WK3, WK4, WK5, WK6, WK7, WK8, WK9, WK10, WK11, WK12, WK13, WK14, WK15, WK16, WK17, WK18, WK19, WK20, WK21, WK22, WK23, WK24, WK25, WK26, WK27, WK28, look_hit, look_miss, List.map_cons, List.map_nil, Nat.add_zero, max_v, min_v, ↓cnd_t, ↓cnd_f, ↓grd_b, ↓grd_u, startEnv, Option.map_some, List.length_nil, List.length_cons, List.nil_append, List.cons_append, List.getElem?_cons_zero, List.getElem?_cons_succ, List.set_cons_zero, List.set_cons_succ, Bool.not_true, Bool.not_false, reduceIte, Nat.reduceEqDiff, Nat.reduceAdd, Nat.reduceLT, blt_lit, beq_lit, Bool.or_true, Bool.true_or, Bool.or_false, Bool.false_or, Bool.and_true, Bool.true_and, Bool.and_self, cond_true, cond_false, List.append_nil, Iv.eta, Option.map_none, idxO_l0, idxO_l1, decide_true, decide_false, reqs_true, Int.zero_sub, wrap_lit, wrapu_lit, Int.reduceLE, Int.reduceLT, Int.reduceAdd, Int.reduceSub, Int.reduceMul, Int.reduceNeg, Int.reduceEq, Option.bind_some, bin_shr_u64, bin_shl_u64, bin_shr_i64, bin_shl_i64, and_m32', Int.reduceToNat, Int.reducePow, Int.reduceMod, Int.reduceDiv, wrap_u64s, true_or, or_true, true_and, and_true, Option.isSome_none, Option.isSome_some, Nat.reduceLeDiff, Nat.reduceMul, Int.toNat_natCast, Int.cast_ofNat_Int, Int.natCast_zero, Int.natCast_one, List.isEmpty_nil, List.isEmpty_cons, List.replicate_zero, List.replicate_succ, T1, T2, T3, T4, T5, T6, T9, T10, T11, T12, T21, T22, T23, T24, T26, T27, T28, T29, T30, T31, T32, T33, T34, T35, T37, T38, T39, T40, T42, T43, T44, T45, T46, T47, T48, T50, T52, T54, T55, T56, T57, T58, T59, T60, T61, T62, T63, T64, T65, T66, T67, T68, T69, T70, T71, T72, T73, T75, T77, T78, T79, T80, T82, T83, T84, T85, T87, T89, T90, T91, T92, T95, T97, T103, T104, T105, T106, T107, T109, T110]
    repeat' (first | with_reducible refine cnd_split (fun hc => ?_) (fun hc => ?_) | with_reducible refine Reqs.mk ?_ ?_)
    all_goals first | trivial | exact endS_v (t := (expIF (Iv.mk x1 x2))) hr rfl
  · cases hF

-- impl.monotonic Log
def F_monoLog : FT
  | [.agg [.int .i64 x1, .int .i64 x2], .c (.p (.fn 37))], _ => some (True, .v (.agg [.int .i64 ((monoI (logA) (Iv.mk x1 x2))).lo, .int .i64 ((monoI (logA) (Iv.mk x1 x2))).hi]), [])
  | _, _ => none
theorem F_monoLog_eq {x1 : Int} {x2 : Int} {g : List PC} : F_monoLog [.agg [.int .i64 x1, .int .i64 x2], .c (.p (.fn 37))] g = some (True, .v (.agg [.int .i64 ((monoI (logA) (Iv.mk x1 x2))).lo, .int .i64 ((monoI (logA) (Iv.mk x1 x2))).hi]), []) := rfl
theorem impl_monotonic_monoLog_ok : Fn Tryz.prog 80 F_monoLog := by
  refine fn_of_go (O := orc [⟨37, F_logA, .inl impl_LogAt_logA_ok⟩, ⟨71, F_whole, .inl impl_Whole_whole_ok⟩, ⟨98, F_notOk, .inl impl_IsWhole_notOk_ok⟩, ⟨121, F_areOk, .inl impl_areBounded_areOk_ok⟩, ⟨141, F_bounded, .inl impl_bounded_bounded_ok⟩]) mixed T_ok (orc_sound _) Tryz.func80 (by kernel_rfl) rfl Tryz.ntmps80 (by kernel_rfl) Tryz.results80 ?_
  intro args g pre r new hF hpre
  unfold F_monoLog at hF
  split at hF
  · rename_i x1 x2
    simp only [Option.some.injEq, Prod.mk.injEq] at hF
    obtain ⟨rfl, hr, rfl⟩ := hF
    refine ⟨by simp, ?_⟩
    simp (config := { maxSteps := 4000000, implicitDefEqProofs := false }) only [F_areOk_eq, F_bounded_eq, F_logA_eq, F_notOk_eq, F_whole_eq, WK0, WK1, WK2, WK3, WK4, WK5, WK6, WK7, WK8, WK9, WK10, WK11, WK12, WK13, WK14, WK15, WK16, WK17, WK18, WK19, WK20, WK21, WK22, WK23, WK24, WK25, WK26, WK27, WK28, look_hit, look_miss, List.map_cons, List.map_nil, Nat.add_zero, max_v, min_v, ↓cnd_t, ↓cnd_f, ↓grd_b, ↓grd_u, startEnv, Option.map_some, List.length_nil, List.length_cons, List.nil_append, List.cons_append, List.getElem?_cons_zero, List.getElem?_cons_succ, List.set_cons_zero, List.set_cons_succ, Bool.not_true, Bool.not_false, reduceIte, Nat.reduceEqDiff, Nat.reduceAdd, Nat.reduceLT, blt_lit, beq_lit, Bool.or_true, Bool.true_or, Bool.or_false, Bool.false_or, Bool.and_true, Bool.true_and, Bool.and_self, cond_true, cond_false, List.append_nil, Iv.eta, Option.map_none, idxO_l0, idxO_l1, decide_true, decide_false, reqs_true, Int.zero_sub, wrap_lit, wrapu_lit, Int.reduceLE, Int.reduceLT, Int.reduceAdd, Int.reduceSub, Int.reduceMul, Int.reduceNeg, Int.reduceEq, Option.bind_some, bin_shr_u64, bin_shl_u64, bin_shr_i64, bin_shl_i64, and_m32', Int.reduceToNat, Int.reducePow, Int.reduceMod, Int.reduceDiv, wrap_u64s, true_or, or_true, true_and, and_true, Option.isSome_none, Option.isSome_some, Nat.reduceLeDiff, Nat.reduceMul, Int.toNat_natCast, Int.cast_ofNat_Int, Int.natCast_zero, Int.natCast_one, List.isEmpty_nil, List.isEmpty_cons, List.replicate_zero, List.replicate_succ, T1, T2, T3, T4, T5, T6, T9, T10, T11, T12, T21, T22, T23, T24, T26, T27, T28, T29, T30, T31, T32, T33, T34, T35, T37, T38, T39, T40, T42, T43, T44, T45, T46, T47, T48, T50, T52, T54, T55, T56, T57, T58, T59, T60, T61, T62, T63, T64, T65, T66, T67, T68, T69, T70, T71, T72, T73, T75, T77, T78, T79, T80, T82, T83, T84, T85, T87, T89, T90, T91, T92, T95, T97, T103, T104, T105, T106, T107, T109, T110]
    repeat' (first | with_reducible refine cnd_split (fun hc => ?_) (fun hc => ?_) | with_reducible refine Reqs.mk ?_ ?_)
    all_goals first
      | trivial
      | (have hk := okI_mk.1 (by assumption : okI ⟨x1, x2⟩ = true); omega)
      | (refine endS_v (t := (monoI (logA) (Iv.mk x1 x2))) hr ?_; rw [mono_no (by assumption)]; done)
      | (refine endS_v (t := (monoI (logA) (Iv.mk x1 x2))) hr ?_; rw [mono_ok (by assumption), endsI]; simp_all; done)
  · cases hF

-- def LogI
def logIF (x : Iv) : Iv := monoI (logA) x
def F_logI : FT
  | [.agg [.int .i64 x1, .int .i64 x2]], _ => some (True, .v (.agg [.int .i64 ((logIF (Iv.mk x1 x2))).lo, .int .i64 ((logIF (Iv.mk x1 x2))).hi]), [])
  | _, _ => none
theorem F_logI_eq {x1 : Int} {x2 : Int} {g : List PC} : F_logI [.agg [.int .i64 x1, .int .i64 x2]] g = some (True, .v (.agg [.int .i64 ((logIF (Iv.mk x1 x2))).lo, .int .i64 ((logIF (Iv.mk x1 x2))).hi]), []) := rfl

-- impl.LogI
theorem impl_LogI_logI_ok : Fn Tryz.prog 26 F_logI := by
  refine fn_of_go (O := orc [⟨37, F_logA, .inl impl_LogAt_logA_ok⟩, ⟨80, F_monoLog, .inl impl_monotonic_monoLog_ok⟩]) mixed T_ok (orc_sound _) Tryz.func26 (by kernel_rfl) rfl Tryz.ntmps26 (by kernel_rfl) Tryz.results26 ?_
  intro args g pre r new hF hpre
  unfold F_logI at hF
  split at hF
  · rename_i x1 x2
    simp only [Option.some.injEq, Prod.mk.injEq] at hF
    obtain ⟨rfl, hr, rfl⟩ := hF
    refine ⟨by simp, ?_⟩
    simp (config := { maxSteps := 4000000, implicitDefEqProofs := false }) only [F_logA_eq, F_monoLog_eq, WK0, WK1, WK2, WK3, WK4, WK5, WK6, WK7, WK8, WK9, WK10, WK11, WK12, WK13, WK14, WK15, WK16, WK17, WK18, WK19, WK20, WK21, WK22, WK23, WK24, WK25, WK26, WK27, WK28, look_hit, look_miss, List.map_cons, List.map_nil, Nat.add_zero, max_v, min_v, ↓cnd_t, ↓cnd_f, ↓grd_b, ↓grd_u, startEnv, Option.map_some, List.length_nil, List.length_cons, List.nil_append, List.cons_append, List.getElem?_cons_zero, List.getElem?_cons_succ, List.set_cons_zero, List.set_cons_succ, Bool.not_true, Bool.not_false, reduceIte, Nat.reduceEqDiff, Nat.reduceAdd, Nat.reduceLT, blt_lit, beq_lit, Bool.or_true, Bool.true_or, Bool.or_false, Bool.false_or, Bool.and_true, Bool.true_and, Bool.and_self, cond_true, cond_false, List.append_nil, Iv.eta, Option.map_none, idxO_l0, idxO_l1, decide_true, decide_false, reqs_true, Int.zero_sub, wrap_lit, wrapu_lit, Int.reduceLE, Int.reduceLT, Int.reduceAdd, Int.reduceSub, Int.reduceMul, Int.reduceNeg, Int.reduceEq, Option.bind_some, bin_shr_u64, bin_shl_u64, bin_shr_i64, bin_shl_i64, and_m32', Int.reduceToNat, Int.reducePow, Int.reduceMod, Int.reduceDiv, wrap_u64s, true_or, or_true, true_and, and_true, Option.isSome_none, Option.isSome_some, Nat.reduceLeDiff, Nat.reduceMul, Int.toNat_natCast, Int.cast_ofNat_Int, Int.natCast_zero, Int.natCast_one, List.isEmpty_nil, List.isEmpty_cons, List.replicate_zero, List.replicate_succ, T1, T2, T3, T4, T5, T6, T9, T10, T11, T12, T21, T22, T23, T24, T26, T27, T28, T29, T30, T31, T32, T33, T34, T35, T37, T38, T39, T40, T42, T43, T44, T45, T46, T47, T48, T50, T52, T54, T55, T56, T57, T58, T59, T60, T61, T62, T63, T64, T65, T66, T67, T68, T69, T70, T71, T72, T73, T75, T77, T78, T79, T80, T82, T83, T84, T85, T87, T89, T90, T91, T92, T95, T97, T103, T104, T105, T106, T107, T109, T110]
    repeat' (first | with_reducible refine cnd_split (fun hc => ?_) (fun hc => ?_) | with_reducible refine Reqs.mk ?_ ?_)
    all_goals first | trivial | exact endS_v (t := (logIF (Iv.mk x1 x2))) hr rfl
  · cases hF

-- impl.SinhI$1
def F_sinhF : FT
  | [.c (.p (.int .i64 n))], _ => some (-1152921504606846976 < n ∧ n < 1152921504606846976, .v (.agg [.int .i64 ((sinhF n)).lo, .int .i64 ((sinhF n)).hi]), [])
  | _, _ => none
theorem F_sinhF_eq {n : Int} {g : List PC} : F_sinhF [.c (.p (.int .i64 n))] g = some (-1152921504606846976 < n ∧ n < 1152921504606846976, .v (.agg [.int .i64 ((sinhF n)).lo, .int .i64 ((sinhF n)).hi]), []) := rfl
theorem impl_SinhI_1_sinhF_ok : Fn Tryz.prog 81 F_sinhF := by
  refine fn_of_go (O := orc [⟨35, F_expA, .inl impl_ExpAt_expA_ok⟩, ⟨82, F_halfI, .inl impl_HalfI_halfI_ok⟩, ⟨83, F_subI, .inl impl_SubI_subI_ok⟩]) mixed T_ok (orc_sound _) Tryz.func81 (by kernel_rfl) rfl Tryz.ntmps81 (by kernel_rfl) Tryz.results81 ?_
  intro args g pre r new hF hpre
  unfold F_sinhF at hF
  split at hF
  · rename_i n
    simp only [Option.some.injEq, Prod.mk.injEq] at hF
    obtain ⟨rfl, hr, rfl⟩ := hF
    refine ⟨by simp, ?_⟩
    have e1 : IntKind.i64.wrap (-n) = -n := wrap_om (by omega) (by omega)
    simp (config := { maxSteps := 4000000, implicitDefEqProofs := false }) only [F_expA_eq, F_halfI_eq, F_subI_eq, WK0, WK1, WK2, WK3, WK4, WK5, WK6, WK7, WK8, WK9, WK10, WK11, WK12, WK13, WK14, WK15, WK16, WK17, WK18, WK19, WK20, WK21, WK22, WK23, WK24, WK25, WK26, WK27, WK28, look_hit, look_miss, List.map_cons, List.map_nil, Nat.add_zero, max_v, min_v, ↓cnd_t, ↓cnd_f, ↓grd_b, ↓grd_u, startEnv, Option.map_some, List.length_nil, List.length_cons, List.nil_append, List.cons_append, List.getElem?_cons_zero, List.getElem?_cons_succ, List.set_cons_zero, List.set_cons_succ, Bool.not_true, Bool.not_false, reduceIte, Nat.reduceEqDiff, Nat.reduceAdd, Nat.reduceLT, blt_lit, beq_lit, Bool.or_true, Bool.true_or, Bool.or_false, Bool.false_or, Bool.and_true, Bool.true_and, Bool.and_self, cond_true, cond_false, List.append_nil, Iv.eta, Option.map_none, idxO_l0, idxO_l1, decide_true, decide_false, reqs_true, Int.zero_sub, wrap_lit, wrapu_lit, Int.reduceLE, Int.reduceLT, Int.reduceAdd, Int.reduceSub, Int.reduceMul, Int.reduceNeg, Int.reduceEq, Option.bind_some, bin_shr_u64, bin_shl_u64, bin_shr_i64, bin_shl_i64, and_m32', Int.reduceToNat, Int.reducePow, Int.reduceMod, Int.reduceDiv, wrap_u64s, true_or, or_true, true_and, and_true, Option.isSome_none, Option.isSome_some, Nat.reduceLeDiff, Nat.reduceMul, Int.toNat_natCast, Int.cast_ofNat_Int, Int.natCast_zero, Int.natCast_one, List.isEmpty_nil, List.isEmpty_cons, List.replicate_zero, List.replicate_succ, T1, T2, T3, T4, T5, T6, T9, T10, T11, T12, T21, T22, T23, T24, T26, T27, T28, T29, T30, T31, T32, T33, T34, T35, T37, T38, T39, T40, T42, T43, T44, T45, T46, T47, T48, T50, T52, T54, T55, T56, T57, T58, T59, T60, T61, T62, T63, T64, T65, T66, T67, T68, T69, T70, T71, T72, T73, T75, T77, T78, T79, T80, T82, T83, T84, T85, T87, T89, T90, T91, T92, T95, T97, T103, T104, T105, T106, T107, T109, T110, e1]
    repeat' (first | with_reducible refine cnd_split (fun hc => ?_) (fun hc => ?_) | with_reducible refine Reqs.mk ?_ ?_)
    all_goals first | trivial | exact endS_v (t := (sinhF n)) hr rfl
  · cases hF

-- impl.monotonic Sinh
def F_monoSinh : FT
  | [.agg [.int .i64 x1, .int .i64 x2], .c (.p (.fn 81))], _ => some (True, .v (.agg [.int .i64 ((monoI (sinhF) (Iv.mk x1 x2))).lo, .int .i64 ((monoI (sinhF) (Iv.mk x1 x2))).hi]), [])
  | _, _ => none
theorem F_monoSinh_eq {x1 : Int} {x2 : Int} {g : List PC} : F_monoSinh [.agg [.int .i64 x1, .int .i64 x2], .c (.p (.fn 81))] g = some (True, .v (.agg [.int .i64 ((monoI (sinhF) (Iv.mk x1 x2))).lo, .int .i64 ((monoI (sinhF) (Iv.mk x1 x2))).hi]), []) := rfl
theorem impl_monotonic_monoSinh_ok : Fn Tryz.prog 80 F_monoSinh := by
  refine fn_of_go (O := orc [⟨71, F_whole, .inl impl_Whole_whole_ok⟩, ⟨81, F_sinhF, .inl impl_SinhI_1_sinhF_ok⟩, ⟨98, F_notOk, .inl impl_IsWhole_notOk_ok⟩, ⟨121, F_areOk, .inl impl_areBounded_areOk_ok⟩, ⟨141, F_bounded, .inl impl_bounded_bounded_ok⟩]) mixed T_ok (orc_sound _) Tryz.func80 (by kernel_rfl) rfl Tryz.ntmps80 (by kernel_rfl) Tryz.results80 ?_
  intro args g pre r new hF hpre
  unfold F_monoSinh at hF
  split at hF
  · rename_i x1 x2
    simp only [Option.some.injEq, Prod.mk.injEq] at hF
    obtain ⟨rfl, hr, rfl⟩ := hF
    refine ⟨by simp, ?_⟩
    simp (config := { maxSteps := 4000000, implicitDefEqProofs := false }) only [F_areOk_eq, F_bounded_eq, F_notOk_eq, F_sinhF_eq, F_whole_eq, WK0, WK1, WK2, WK3, WK4, WK5, WK6, WK7, WK8, WK9, WK10, WK11, WK12, WK13, WK14, WK15, WK16, WK17, WK18, WK19, WK20, WK21, WK22, WK23, WK24, WK25, WK26, WK27, WK28, look_hit, look_miss, List.map_cons, List.map_nil, Nat.add_zero, max_v, min_v, ↓cnd_t, ↓cnd_f, ↓grd_b, ↓grd_u, startEnv, Option.map_some, List.length_nil, List.length_cons, List.nil_append, List.cons_append, List.getElem?_cons_zero, List.getElem?_cons_succ, List.set_cons_zero, List.set_cons_succ, Bool.not_true, Bool.not_false, reduceIte, Nat.reduceEqDiff, Nat.reduceAdd, Nat.reduceLT, blt_lit, beq_lit, Bool.or_true, Bool.true_or, Bool.or_false, Bool.false_or, Bool.and_true, Bool.true_and, Bool.and_self, cond_true, cond_false, List.append_nil, Iv.eta, Option.map_none, idxO_l0, idxO_l1, decide_true, decide_false, reqs_true, Int.zero_sub, wrap_lit, wrapu_lit, Int.reduceLE, Int.reduceLT, Int.reduceAdd, Int.reduceSub, Int.reduceMul, Int.reduceNeg, Int.reduceEq, Option.bind_some, bin_shr_u64, bin_shl_u64, bin_shr_i64, bin_shl_i64, and_m32', Int.reduceToNat, Int.reducePow, Int.reduceMod, Int.reduceDiv, wrap_u64s, true_or, or_true, true_and, and_true, Option.isSome_none, Option.isSome_some, Nat.reduceLeDiff, Nat.reduceMul, Int.toNat_natCast, Int.cast_ofNat_Int, Int.natCast_zero, Int.natCast_one, List.isEmpty_nil, List.isEmpty_cons, List.replicate_zero, List.replicate_succ, T1, T2, T3, T4, T5, T6, T9, T10, T11, T12, T21, T22, T23, T24, T26, T27, T28, T29, T30, T31, T32, T33, T34, T35, T37, T38, T39, T40, T42, T43, T44, T45, T46, T47, T48, T50, T52, T54, T55, T56, T57, T58, T59, T60, T61, T62, T63, T64, T65, T66, T67, T68, T69, T70, T71, T72, T73, T75, T77, T78, T79, T80, T82, T83, T84, T85, T87, T89, T90, T91, T92, T95, T97, T103, T104, T105, T106, T107, T109, T110]
    repeat' (first | with_reducible refine cnd_split (fun hc => ?_) (fun hc => ?_) | with_reducible refine Reqs.mk ?_ ?_)
    all_goals first
      | trivial
      | (have hk := okI_mk.1 (by assumption : okI ⟨x1, x2⟩ = true); omega)
      | (refine endS_v (t := (monoI (sinhF) (Iv.mk x1 x2))) hr ?_; rw [mono_no (by assumption)]; done)
      | (refine endS_v (t := (monoI (sinhF) (Iv.mk x1 x2))) hr ?_; rw [mono_ok (by assumption), endsI]; simp_all; done)
  · cases hF

-- def SinhI
def sinhIF (x : Iv) : Iv := monoI (sinhF) x
def F_sinhI : FT
  | [.agg [.int .i64 x1, .int .i64 x2]], _ => some (True, .v (.agg [.int .i64 ((sinhIF (Iv.mk x1 x2))).lo, .int .i64 ((sinhIF (Iv.mk x1 x2))).hi]), [])
  | _, _ => none
theorem F_sinhI_eq {x1 : Int} {x2 : Int} {g : List PC} : F_sinhI [.agg [.int .i64 x1, .int .i64 x2]] g = some (True, .v (.agg [.int .i64 ((sinhIF (Iv.mk x1 x2))).lo, .int .i64 ((sinhIF (Iv.mk x1 x2))).hi]), []) := rfl

-- impl.SinhI
theorem impl_SinhI_sinhI_ok : Fn Tryz.prog 24 F_sinhI := by
  refine fn_of_go (O := orc [⟨80, F_monoSinh, .inl impl_monotonic_monoSinh_ok⟩]) mixed T_ok (orc_sound _) Tryz.func24 (by kernel_rfl) rfl Tryz.ntmps24 (by kernel_rfl) Tryz.results24 ?_
  intro args g pre r new hF hpre
  unfold F_sinhI at hF
  split at hF
  · rename_i x1 x2
    simp only [Option.some.injEq, Prod.mk.injEq] at hF
    obtain ⟨rfl, hr, rfl⟩ := hF
    refine ⟨by simp, ?_⟩
    simp (config := { maxSteps := 4000000, implicitDefEqProofs := false }) only [F_monoSinh_eq, WK0, WK1, WK2, WK3, WK4, WK5, WK6, WK7, WK8, WK9, WK10, WK11, WK12, WK13, WK14, WK15, WK16, WK17, WK18, WK19, WK20, WK21, WK22, WK23, WK24, WK25, WK26, WK27, WK28, look_hit, look_miss, List.map_cons, List.map_nil, Nat.add_zero, max_v, min_v, ↓cnd_t, ↓cnd_f, ↓grd_b, ↓grd_u, startEnv, Option.map_some, List.length_nil, List.length_cons, List.nil_append, List.cons_append, List.getElem?_cons_zero, List.getElem?_cons_succ, List.set_cons_zero, List.set_cons_succ, Bool.not_true, Bool.not_false, reduceIte, Nat.reduceEqDiff, Nat.reduceAdd, Nat.reduceLT, blt_lit, beq_lit, Bool.or_true, Bool.true_or, Bool.or_false, Bool.false_or, Bool.and_true, Bool.true_and, Bool.and_self, cond_true, cond_false, List.append_nil, Iv.eta, Option.map_none, idxO_l0, idxO_l1, decide_true, decide_false, reqs_true, Int.zero_sub, wrap_lit, wrapu_lit, Int.reduceLE, Int.reduceLT, Int.reduceAdd, Int.reduceSub, Int.reduceMul, Int.reduceNeg, Int.reduceEq, Option.bind_some, bin_shr_u64, bin_shl_u64, bin_shr_i64, bin_shl_i64, and_m32', Int.reduceToNat, Int.reducePow, Int.reduceMod, Int.reduceDiv, wrap_u64s, true_or, or_true, true_and, and_true, Option.isSome_none, Option.isSome_some, Nat.reduceLeDiff, Nat.reduceMul, Int.toNat_natCast, Int.cast_ofNat_Int, Int.natCast_zero, Int.natCast_one, List.isEmpty_nil, List.isEmpty_cons, List.replicate_zero, List.replicate_succ, T1, T2, T3, T4, T5, T6, T9, T10, T11, T12, T21, T22, T23, T24, T26, T27, T28, T29, T30, T31, T32, T33, T34, T35, T37, T38, T39, T40, T42, T43, T44, T45, T46, T47, T48, T50, T52, T54, T55, T56, T57, T58, T59, T60, T61, T62, T63, T64, T65, T66, T67, T68, T69, T70, T71, T72, T73, T75, T77, T78, T79, T80, T82, T83, T84, T85, T87, T89, T90, T91, T92, T95, T97, T103, T104, T105, T106, T107, T109, T110]
    repeat' (first | with_reducible refine cnd_split (fun hc => ?_) (fun hc => ?_) | with_reducible refine Reqs.mk ?_ ?_)
    all_goals first | trivial | exact endS_v (t := (sinhIF (Iv.mk x1 x2))) hr rfl
  · cases hF

-- impl.CoshI$1
def F_coshF : FT
  | [.c (.p (.int .i64 n))], _ => some (-1152921504606846976 < n ∧ n < 1152921504606846976, .v (.agg [.int .i64 ((coshF n)).lo, .int .i64 ((coshF n)).hi]), [])
  | _, _ => none
theorem F_coshF_eq {n : Int} {g : List PC} : F_coshF [.c (.p (.int .i64 n))] g = some (-1152921504606846976 < n ∧ n < 1152921504606846976, .v (.agg [.int .i64 ((coshF n)).lo, .int .i64 ((coshF n)).hi]), []) := rfl
theorem impl_CoshI_1_coshF_ok : Fn Tryz.prog 85 F_coshF := by
  refine fn_of_go (O := orc [⟨35, F_expA, .inl impl_ExpAt_expA_ok⟩, ⟨82, F_halfI, .inl impl_HalfI_halfI_ok⟩, ⟨86, F_addI, .inl impl_AddI_addI_ok⟩]) mixed T_ok (orc_sound _) Tryz.func85 (by kernel_rfl) rfl Tryz.ntmps85 (by kernel_rfl) Tryz.results85 ?_
  intro args g pre r new hF hpre
  unfold F_coshF at hF
  split at hF
  · rename_i n
    simp only [Option.some.injEq, Prod.mk.injEq] at hF
    obtain ⟨rfl, hr, rfl⟩ := hF
    refine ⟨by simp, ?_⟩
    have e1 : IntKind.i64.wrap (-n) = -n := wrap_om (by omega) (by omega)
    simp (config := { maxSteps := 4000000, implicitDefEqProofs := false }) only [F_addI_eq, F_expA_eq, F_halfI_eq, WK0, WK1, WK2, WK3, WK4, WK5, WK6, WK7, WK8, WK9, WK10, WK11, WK12, WK13, WK14, WK15, WK16, WK17, WK18, WK19, WK20, WK21, WK22, WK23, WK24, WK25, WK26, WK27, WK28, look_hit, look_miss, List.map_cons, List.map_nil, Nat.add_zero, max_v, min_v, ↓cnd_t, ↓cnd_f, ↓grd_b, ↓grd_u, startEnv, Option.map_some, List.length_nil, List.length_cons, List.nil_append, List.cons_append, List.getElem?_cons_zero, List.getElem?_cons_succ, List.set_cons_zero, List.set_cons_succ, Bool.not_true, Bool.not_false, reduceIte, Nat.reduceEqDiff, Nat.reduceAdd, Nat.reduceLT, blt_lit, beq_lit, Bool.or_true, Bool.true_or, Bool.or_false, Bool.false_or, Bool.and_true, Bool.true_and, Bool.and_self, cond_true, cond_false, List.append_nil, Iv.eta, Option.map_none, idxO_l0, idxO_l1, decide_true, decide_false, reqs_true, Int.zero_sub, wrap_lit, wrapu_lit, Int.reduceLE, Int.reduceLT, Int.reduceAdd, Int.reduceSub, Int.reduceMul, Int.reduceNeg, Int.reduceEq, Option.bind_some, bin_shr_u64, bin_shl_u64, bin_shr_i64, bin_shl_i64, and_m32', Int.reduceToNat, Int.reducePow, Int.reduceMod, Int.reduceDiv, wrap_u64s, true_or, or_true, true_and, and_true, Option.isSome_none, Option.isSome_some, Nat.reduceLeDiff, Nat.reduceMul, Int.toNat_natCast, Int.cast_ofNat_Int, Int.natCast_zero, Int.natCast_one, List.isEmpty_nil, List.isEmpty_cons, List.replicate_zero, List.replicate_succ, T1, T2, T3, T4, T5, T6, T9, T10, T11, T12, T21, T22, T23, T24, T26, T27, T28, T29, T30, T31, T32, T33, T34, T35, T37, T38, T39, T40, T42, T43, T44, T45, T46, T47, T48, T50, T52, T54, T55, T56, T57, T58, T59, T60, T61, T62, T63, T64, T65, T66, T67, T68, T69, T70, T71, T72, T73, T75, T77, T78, T79, T80, T82, T83, T84, T85, T87, T89, T90, T91, T92, T95, T97, T103, T104, T105, T106, T107, T109, T110, e1]
    repeat' (first | with_reducible refine cnd_split (fun hc => ?_) (fun hc => ?_) | with_reducible refine Reqs.mk ?_ ?_)
    all_goals first | trivial | exact endS_v (t := (coshF n)) hr rfl
  · cases hF

-- impl.monotonic Cosh
def F_monoCosh : FT
  | [.agg [.int .i64 x1, .int .i64 x2], .c (.p (.fn 85))], _ => some (True, .v (.agg [.int .i64 ((monoI (coshF) (Iv.mk x1 x2))).lo, .int .i64 ((monoI (coshF) (Iv.mk x1 x2))).hi]), [])
  | _, _ => none
theorem F_monoCosh_eq {x1 : Int} {x2 : Int} {g : List PC} : F_monoCosh [.agg [.int .i64 x1, .int .i64 x2], .c (.p (.fn 85))] g = some (True, .v (.agg [.int .i64 ((monoI (coshF) (Iv.mk x1 x2))).lo, .int .i64 ((monoI (coshF) (Iv.mk x1 x2))).hi]), []) := rfl
theorem impl_monotonic_monoCosh_ok : Fn Tryz.prog 80 F_monoCosh := by
  refine fn_of_go (O := orc [⟨71, F_whole, .inl impl_Whole_whole_ok⟩, ⟨85, F_coshF, .inl impl_CoshI_1_coshF_ok⟩, ⟨98, F_notOk, .inl impl_IsWhole_notOk_ok⟩, ⟨121, F_areOk, .inl impl_areBounded_areOk_ok⟩, ⟨141, F_bounded, .inl impl_bounded_bounded_ok⟩]) mixed T_ok (orc_sound _) Tryz.func80 (by kernel_rfl) rfl Tryz.ntmps80 (by kernel_rfl) Tryz.results80 ?_
  intro args g pre r new hF hpre
  unfold F_monoCosh at hF
  split at hF
  · rename_i x1 x2
    simp only [Option.some.injEq, Prod.mk.injEq] at hF
    obtain ⟨rfl, hr, rfl⟩ := hF
    refine ⟨by simp, ?_⟩
    simp (config := { maxSteps := 4000000, implicitDefEqProofs := false }) only [F_areOk_eq, F_bounded_eq, F_coshF_eq, F_notOk_eq, F_whole_eq, WK0, WK1, WK2, WK3, WK4, WK5, WK6, WK7, WK8, WK9, WK10, WK11, WK12, WK13, WK14, WK15, WK16, WK17, WK18, WK19, WK20, WK21, WK22, WK23, WK24, WK25, WK26, WK27, WK28, look_hit, look_miss, List.map_cons, List.map_nil, Nat.add_zero, max_v, min_v, ↓cnd_t, ↓cnd_f, ↓grd_b, ↓grd_u, startEnv, Option.map_some, List.length_nil, List.length_cons, List.nil_append, List.cons_append, List.getElem?_cons_zero, List.getElem?_cons_succ, List.set_cons_zero, List.set_cons_succ, Bool.not_true, Bool.not_false, reduceIte, Nat.reduceEqDiff, Nat.reduceAdd, Nat.reduceLT, blt_lit, beq_lit, Bool.or_true, Bool.true_or, Bool.or_false, Bool.false_or, Bool.and_true, Bool.true_and, Bool.and_self, cond_true, cond_false, List.append_nil, Iv.eta, Option.map_none, idxO_l0, idxO_l1, decide_true, decide_false, reqs_true, Int.zero_sub, wrap_lit, wrapu_lit, Int.reduceLE, Int.reduceLT, Int.reduceAdd, Int.reduceSub, Int.reduceMul, Int.reduceNeg, Int.reduceEq, Option.bind_some, bin_shr_u64, bin_shl_u64, bin_shr_i64, bin_shl_i64, and_m32', Int.reduceToNat, Int.reducePow, Int.reduceMod, Int.reduceDiv, wrap_u64s, true_or, or_true, true_and, and_true, Option.isSome_none, Option.isSome_some, Nat.reduceLeDiff, Nat.reduceMul, Int.toNat_natCast, Int.cast_ofNat_Int, Int.natCast_zero, Int.natCast_one, List.isEmpty_nil, List.isEmpty_cons, List.replicate_zero, List.replicate_succ, T1, T2, T3, T4, T5, T6, T9, T10, T11, T12, T21, T22, T23, T24, T26, T27, T28, T29, T30, T31, T32, T33, T34, T35, T37, T38, T39, T40, T42, T43, T44, T45, T46, T47, T48, T50, T52, T54, T55, T56, T57, T58, T59, T60, T61, T62, T63, T64, T65, T66, T67, T68, T69, T70, T71, T72, T73, T75, T77, T78, T79, T80, T82, T83, T84, T85, T87, T89, T90, T91, T92, T95, T97, T103, T104, T105, T106, T107, T109, T110]
    repeat' (first | with_reducible refine cnd_split (fun hc => ?_) (fun hc => ?_) | with_reducible refine Reqs.mk ?_ ?_)
    all_goals first
      | trivial
      | (have hk := okI_mk.1 (by assumption : okI ⟨x1, x2⟩ = true); omega)
      | (refine endS_v (t := (monoI (coshF) (Iv.mk x1 x2))) hr ?_; rw [mono_no (by assumption)]; done)
      | (refine endS_v (t := (monoI (coshF) (Iv.mk x1 x2))) hr ?_; rw [mono_ok (by assumption), endsI]; simp_all; done)
  · cases hF

-- def CoshI
def coshIF (x : Iv) : Iv := monoI (coshF) (absI x)
def F_coshI : FT
  | [.agg [.int .i64 x1, .int .i64 x2]], _ => some (True, .v (.agg [.int .i64 ((coshIF (Iv.mk x1 x2))).lo, .int .i64 ((coshIF (Iv.mk x1 x2))).hi]), [])
  | _, _ => none
theorem F_coshI_eq {x1 : Int} {x2 : Int} {g : List PC} : F_coshI [.agg [.int .i64 x1, .int .i64 x2]] g = some (True, .v (.agg [.int .i64 ((coshIF (Iv.mk x1 x2))).lo, .int .i64 ((coshIF (Iv.mk x1 x2))).hi]), []) := rfl

-- impl.CoshI
theorem impl_CoshI_coshI_ok : Fn Tryz.prog 25 F_coshI := by
  refine fn_of_go (O := orc [⟨80, F_monoCosh, .inl impl_monotonic_monoCosh_ok⟩, ⟨84, F_absI, .inl impl_AbsI_absI_ok⟩]) mixed T_ok (orc_sound _) Tryz.func25 (by kernel_rfl) rfl Tryz.ntmps25 (by kernel_rfl) Tryz.results25 ?_
  intro args g pre r new hF hpre
  unfold F_coshI at hF
  split at hF
  · rename_i x1 x2
    simp only [Option.some.injEq, Prod.mk.injEq] at hF
    obtain ⟨rfl, hr, rfl⟩ := hF
    refine ⟨by simp, ?_⟩
    simp (config := { maxSteps := 4000000, implicitDefEqProofs := false }) only [F_absI_eq, F_monoCosh_eq, WK0, WK1, WK2, WK3, WK4, WK5, WK6, WK7, WK8, WK9, WK10, WK11, WK12, WK13, WK14, WK15, WK16, WK17, WK18, WK19, WK20, WK21, WK22, WK23, WK24, WK25, WK26, WK27, WK28, look_hit, look_miss, List.map_cons, List.map_nil, Nat.add_zero, max_v, min_v, ↓cnd_t, ↓cnd_f, ↓grd_b, ↓grd_u, startEnv, Option.map_some, List.length_nil, List.length_cons, List.nil_append, List.cons_append, List.getElem?_cons_zero, List.getElem?_cons_succ, List.set_cons_zero, List.set_cons_succ, Bool.not_true, Bool.not_false, reduceIte, Nat.reduceEqDiff, Nat.reduceAdd, Nat.reduceLT, blt_lit, beq_lit, Bool.or_true, Bool.true_or, Bool.or_false, Bool.false_or, Bool.and_true, Bool.true_and, Bool.and_self, cond_true, cond_false, List.append_nil, Iv.eta, Option.map_none, idxO_l0, idxO_l1, decide_true, decide_false, reqs_true, Int.zero_sub, wrap_lit, wrapu_lit, Int.reduceLE, Int.reduceLT, Int.reduceAdd, Int.reduceSub, Int.reduceMul, Int.reduceNeg, Int.reduceEq, Option.bind_some, bin_shr_u64, bin_shl_u64, bin_shr_i64, bin_shl_i64, and_m32', Int.reduceToNat, Int.reducePow, Int.reduceMod, Int.reduceDiv, wrap_u64s, true_or, or_true, true_and, and_true, Option.isSome_none, Option.isSome_some, Nat.reduceLeDiff, Nat.reduceMul, Int.toNat_natCast, Int.cast_ofNat_Int, Int.natCast_zero, Int.natCast_one, List.isEmpty_nil, List.isEmpty_cons, List.replicate_zero, List.replicate_succ, T1, T2, T3, T4, T5, T6, T9, T10, T11, T12, T21, T22, T23, T24, T26, T27, T28, T29, T30, T31, T32, T33, T34, T35, T37, T38, T39, T40, T42, T43, T44, T45, T46, T47, T48, T50, T52, T54, T55, T56, T57, T58, T59, T60, T61, T62, T63, T64, T65, T66, T67, T68, T69, T70, T71, T72, T73, T75, T77, T78, T79, T80, T82, T83, T84, T85, T87, T89, T90, T91, T92, T95, T97, T103, T104, T105, T106, T107, T109, T110]
    repeat' (first | with_reducible refine cnd_split (fun hc => ?_) (fun hc => ?_) | with_reducible refine Reqs.mk ?_ ?_)
    all_goals first | trivial | exact endS_v (t := (coshIF (Iv.mk x1 x2))) hr rfl
  · cases hF

-- impl.TanhI$1
def F_tanhP : FT
  | [.c (.p (.int .i64 n))], _ => some (0 ≤ n ∧ n < 1152921504606846976, .v (.agg [.int .i64 ((tanhP n)).lo, .int .i64 ((tanhP n)).hi]), [])
  | _, _ => none
theorem F_tanhP_eq {n : Int} {g : List PC} : F_tanhP [.c (.p (.int .i64 n))] g = some (0 ≤ n ∧ n < 1152921504606846976, .v (.agg [.int .i64 ((tanhP n)).lo, .int .i64 ((tanhP n)).hi]), []) := rfl
theorem impl_TanhI_1_tanhP_ok : Fn Tryz.prog 89 F_tanhP := by
  refine fn_of_go (O := orc [⟨35, F_expA, .inl impl_ExpAt_expA_ok⟩, ⟨74, F_divI, .inl impl_DivI_divI_ok⟩, ⟨83, F_subI, .inl impl_SubI_subI_ok⟩, ⟨86, F_addI, .inl impl_AddI_addI_ok⟩, ⟨90, F_intI, .inl impl_Integer_intI_ok⟩]) mixed T_ok (orc_sound _) Tryz.func89 (by kernel_rfl) rfl Tryz.ntmps89 (by kernel_rfl) Tryz.results89 ?_
  intro args g pre r new hF hpre
  unfold F_tanhP at hF
  split at hF
  · rename_i n
    simp only [Option.some.injEq, Prod.mk.injEq] at hF
    obtain ⟨rfl, hr, rfl⟩ := hF
    refine ⟨by simp, ?_⟩
    have e1 : IntKind.i64.wrap (-2 * n) = -2 * n := wrap_om (by omega) (by omega)
    simp (config := { maxSteps := 4000000, implicitDefEqProofs := false }) only [F_addI_eq, F_divI_eq, F_expA_eq, F_intI_eq, F_subI_eq, WK0, WK1, WK2, WK3, WK4, WK5, WK6, WK7, WK8, WK9, WK10, WK11, WK12, WK13, WK14, WK15, WK16, WK17, WK18, WK19, WK20, WK21, WK22, WK23, WK24, WK25, WK26, WK27, WK28, look_hit, look_miss, List.map_cons, List.map_nil, Nat.add_zero, max_v, min_v, ↓cnd_t, ↓cnd_f, ↓grd_b, ↓grd_u, startEnv, Option.map_some, List.length_nil, List.length_cons, List.nil_append, List.cons_append, List.getElem?_cons_zero, List.getElem?_cons_succ, List.set_cons_zero, List.set_cons_succ, Bool.not_true, Bool.not_false, reduceIte, Nat.reduceEqDiff, Nat.reduceAdd, Nat.reduceLT, blt_lit, beq_lit, Bool.or_true, Bool.true_or, Bool.or_false, Bool.false_or, Bool.and_true, Bool.true_and, Bool.and_self, cond_true, cond_false, List.append_nil, Iv.eta, Option.map_none, idxO_l0, idxO_l1, decide_true, decide_false, reqs_true, Int.zero_sub, wrap_lit, wrapu_lit, Int.reduceLE, Int.reduceLT, Int.reduceAdd, Int.reduceSub, Int.reduceMul, Int.reduceNeg, Int.reduceEq, Option.bind_some, bin_shr_u64, bin_shl_u64, bin_shr_i64, bin_shl_i64, and_m32', Int.reduceToNat, Int.reducePow, Int.reduceMod, Int.reduceDiv, wrap_u64s, true_or, or_true, true_and, and_true, Option.isSome_none, Option.isSome_some, Nat.reduceLeDiff, Nat.reduceMul, Int.toNat_natCast, Int.cast_ofNat_Int, Int.natCast_zero, Int.natCast_one, List.isEmpty_nil, List.isEmpty_cons, List.replicate_zero, List.replicate_succ, T1, T2, T3, T4, T5, T6, T9, T10, T11, T12, T21, T22, T23, T24, T26, T27, T28, T29, T30, T31, T32, T33, T34, T35, T37, T38, T39, T40, T42, T43, T44, T45, T46, T47, T48, T50, T52, T54, T55, T56, T57, T58, T59, T60, T61, T62, T63, T64, T65, T66, T67, T68, T69, T70, T71, T72, T73, T75, T77, T78, T79, T80, T82, T83, T84, T85, T87, T89, T90, T91, T92, T95, T97, T103, T104, T105, T106, T107, T109, T110, e1]
    repeat' (first | with_reducible refine cnd_split (fun hc => ?_) (fun hc => ?_) | with_reducible refine Reqs.mk ?_ ?_)
    all_goals (try simp only [decide_eq_true_eq, decide_eq_false_iff_not] at *)
    all_goals first
      | trivial
      | (exfalso; omega)
      | (refine endS_v (t := (tanhP n)) hr ?_; rw [tanhP, if_pos (by assumption)]; first | done | rfl)
      | (refine endS_v (t := (tanhP n)) hr ?_; rw [tanhP, if_neg (by assumption)]; first | done | rfl)
      | (unfold inR; omega)
      | (refine endS_v (t := (tanhP n)) hr ?_
         have hlt : ¬ 4294967296 ≤ n := by assumption
         rw [atanhP, if_neg hlt]
         have z1 : IntKind.i64.wrap (4294967296 + n) = 4294967296 + n := wrap_om (by omega) (by omega)
         have z2 : IntKind.i64.wrap (4294967296 - n) = 4294967296 - n := wrap_om (by omega) (by omega)
         have z3 := at_mk (n := 4294967296 + n) (by omega)
         have z4 := at_mk (n := 4294967296 - n) (by omega)
         simp only [z1, z2, z3, z4]
         try rfl)
  · cases hF

-- impl.odd Tanh
def F_closeTanh : FT
  | [.c (.p (.fn 89))], _ => some (True, .v (.c (.clo 142 [.own 0 0])), [[.fn 89]])
  | _, _ => none
theorem F_closeTanh_eq {g : List PC} : F_closeTanh [.c (.p (.fn 89))] g = some (True, .v (.c (.clo 142 [.own 0 0])), [[.fn 89]]) := rfl
theorem impl_odd_closeTanh_ok : Fn Tryz.prog 88 F_closeTanh := by
  refine fn_of_go (O := orc []) mixed T_ok (orc_sound _) Tryz.func88 (by kernel_rfl) rfl Tryz.ntmps88 (by kernel_rfl) Tryz.results88 ?_
  intro args g pre r new hF hpre
  unfold F_closeTanh at hF
  split at hF
  · skip
    simp only [Option.some.injEq, Prod.mk.injEq] at hF
    obtain ⟨rfl, hr, rfl⟩ := hF
    refine ⟨by simp, ?_⟩
    simp (config := { maxSteps := 4000000, implicitDefEqProofs := false }) only [WK0, WK1, WK2, WK3, WK4, WK5, WK6, WK7, WK8, WK9, WK10, WK11, WK12, WK13, WK14, WK15, WK16, WK17, WK18, WK19, WK20, WK21, WK22, WK23, WK24, WK25, WK26, WK27, WK28, look_hit, look_miss, List.map_cons, List.map_nil, Nat.add_zero, max_v, min_v, ↓cnd_t, ↓cnd_f, ↓grd_b, ↓grd_u, startEnv, Option.map_some, List.length_nil, List.length_cons, List.nil_append, List.cons_append, List.getElem?_cons_zero, List.getElem?_cons_succ, List.set_cons_zero, List.set_cons_succ, Bool.not_true, Bool.not_false, reduceIte, Nat.reduceEqDiff, Nat.reduceAdd, Nat.reduceLT, blt_lit, beq_lit, Bool.or_true, Bool.true_or, Bool.or_false, Bool.false_or, Bool.and_true, Bool.true_and, Bool.and_self, cond_true, cond_false, List.append_nil, Iv.eta, Option.map_none, idxO_l0, idxO_l1, decide_true, decide_false, reqs_true, Int.zero_sub, wrap_lit, wrapu_lit, Int.reduceLE, Int.reduceLT, Int.reduceAdd, Int.reduceSub, Int.reduceMul, Int.reduceNeg, Int.reduceEq, Option.bind_some, bin_shr_u64, bin_shl_u64, bin_shr_i64, bin_shl_i64, and_m32', Int.reduceToNat, Int.reducePow, Int.reduceMod, Int.reduceDiv, wrap_u64s, true_or, or_true, true_and, and_true, Option.isSome_none, Option.isSome_some, Nat.reduceLeDiff, Nat.reduceMul, Int.toNat_natCast, Int.cast_ofNat_Int, Int.natCast_zero, Int.natCast_one, List.isEmpty_nil, List.isEmpty_cons, List.replicate_zero, List.replicate_succ, T1, T2, T3, T4, T5, T6, T9, T10, T11, T12, T21, T22, T23, T24, T26, T27, T28, T29, T30, T31, T32, T33, T34, T35, T37, T38, T39, T40, T42, T43, T44, T45, T46, T47, T48, T50, T52, T54, T55, T56, T57, T58, T59, T60, T61, T62, T63, T64, T65, T66, T67, T68, T69, T70, T71, T72, T73, T75, T77, T78, T79, T80, T82, T83, T84, T85, T87, T89, T90, T91, T92, T95, T97, T103, T104, T105, T106, T107, T109, T110]
    exact (by subst hr; exact ⟨rfl, by simp [SV.res, AV.res, Cl.res, Pt.res, full], rfl⟩)
  · cases hF

-- impl.odd$1 Tanh
def F_oddCTanh : FT
  | [.c (.p (.int .i64 n)), .c (.ptr (.giv 0))], [.fn 89] => some (-1152921504606846976 < n ∧ n < 1152921504606846976, .v (.agg [.int .i64 ((oddI tanhP n)).lo, .int .i64 ((oddI tanhP n)).hi]), [])
  | _, _ => none
theorem F_oddCTanh_eq {n : Int} : F_oddCTanh [.c (.p (.int .i64 n)), .c (.ptr (.giv 0))] [.fn 89] = some (-1152921504606846976 < n ∧ n < 1152921504606846976, .v (.agg [.int .i64 ((oddI tanhP n)).lo, .int .i64 ((oddI tanhP n)).hi]), []) := rfl
theorem impl_odd_1_oddCTanh_ok : Fn Tryz.prog 142 F_oddCTanh := by
  refine fn_of_go (O := orc [⟨89, F_tanhP, .inl impl_TanhI_1_tanhP_ok⟩, ⟨107, F_negI, .inl impl_NegI_negI_ok⟩]) mixed T_ok (orc_sound _) Tryz.func142 (by kernel_rfl) rfl Tryz.ntmps142 (by kernel_rfl) Tryz.results142 ?_
  intro args g pre r new hF hpre
  unfold F_oddCTanh at hF
  split at hF
  · rename_i n
    simp only [Option.some.injEq, Prod.mk.injEq] at hF
    obtain ⟨rfl, hr, rfl⟩ := hF
    refine ⟨by simp, ?_⟩
    have e2 : IntKind.i64.wrap (-n) = -n := wrap_om (by omega) (by omega)
    simp (config := { maxSteps := 4000000, implicitDefEqProofs := false }) only [F_negI_eq, F_tanhP_eq, WK0, WK1, WK2, WK3, WK4, WK5, WK6, WK7, WK8, WK9, WK10, WK11, WK12, WK13, WK14, WK15, WK16, WK17, WK18, WK19, WK20, WK21, WK22, WK23, WK24, WK25, WK26, WK27, WK28, look_hit, look_miss, List.map_cons, List.map_nil, Nat.add_zero, max_v, min_v, ↓cnd_t, ↓cnd_f, ↓grd_b, ↓grd_u, startEnv, Option.map_some, List.length_nil, List.length_cons, List.nil_append, List.cons_append, List.getElem?_cons_zero, List.getElem?_cons_succ, List.set_cons_zero, List.set_cons_succ, Bool.not_true, Bool.not_false, reduceIte, Nat.reduceEqDiff, Nat.reduceAdd, Nat.reduceLT, blt_lit, beq_lit, Bool.or_true, Bool.true_or, Bool.or_false, Bool.false_or, Bool.and_true, Bool.true_and, Bool.and_self, cond_true, cond_false, List.append_nil, Iv.eta, Option.map_none, idxO_l0, idxO_l1, decide_true, decide_false, reqs_true, Int.zero_sub, wrap_lit, wrapu_lit, Int.reduceLE, Int.reduceLT, Int.reduceAdd, Int.reduceSub, Int.reduceMul, Int.reduceNeg, Int.reduceEq, Option.bind_some, bin_shr_u64, bin_shl_u64, bin_shr_i64, bin_shl_i64, and_m32', Int.reduceToNat, Int.reducePow, Int.reduceMod, Int.reduceDiv, wrap_u64s, true_or, or_true, true_and, and_true, Option.isSome_none, Option.isSome_some, Nat.reduceLeDiff, Nat.reduceMul, Int.toNat_natCast, Int.cast_ofNat_Int, Int.natCast_zero, Int.natCast_one, List.isEmpty_nil, List.isEmpty_cons, List.replicate_zero, List.replicate_succ, T1, T2, T3, T4, T5, T6, T9, T10, T11, T12, T21, T22, T23, T24, T26, T27, T28, T29, T30, T31, T32, T33, T34, T35, T37, T38, T39, T40, T42, T43, T44, T45, T46, T47, T48, T50, T52, T54, T55, T56, T57, T58, T59, T60, T61, T62, T63, T64, T65, T66, T67, T68, T69, T70, T71, T72, T73, T75, T77, T78, T79, T80, T82, T83, T84, T85, T87, T89, T90, T91, T92, T95, T97, T103, T104, T105, T106, T107, T109, T110, e2]
    repeat' (first | with_reducible refine cnd_split (fun hc => ?_) (fun hc => ?_) | with_reducible refine Reqs.mk ?_ ?_)
    all_goals (try simp only [decide_eq_true_eq, decide_eq_false_iff_not] at *)
    all_goals first
      | trivial
      | (refine ⟨?_, ?_⟩ <;> omega)
      | (refine endS_v (t := (oddI tanhP n)) hr ?_; rw [oddI, if_pos (by assumption)]; done)
      | (refine endS_v (t := (oddI tanhP n)) hr ?_; rw [oddI, if_neg (by omega)]; done)
  · cases hF

-- impl.monotonic Tanh
def F_monoTanh : FT
  | [.agg [.int .i64 x1, .int .i64 x2], .c (.clo 142 [.giv 0])], [.fn 89] => some (True, .v (.agg [.int .i64 ((monoI (oddI tanhP) (Iv.mk x1 x2))).lo, .int .i64 ((monoI (oddI tanhP) (Iv.mk x1 x2))).hi]), [])
  | _, _ => none
theorem F_monoTanh_eq {x1 : Int} {x2 : Int} : F_monoTanh [.agg [.int .i64 x1, .int .i64 x2], .c (.clo 142 [.giv 0])] [.fn 89] = some (True, .v (.agg [.int .i64 ((monoI (oddI tanhP) (Iv.mk x1 x2))).lo, .int .i64 ((monoI (oddI tanhP) (Iv.mk x1 x2))).hi]), []) := rfl
theorem impl_monotonic_monoTanh_ok : Fn Tryz.prog 80 F_monoTanh := by
  refine fn_of_go (O := orc [⟨71, F_whole, .inl impl_Whole_whole_ok⟩, ⟨98, F_notOk, .inl impl_IsWhole_notOk_ok⟩, ⟨121, F_areOk, .inl impl_areBounded_areOk_ok⟩, ⟨141, F_bounded, .inl impl_bounded_bounded_ok⟩, ⟨142, F_oddCTanh, .inl impl_odd_1_oddCTanh_ok⟩]) mixed T_ok (orc_sound _) Tryz.func80 (by kernel_rfl) rfl Tryz.ntmps80 (by kernel_rfl) Tryz.results80 ?_
  intro args g pre r new hF hpre
  unfold F_monoTanh at hF
  split at hF
  · rename_i x1 x2
    simp only [Option.some.injEq, Prod.mk.injEq] at hF
    obtain ⟨rfl, hr, rfl⟩ := hF
    refine ⟨by simp, ?_⟩
    simp (config := { maxSteps := 4000000, implicitDefEqProofs := false }) only [F_areOk_eq, F_bounded_eq, F_notOk_eq, F_oddCTanh_eq, F_whole_eq, WK0, WK1, WK2, WK3, WK4, WK5, WK6, WK7, WK8, WK9, WK10, WK11, WK12, WK13, WK14, WK15, WK16, WK17, WK18, WK19, WK20, WK21, WK22, WK23, WK24, WK25, WK26, WK27, WK28, look_hit, look_miss, List.map_cons, List.map_nil, Nat.add_zero, max_v, min_v, ↓cnd_t, ↓cnd_f, ↓grd_b, ↓grd_u, startEnv, Option.map_some, List.length_nil, List.length_cons, List.nil_append, List.cons_append, List.getElem?_cons_zero, List.getElem?_cons_succ, List.set_cons_zero, List.set_cons_succ, Bool.not_true, Bool.not_false, reduceIte, Nat.reduceEqDiff, Nat.reduceAdd, Nat.reduceLT, blt_lit, beq_lit, Bool.or_true, Bool.true_or, Bool.or_false, Bool.false_or, Bool.and_true, Bool.true_and, Bool.and_self, cond_true, cond_false, List.append_nil, Iv.eta, Option.map_none, idxO_l0, idxO_l1, decide_true, decide_false, reqs_true, Int.zero_sub, wrap_lit, wrapu_lit, Int.reduceLE, Int.reduceLT, Int.reduceAdd, Int.reduceSub, Int.reduceMul, Int.reduceNeg, Int.reduceEq, Option.bind_some, bin_shr_u64, bin_shl_u64, bin_shr_i64, bin_shl_i64, and_m32', Int.reduceToNat, Int.reducePow, Int.reduceMod, Int.reduceDiv, wrap_u64s, true_or, or_true, true_and, and_true, Option.isSome_none, Option.isSome_some, Nat.reduceLeDiff, Nat.reduceMul, Int.toNat_natCast, Int.cast_ofNat_Int, Int.natCast_zero, Int.natCast_one, List.isEmpty_nil, List.isEmpty_cons, List.replicate_zero, List.replicate_succ, T1, T2, T3, T4, T5, T6, T9, T10, T11, T12, T21, T22, T23, T24, T26, T27, T28, T29, T30, T31, T32, T33, T34, T35, T37, T38, T39, T40, T42, T43, T44, T45, T46, T47, T48, T50, T52, T54, T55, T56, T57, T58, T59, T60, T61, T62, T63, T64, T65, T66, T67, T68, T69, T70, T71, T72, T73, T75, T77, T78, T79, T80, T82, T83, T84, T85, T87, T89, T90, T91, T92, T95, T97, T103, T104, T105, T106, T107, T109, T110]
    repeat' (first | with_reducible refine cnd_split (fun hc => ?_) (fun hc => ?_) | with_reducible refine Reqs.mk ?_ ?_)
    all_goals first
      | trivial
      | (have hk := okI_mk.1 (by assumption : okI ⟨x1, x2⟩ = true); omega)
      | (refine endS_v (t := (monoI (oddI tanhP) (Iv.mk x1 x2))) hr ?_; rw [mono_no (by assumption)]; done)
      | (refine endS_v (t := (monoI (oddI tanhP) (Iv.mk x1 x2))) hr ?_; rw [mono_ok (by assumption), endsI]; simp_all; done)
  · cases hF

-- def TanhI
def tanhIF (x : Iv) : Iv := monoI (oddI tanhP) x
def F_tanhI : FT
  | [.agg [.int .i64 x1, .int .i64 x2]], _ => some (True, .v (.agg [.int .i64 ((tanhIF (Iv.mk x1 x2))).lo, .int .i64 ((tanhIF (Iv.mk x1 x2))).hi]), [])
  | _, _ => none
theorem F_tanhI_eq {x1 : Int} {x2 : Int} {g : List PC} : F_tanhI [.agg [.int .i64 x1, .int .i64 x2]] g = some (True, .v (.agg [.int .i64 ((tanhIF (Iv.mk x1 x2))).lo, .int .i64 ((tanhIF (Iv.mk x1 x2))).hi]), []) := rfl

-- impl.TanhI
theorem impl_TanhI_tanhI_ok : Fn Tryz.prog 30 F_tanhI := by
  refine fn_of_go (O := orc [⟨80, F_monoTanh, .inl impl_monotonic_monoTanh_ok⟩, ⟨88, F_closeTanh, .inl impl_odd_closeTanh_ok⟩]) mixed T_ok (orc_sound _) Tryz.func30 (by kernel_rfl) rfl Tryz.ntmps30 (by kernel_rfl) Tryz.results30 ?_
  intro args g pre r new hF hpre
  unfold F_tanhI at hF
  split at hF
  · rename_i x1 x2
    simp only [Option.some.injEq, Prod.mk.injEq] at hF
    obtain ⟨rfl, hr, rfl⟩ := hF
    refine ⟨by simp, ?_⟩
    simp (config := { maxSteps := 4000000, implicitDefEqProofs := false }) only [F_closeTanh_eq, F_monoTanh_eq, WK0, WK1, WK2, WK3, WK4, WK5, WK6, WK7, WK8, WK9, WK10, WK11, WK12, WK13, WK14, WK15, WK16, WK17, WK18, WK19, WK20, WK21, WK22, WK23, WK24, WK25, WK26, WK27, WK28, look_hit, look_miss, List.map_cons, List.map_nil, Nat.add_zero, max_v, min_v, ↓cnd_t, ↓cnd_f, ↓grd_b, ↓grd_u, startEnv, Option.map_some, List.length_nil, List.length_cons, List.nil_append, List.cons_append, List.getElem?_cons_zero, List.getElem?_cons_succ, List.set_cons_zero, List.set_cons_succ, Bool.not_true, Bool.not_false, reduceIte, Nat.reduceEqDiff, Nat.reduceAdd, Nat.reduceLT, blt_lit, beq_lit, Bool.or_true, Bool.true_or, Bool.or_false, Bool.false_or, Bool.and_true, Bool.true_and, Bool.and_self, cond_true, cond_false, List.append_nil, Iv.eta, Option.map_none, idxO_l0, idxO_l1, decide_true, decide_false, reqs_true, Int.zero_sub, wrap_lit, wrapu_lit, Int.reduceLE, Int.reduceLT, Int.reduceAdd, Int.reduceSub, Int.reduceMul, Int.reduceNeg, Int.reduceEq, Option.bind_some, bin_shr_u64, bin_shl_u64, bin_shr_i64, bin_shl_i64, and_m32', Int.reduceToNat, Int.reducePow, Int.reduceMod, Int.reduceDiv, wrap_u64s, true_or, or_true, true_and, and_true, Option.isSome_none, Option.isSome_some, Nat.reduceLeDiff, Nat.reduceMul, Int.toNat_natCast, Int.cast_ofNat_Int, Int.natCast_zero, Int.natCast_one, List.isEmpty_nil, List.isEmpty_cons, List.replicate_zero, List.replicate_succ, T1, T2, T3, T4, T5, T6, T9, T10, T11, T12, T21, T22, T23, T24, T26, T27, T28, T29, T30, T31, T32, T33, T34, T35, T37, T38, T39, T40, T42, T43, T44, T45, T46, T47, T48, T50, T52, T54, T55, T56, T57, T58, T59, T60, T61, T62, T63, T64, T65, T66, T67, T68, T69, T70, T71, T72, T73, T75, T77, T78, T79, T80, T82, T83, T84, T85, T87, T89, T90, T91, T92, T95, T97, T103, T104, T105, T106, T107, T109, T110]
    repeat' (first | with_reducible refine cnd_split (fun hc => ?_) (fun hc => ?_) | with_reducible refine Reqs.mk ?_ ?_)
    all_goals first | trivial | exact endS_v (t := (tanhIF (Iv.mk x1 x2))) hr rfl
  · cases hF

-- impl.AsinhI$1
def F_asinhP : FT
  | [.c (.p (.int .i64 n))], _ => some (0 ≤ n ∧ n < 1152921504606846976, .v (.agg [.int .i64 ((asinhP n)).lo, .int .i64 ((asinhP n)).hi]), [])
  | _, _ => none
theorem F_asinhP_eq {n : Int} {g : List PC} : F_asinhP [.c (.p (.int .i64 n))] g = some (0 ≤ n ∧ n < 1152921504606846976, .v (.agg [.int .i64 ((asinhP n)).lo, .int .i64 ((asinhP n)).hi]), []) := rfl
theorem impl_AsinhI_1_asinhP_ok : Fn Tryz.prog 91 F_asinhP := by
  refine fn_of_go (O := orc [⟨26, F_logI, .inl impl_LogI_logI_ok⟩, ⟨37, F_logA, .inl impl_LogAt_logA_ok⟩, ⟨86, F_addI, .inl impl_AddI_addI_ok⟩, ⟨90, F_intI, .inl impl_Integer_intI_ok⟩, ⟨92, F_atI, .inl impl_at_atI_ok⟩, ⟨93, F_sqrtI, .inl impl_SqrtI_sqrtI_ok⟩, ⟨94, F_sqrI, .inl impl_SqrI_sqrI_ok⟩, ⟨95, F_lnI, .inl impl_LogTwoI_lnI_ok⟩]) mixed T_ok (orc_sound _) Tryz.func91 (by kernel_rfl) rfl Tryz.ntmps91 (by kernel_rfl) Tryz.results91 ?_
  intro args g pre r new hF hpre
  unfold F_asinhP at hF
  split at hF
  · rename_i n
    simp only [Option.some.injEq, Prod.mk.injEq] at hF
    obtain ⟨rfl, hr, rfl⟩ := hF
    refine ⟨by simp, ?_⟩
    have e1 := at_mk (n := n) (by omega)
    simp (config := { maxSteps := 4000000, implicitDefEqProofs := false }) only [F_addI_eq, F_atI_eq, F_intI_eq, F_lnI_eq, F_logA_eq, F_logI_eq, F_sqrI_eq, F_sqrtI_eq, WK0, WK1, WK2, WK3, WK4, WK5, WK6, WK7, WK8, WK9, WK10, WK11, WK12, WK13, WK14, WK15, WK16, WK17, WK18, WK19, WK20, WK21, WK22, WK23, WK24, WK25, WK26, WK27, WK28, look_hit, look_miss, List.map_cons, List.map_nil, Nat.add_zero, max_v, min_v, ↓cnd_t, ↓cnd_f, ↓grd_b, ↓grd_u, startEnv, Option.map_some, List.length_nil, List.length_cons, List.nil_append, List.cons_append, List.getElem?_cons_zero, List.getElem?_cons_succ, List.set_cons_zero, List.set_cons_succ, Bool.not_true, Bool.not_false, reduceIte, Nat.reduceEqDiff, Nat.reduceAdd, Nat.reduceLT, blt_lit, beq_lit, Bool.or_true, Bool.true_or, Bool.or_false, Bool.false_or, Bool.and_true, Bool.true_and, Bool.and_self, cond_true, cond_false, List.append_nil, Iv.eta, Option.map_none, idxO_l0, idxO_l1, decide_true, decide_false, reqs_true, Int.zero_sub, wrap_lit, wrapu_lit, Int.reduceLE, Int.reduceLT, Int.reduceAdd, Int.reduceSub, Int.reduceMul, Int.reduceNeg, Int.reduceEq, Option.bind_some, bin_shr_u64, bin_shl_u64, bin_shr_i64, bin_shl_i64, and_m32', Int.reduceToNat, Int.reducePow, Int.reduceMod, Int.reduceDiv, wrap_u64s, true_or, or_true, true_and, and_true, Option.isSome_none, Option.isSome_some, Nat.reduceLeDiff, Nat.reduceMul, Int.toNat_natCast, Int.cast_ofNat_Int, Int.natCast_zero, Int.natCast_one, List.isEmpty_nil, List.isEmpty_cons, List.replicate_zero, List.replicate_succ, T1, T2, T3, T4, T5, T6, T9, T10, T11, T12, T21, T22, T23, T24, T26, T27, T28, T29, T30, T31, T32, T33, T34, T35, T37, T38, T39, T40, T42, T43, T44, T45, T46, T47, T48, T50, T52, T54, T55, T56, T57, T58, T59, T60, T61, T62, T63, T64, T65, T66, T67, T68, T69, T70, T71, T72, T73, T75, T77, T78, T79, T80, T82, T83, T84, T85, T87, T89, T90, T91, T92, T95, T97, T103, T104, T105, T106, T107, T109, T110, e1]
    repeat' (first | with_reducible refine cnd_split (fun hc => ?_) (fun hc => ?_) | with_reducible refine Reqs.mk ?_ ?_)
    all_goals (try simp only [decide_eq_true_eq, decide_eq_false_iff_not] at *)
    all_goals first
      | trivial
      | (exfalso; omega)
      | (refine endS_v (t := (asinhP n)) hr ?_; rw [asinhP, if_pos (by assumption)]; first | done | rfl)
      | (refine endS_v (t := (asinhP n)) hr ?_; rw [asinhP, if_neg (by assumption)]; first | done | rfl)
      | (unfold inR; omega)
      | (refine endS_v (t := (asinhP n)) hr ?_
         have hlt : ¬ 4294967296 ≤ n := by assumption
         rw [atanhP, if_neg hlt]
         have z1 : IntKind.i64.wrap (4294967296 + n) = 4294967296 + n := wrap_om (by omega) (by omega)
         have z2 : IntKind.i64.wrap (4294967296 - n) = 4294967296 - n := wrap_om (by omega) (by omega)
         have z3 := at_mk (n := 4294967296 + n) (by omega)
         have z4 := at_mk (n := 4294967296 - n) (by omega)
         simp only [z1, z2, z3, z4]
         try rfl)
  · cases hF

end Go.Proofs.YtcnapkdccjibpaaGreat.Eng
