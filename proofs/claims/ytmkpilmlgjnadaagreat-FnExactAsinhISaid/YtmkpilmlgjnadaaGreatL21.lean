/- What functions of the program compute, and that the program computes it: part 21. -/
import Derived.Test.YtmkpilmlgjnadaaGreatTab
import Derived.Test.YtmkpilmlgjnadaaGreatEng16
import Derived.Laws.BitsLemmas
import Derived.Laws.Bits64
import Derived.Laws.Bits64b
import Derived.Lib.Mul64
import Derived.Lib.BitFns
import Derived.Laws.Externs
import Derived.Test.YtmkpilmlgjnadaaGreatL1
import Derived.Test.YtmkpilmlgjnadaaGreatL2
import Derived.Test.YtmkpilmlgjnadaaGreatL3
import Derived.Test.YtmkpilmlgjnadaaGreatL6
import Derived.Test.YtmkpilmlgjnadaaGreatL7
import Derived.Test.YtmkpilmlgjnadaaGreatL8
import Derived.Test.YtmkpilmlgjnadaaGreatL12
import Derived.Test.YtmkpilmlgjnadaaGreatL15
import Derived.Test.YtmkpilmlgjnadaaGreatL17
import Derived.Test.YtmkpilmlgjnadaaGreatL18
namespace Go.Proofs.YtmkpilmlgjnadaaGreat.Eng
open Go Go.RowKit
set_option linter.unusedVariables false
set_option linter.unusedSimpArgs false
set_option maxRecDepth 100000
set_option maxHeartbeats 1000000
-- impl.HalfI
theorem impl_HalfI_halfI_ok : Fn Tryz.prog 28 F_halfI := by
  refine fn_of_go (O := orc [⟨27, F_whole, .inl impl_Whole_whole_ok⟩, ⟨61, F_notOk, .inl impl_IsWhole_notOk_ok⟩]) mixed T_ok (orc_sound _) Tryz.func28 (by kernel_rfl) rfl Tryz.ntmps28 (by kernel_rfl) Tryz.results28 ?_
  intro args g pre r new hF hpre
  unfold F_halfI at hF
  split at hF
  · rename_i a1 a2
    simp only [Option.some.injEq, Prod.mk.injEq] at hF
    obtain ⟨rfl, hr, rfl⟩ := hF
    refine ⟨by simp, ?_⟩
    simp (config := { maxSteps := 4000000, implicitDefEqProofs := false }) only [F_notOk_eq, F_whole_eq, WK0, WK1, WK2, WK3, WK4, WK5, WK6, WK7, WK8, WK9, WK10, WK11, WK12, WK13, WK14, WK15, WK16, WK17, WK18, WK19, WK20, WK21, WK22, WK23, look_hit, look_miss, List.map_cons, List.map_nil, Nat.add_zero, max_v, min_v, ↓cnd_t, ↓cnd_f, startEnv, Option.map_some, List.length_nil, List.length_cons, List.nil_append, List.cons_append, List.getElem?_cons_zero, List.getElem?_cons_succ, List.set_cons_zero, List.set_cons_succ, Bool.not_true, Bool.not_false, reduceIte, Nat.reduceEqDiff, Nat.reduceAdd, Nat.reduceLT, blt_lit, beq_lit, Bool.or_true, Bool.true_or, Bool.or_false, Bool.false_or, Bool.and_true, Bool.true_and, Bool.and_self, cond_true, cond_false, List.append_nil, Iv.eta, Option.map_none, idxO_l0, idxO_l1, decide_true, decide_false, reqs_true, Int.zero_sub, wrap_lit, wrapu_lit, Int.reduceLE, Int.reduceLT, Int.reduceAdd, Int.reduceSub, Int.reduceMul, Int.reduceNeg, Int.reduceEq, Option.bind_some, bin_shr_u64, bin_shl_u64, bin_shr_i64, bin_shl_i64, and_m32', Int.reduceToNat, Int.reducePow, Int.reduceMod, Int.reduceDiv, wrap_u64s, true_or, or_true, true_and, and_true, Option.isSome_none, Option.isSome_some, Nat.reduceLeDiff, Nat.reduceMul, Int.toNat_natCast, Int.cast_ofNat_Int, Int.natCast_zero, Int.natCast_one, List.isEmpty_nil, List.isEmpty_cons, List.replicate_zero, List.replicate_succ, T1, T2, T3, T4, T5, T6, T9, T10, T11, T12, T21, T22, T23, T24, T25, T26, T27, T28, T29, T30, T31, T32, T33, T34, T35, T36, T37, T38, T39, T40, T41, T43, T44, T45, T46, T47, T48, T49, T50, T51, T53, T54, T55, T56, T57, T58, T59, T61, T63, T65, T67, T68, T70, T72, T73, T74, T75, T76, T77, T78, T81, T83, T89, T90, T91, T92, T93, T95, T96]
    repeat' (first | with_reducible refine cnd_split (fun hc => ?_) (fun hc => ?_) | with_reducible refine Reqs.mk ?_ ?_)
    all_goals (first | trivial | (refine endS_v (t := (halfI (Iv.mk a1 a2))) hr ?_; try simp_all [halfI]))
    all_goals (try simp only [okI_mk, within_iff] at *)
    all_goals (try simp (disch := omega) only [wrap_om, wrapu_om, mkI_lin])
    all_goals (try simp_all [halfI])
    all_goals (try omega)
  · cases hF

-- spec.HalfI
theorem spec_HalfI_halfI_ok : Fn Tryz.prog 58 F_halfI := by
  refine fn_of_go (O := orc [⟨20, F_okI, .inl spec_l04Ok_okI_ok⟩, ⟨21, F_whole, .inl spec_l04Whole_whole_ok⟩, ⟨57, F_mkI, .inl spec_l04Make_mkI_ok⟩]) mixed T_ok (orc_sound _) Tryz.func58 (by kernel_rfl) rfl Tryz.ntmps58 (by kernel_rfl) Tryz.results58 ?_
  intro args g pre r new hF hpre
  unfold F_halfI at hF
  split at hF
  · rename_i a1 a2
    simp only [Option.some.injEq, Prod.mk.injEq] at hF
    obtain ⟨rfl, hr, rfl⟩ := hF
    refine ⟨by simp, ?_⟩
    simp (config := { maxSteps := 4000000, implicitDefEqProofs := false }) only [F_mkI_eq, F_okI_eq, F_whole_eq, WK0, WK1, WK2, WK3, WK4, WK5, WK6, WK7, WK8, WK9, WK10, WK11, WK12, WK13, WK14, WK15, WK16, WK17, WK18, WK19, WK20, WK21, WK22, WK23, look_hit, look_miss, List.map_cons, List.map_nil, Nat.add_zero, max_v, min_v, ↓cnd_t, ↓cnd_f, startEnv, Option.map_some, List.length_nil, List.length_cons, List.nil_append, List.cons_append, List.getElem?_cons_zero, List.getElem?_cons_succ, List.set_cons_zero, List.set_cons_succ, Bool.not_true, Bool.not_false, reduceIte, Nat.reduceEqDiff, Nat.reduceAdd, Nat.reduceLT, blt_lit, beq_lit, Bool.or_true, Bool.true_or, Bool.or_false, Bool.false_or, Bool.and_true, Bool.true_and, Bool.and_self, cond_true, cond_false, List.append_nil, Iv.eta, Option.map_none, idxO_l0, idxO_l1, decide_true, decide_false, reqs_true, Int.zero_sub, wrap_lit, wrapu_lit, Int.reduceLE, Int.reduceLT, Int.reduceAdd, Int.reduceSub, Int.reduceMul, Int.reduceNeg, Int.reduceEq, Option.bind_some, bin_shr_u64, bin_shl_u64, bin_shr_i64, bin_shl_i64, and_m32', Int.reduceToNat, Int.reducePow, Int.reduceMod, Int.reduceDiv, wrap_u64s, true_or, or_true, true_and, and_true, Option.isSome_none, Option.isSome_some, Nat.reduceLeDiff, Nat.reduceMul, Int.toNat_natCast, Int.cast_ofNat_Int, Int.natCast_zero, Int.natCast_one, List.isEmpty_nil, List.isEmpty_cons, List.replicate_zero, List.replicate_succ, T1, T2, T3, T4, T5, T6, T9, T10, T11, T12, T21, T22, T23, T24, T25, T26, T27, T28, T29, T30, T31, T32, T33, T34, T35, T36, T37, T38, T39, T40, T41, T43, T44, T45, T46, T47, T48, T49, T50, T51, T53, T54, T55, T56, T57, T58, T59, T61, T63, T65, T67, T68, T70, T72, T73, T74, T75, T76, T77, T78, T81, T83, T89, T90, T91, T92, T93, T95, T96]
    repeat' (first | with_reducible refine cnd_split (fun hc => ?_) (fun hc => ?_) | with_reducible refine Reqs.mk ?_ ?_)
    all_goals (first | trivial | (refine endS_v (t := (halfI (Iv.mk a1 a2))) hr ?_; try simp_all [halfI]))
    all_goals (try simp only [okI_mk, within_iff] at *)
    all_goals (try simp (disch := omega) only [wrap_om, wrapu_om, mkI_lin])
    all_goals (try simp_all [halfI])
    all_goals (try omega)
  · cases hF

-- mono
def monoI (f : Int → Iv) (x : Iv) : Iv := if okI x then (if okI (f x.lo) && okI (f x.hi) then mkI (f x.lo).lo (f x.hi).hi else whole) else whole
def oddI (f : Int → Iv) (n : Int) : Iv := if n < 0 then negI (f (-n)) else f n
def sinhF (n : Int) : Iv := halfI (subI (expA n) (expA (-n)))
def coshF (n : Int) : Iv := halfI (addI (expA n) (expA (-n)))
def tanhP (n : Int) : Iv := if 51539607552 < n then ⟨4294967295, 4294967296⟩ else divI (subI (intI 1) (expA (-2 * n))) (addI (intI 1) (expA (-2 * n)))
def asinhP (n : Int) : Iv := if n ≤ 35184372088832 then monoI logA (addI ⟨n, n⟩ (sqrtI (addI (sqrI ⟨n, n⟩) (intI 1)))) else addI (addI (lnI 1) (logA n)) ⟨0, 16⟩
def atanhP (n : Int) : Iv := if 4294967296 ≤ n then whole else halfI (monoI logA (divI ⟨4294967296 + n, 4294967296 + n⟩ ⟨4294967296 - n, 4294967296 - n⟩))
def endsI (a b : Iv) : Iv := if okI a && okI b then mkI a.lo b.hi else whole
def F_endsI : FT
  | [.agg [.int .i64 a1, .int .i64 a2], .agg [.int .i64 b1, .int .i64 b2]], _ => some (True, .v (.agg [.int .i64 ((endsI (Iv.mk a1 a2) (Iv.mk b1 b2))).lo, .int .i64 ((endsI (Iv.mk a1 a2) (Iv.mk b1 b2))).hi]), [])
  | _, _ => none
theorem F_endsI_eq {a1 : Int} {a2 : Int} {b1 : Int} {b2 : Int} {g : List PC} : F_endsI [.agg [.int .i64 a1, .int .i64 a2], .agg [.int .i64 b1, .int .i64 b2]] g = some (True, .v (.agg [.int .i64 ((endsI (Iv.mk a1 a2) (Iv.mk b1 b2))).lo, .int .i64 ((endsI (Iv.mk a1 a2) (Iv.mk b1 b2))).hi]), []) := rfl
theorem mono_ok {f : Int → Iv} {x1 x2 : Int} (h : okI ⟨x1, x2⟩ = true) : monoI f ⟨x1, x2⟩ = endsI (f x1) (f x2) := by
  unfold monoI endsI
  rw [if_pos h]
theorem mono_no {f : Int → Iv} {x : Iv} (h : okI x = false) : monoI f x = whole := by
  unfold monoI
  rw [h]; rfl
theorem abs_ok {x : Iv} (h : okI x = true) : okI (absI x) = true ∧ 0 ≤ (absI x).lo := by
  have hn := nearI_ok h
  unfold absI
  rw [if_pos h]
  refine ⟨hn, ?_⟩
  show 0 ≤ nearI x
  unfold nearI absZ
  repeat' split
  all_goals omega
theorem abs_no {x : Iv} (h : okI x = false) : okI (absI x) = false := by
  unfold absI
  rw [h]; rfl
theorem at_mk {n : Int} (h : -1152921504606846976 < n ∧ n < 1152921504606846976) : mkI n n = ⟨n, n⟩ := mkI_lin h.1 (by omega) h.2

-- spec.l08Ends
theorem spec_l08Ends_endsI_ok : Fn Tryz.prog 22 F_endsI := by
  refine fn_of_go (O := orc [⟨20, F_okI, .inl spec_l04Ok_okI_ok⟩, ⟨21, F_whole, .inl spec_l04Whole_whole_ok⟩, ⟨57, F_mkI, .inl spec_l04Make_mkI_ok⟩]) mixed T_ok (orc_sound _) Tryz.func22 (by kernel_rfl) rfl Tryz.ntmps22 (by kernel_rfl) Tryz.results22 ?_
  intro args g pre r new hF hpre
  unfold F_endsI at hF
  split at hF
  · rename_i a1 a2 b1 b2
    simp only [Option.some.injEq, Prod.mk.injEq] at hF
    obtain ⟨rfl, hr, rfl⟩ := hF
    refine ⟨by simp, ?_⟩
    simp (config := { maxSteps := 4000000, implicitDefEqProofs := false }) only [F_mkI_eq, F_okI_eq, F_whole_eq, WK0, WK1, WK2, WK3, WK4, WK5, WK6, WK7, WK8, WK9, WK10, WK11, WK12, WK13, WK14, WK15, WK16, WK17, WK18, WK19, WK20, WK21, WK22, WK23, look_hit, look_miss, List.map_cons, List.map_nil, Nat.add_zero, max_v, min_v, ↓cnd_t, ↓cnd_f, startEnv, Option.map_some, List.length_nil, List.length_cons, List.nil_append, List.cons_append, List.getElem?_cons_zero, List.getElem?_cons_succ, List.set_cons_zero, List.set_cons_succ, Bool.not_true, Bool.not_false, reduceIte, Nat.reduceEqDiff, Nat.reduceAdd, Nat.reduceLT, blt_lit, beq_lit, Bool.or_true, Bool.true_or, Bool.or_false, Bool.false_or, Bool.and_true, Bool.true_and, Bool.and_self, cond_true, cond_false, List.append_nil, Iv.eta, Option.map_none, idxO_l0, idxO_l1, decide_true, decide_false, reqs_true, Int.zero_sub, wrap_lit, wrapu_lit, Int.reduceLE, Int.reduceLT, Int.reduceAdd, Int.reduceSub, Int.reduceMul, Int.reduceNeg, Int.reduceEq, Option.bind_some, bin_shr_u64, bin_shl_u64, bin_shr_i64, bin_shl_i64, and_m32', Int.reduceToNat, Int.reducePow, Int.reduceMod, Int.reduceDiv, wrap_u64s, true_or, or_true, true_and, and_true, Option.isSome_none, Option.isSome_some, Nat.reduceLeDiff, Nat.reduceMul, Int.toNat_natCast, Int.cast_ofNat_Int, Int.natCast_zero, Int.natCast_one, List.isEmpty_nil, List.isEmpty_cons, List.replicate_zero, List.replicate_succ, T1, T2, T3, T4, T5, T6, T9, T10, T11, T12, T21, T22, T23, T24, T25, T26, T27, T28, T29, T30, T31, T32, T33, T34, T35, T36, T37, T38, T39, T40, T41, T43, T44, T45, T46, T47, T48, T49, T50, T51, T53, T54, T55, T56, T57, T58, T59, T61, T63, T65, T67, T68, T70, T72, T73, T74, T75, T76, T77, T78, T81, T83, T89, T90, T91, T92, T93, T95, T96]
    repeat' (first | with_reducible refine cnd_split (fun hc => ?_) (fun hc => ?_) | with_reducible refine Reqs.mk ?_ ?_)
    all_goals first
      | trivial
      | (refine endS_v (t := (endsI (Iv.mk a1 a2) (Iv.mk b1 b2))) hr ?_; simp_all [endsI]; done)
  · cases hF

-- def ExpI
def expIF (x : Iv) : Iv := monoI (expA) x
def F_expI : FT
  | [.agg [.int .i64 x1, .int .i64 x2]], _ => some (True, .v (.agg [.int .i64 ((expIF (Iv.mk x1 x2))).lo, .int .i64 ((expIF (Iv.mk x1 x2))).hi]), [])
  | _, _ => none
theorem F_expI_eq {x1 : Int} {x2 : Int} {g : List PC} : F_expI [.agg [.int .i64 x1, .int .i64 x2]] g = some (True, .v (.agg [.int .i64 ((expIF (Iv.mk x1 x2))).lo, .int .i64 ((expIF (Iv.mk x1 x2))).hi]), []) := rfl

-- impl.monotonic Log
def F_monoLog : FT
  | [.agg [.int .i64 x1, .int .i64 x2], .c (.p (.fn 39))], _ => some (True, .v (.agg [.int .i64 ((monoI (logA) (Iv.mk x1 x2))).lo, .int .i64 ((monoI (logA) (Iv.mk x1 x2))).hi]), [])
  | _, _ => none
theorem F_monoLog_eq {x1 : Int} {x2 : Int} {g : List PC} : F_monoLog [.agg [.int .i64 x1, .int .i64 x2], .c (.p (.fn 39))] g = some (True, .v (.agg [.int .i64 ((monoI (logA) (Iv.mk x1 x2))).lo, .int .i64 ((monoI (logA) (Iv.mk x1 x2))).hi]), []) := rfl
theorem impl_monotonic_monoLog_ok : Fn Tryz.prog 24 F_monoLog := by
  refine fn_of_go (O := orc [⟨27, F_whole, .inl impl_Whole_whole_ok⟩, ⟨39, F_logA, .inl impl_LogAt_logA_ok⟩, ⟨61, F_notOk, .inl impl_IsWhole_notOk_ok⟩, ⟨62, F_areOk, .inl impl_areBounded_areOk_ok⟩, ⟨63, F_bounded, .inl impl_bounded_bounded_ok⟩]) mixed T_ok (orc_sound _) Tryz.func24 (by kernel_rfl) rfl Tryz.ntmps24 (by kernel_rfl) Tryz.results24 ?_
  intro args g pre r new hF hpre
  unfold F_monoLog at hF
  split at hF
  · rename_i x1 x2
    simp only [Option.some.injEq, Prod.mk.injEq] at hF
    obtain ⟨rfl, hr, rfl⟩ := hF
    refine ⟨by simp, ?_⟩
    simp (config := { maxSteps := 4000000, implicitDefEqProofs := false }) only [F_areOk_eq, F_bounded_eq, F_logA_eq, F_notOk_eq, F_whole_eq, WK0, WK1, WK2, WK3, WK4, WK5, WK6, WK7, WK8, WK9, WK10, WK11, WK12, WK13, WK14, WK15, WK16, WK17, WK18, WK19, WK20, WK21, WK22, WK23, look_hit, look_miss, List.map_cons, List.map_nil, Nat.add_zero, max_v, min_v, ↓cnd_t, ↓cnd_f, startEnv, Option.map_some, List.length_nil, List.length_cons, List.nil_append, List.cons_append, List.getElem?_cons_zero, List.getElem?_cons_succ, List.set_cons_zero, List.set_cons_succ, Bool.not_true, Bool.not_false, reduceIte, Nat.reduceEqDiff, Nat.reduceAdd, Nat.reduceLT, blt_lit, beq_lit, Bool.or_true, Bool.true_or, Bool.or_false, Bool.false_or, Bool.and_true, Bool.true_and, Bool.and_self, cond_true, cond_false, List.append_nil, Iv.eta, Option.map_none, idxO_l0, idxO_l1, decide_true, decide_false, reqs_true, Int.zero_sub, wrap_lit, wrapu_lit, Int.reduceLE, Int.reduceLT, Int.reduceAdd, Int.reduceSub, Int.reduceMul, Int.reduceNeg, Int.reduceEq, Option.bind_some, bin_shr_u64, bin_shl_u64, bin_shr_i64, bin_shl_i64, and_m32', Int.reduceToNat, Int.reducePow, Int.reduceMod, Int.reduceDiv, wrap_u64s, true_or, or_true, true_and, and_true, Option.isSome_none, Option.isSome_some, Nat.reduceLeDiff, Nat.reduceMul, Int.toNat_natCast, Int.cast_ofNat_Int, Int.natCast_zero, Int.natCast_one, List.isEmpty_nil, List.isEmpty_cons, List.replicate_zero, List.replicate_succ, T1, T2, T3, T4, T5, T6, T9, T10, T11, T12, T21, T22, T23, T24, T25, T26, T27, T28, T29, T30, T31, T32, T33, T34, T35, T36, T37, T38, T39, T40, T41, T43, T44, T45, T46, T47, T48, T49, T50, T51, T53, T54, T55, T56, T57, T58, T59, T61, T63, T65, T67, T68, T70, T72, T73, T74, T75, T76, T77, T78, T81, T83, T89, T90, T91, T92, T93, T95, T96]
    repeat' (first | with_reducible refine cnd_split (fun hc => ?_) (fun hc => ?_) | with_reducible refine Reqs.mk ?_ ?_)
    all_goals first
      | trivial
      | (have hk := okI_mk.1 (by assumption : okI ⟨x1, x2⟩ = true); omega)
      | (refine endS_v (t := (monoI (logA) (Iv.mk x1 x2))) hr ?_; rw [mono_no (by assumption)]; done)
      | (refine endS_v (t := (monoI (logA) (Iv.mk x1 x2))) hr ?_; rw [mono_ok (by assumption), endsI]; simp_all; done)
  · cases hF

-- def LogI
def logIF (x : Iv) : Iv := monoI (logA) x
def F_logI : FT
  | [.agg [.int .i64 x1, .int .i64 x2]], _ => some (True, .v (.agg [.int .i64 ((logIF (Iv.mk x1 x2))).lo, .int .i64 ((logIF (Iv.mk x1 x2))).hi]), [])
  | _, _ => none
theorem F_logI_eq {x1 : Int} {x2 : Int} {g : List PC} : F_logI [.agg [.int .i64 x1, .int .i64 x2]] g = some (True, .v (.agg [.int .i64 ((logIF (Iv.mk x1 x2))).lo, .int .i64 ((logIF (Iv.mk x1 x2))).hi]), []) := rfl

-- impl.LogI
theorem impl_LogI_logI_ok : Fn Tryz.prog 29 F_logI := by
  refine fn_of_go (O := orc [⟨24, F_monoLog, .inl impl_monotonic_monoLog_ok⟩, ⟨39, F_logA, .inl impl_LogAt_logA_ok⟩]) mixed T_ok (orc_sound _) Tryz.func29 (by kernel_rfl) rfl Tryz.ntmps29 (by kernel_rfl) Tryz.results29 ?_
  intro args g pre r new hF hpre
  unfold F_logI at hF
  split at hF
  · rename_i x1 x2
    simp only [Option.some.injEq, Prod.mk.injEq] at hF
    obtain ⟨rfl, hr, rfl⟩ := hF
    refine ⟨by simp, ?_⟩
    simp (config := { maxSteps := 4000000, implicitDefEqProofs := false }) only [F_logA_eq, F_monoLog_eq, WK0, WK1, WK2, WK3, WK4, WK5, WK6, WK7, WK8, WK9, WK10, WK11, WK12, WK13, WK14, WK15, WK16, WK17, WK18, WK19, WK20, WK21, WK22, WK23, look_hit, look_miss, List.map_cons, List.map_nil, Nat.add_zero, max_v, min_v, ↓cnd_t, ↓cnd_f, startEnv, Option.map_some, List.length_nil, List.length_cons, List.nil_append, List.cons_append, List.getElem?_cons_zero, List.getElem?_cons_succ, List.set_cons_zero, List.set_cons_succ, Bool.not_true, Bool.not_false, reduceIte, Nat.reduceEqDiff, Nat.reduceAdd, Nat.reduceLT, blt_lit, beq_lit, Bool.or_true, Bool.true_or, Bool.or_false, Bool.false_or, Bool.and_true, Bool.true_and, Bool.and_self, cond_true, cond_false, List.append_nil, Iv.eta, Option.map_none, idxO_l0, idxO_l1, decide_true, decide_false, reqs_true, Int.zero_sub, wrap_lit, wrapu_lit, Int.reduceLE, Int.reduceLT, Int.reduceAdd, Int.reduceSub, Int.reduceMul, Int.reduceNeg, Int.reduceEq, Option.bind_some, bin_shr_u64, bin_shl_u64, bin_shr_i64, bin_shl_i64, and_m32', Int.reduceToNat, Int.reducePow, Int.reduceMod, Int.reduceDiv, wrap_u64s, true_or, or_true, true_and, and_true, Option.isSome_none, Option.isSome_some, Nat.reduceLeDiff, Nat.reduceMul, Int.toNat_natCast, Int.cast_ofNat_Int, Int.natCast_zero, Int.natCast_one, List.isEmpty_nil, List.isEmpty_cons, List.replicate_zero, List.replicate_succ, T1, T2, T3, T4, T5, T6, T9, T10, T11, T12, T21, T22, T23, T24, T25, T26, T27, T28, T29, T30, T31, T32, T33, T34, T35, T36, T37, T38, T39, T40, T41, T43, T44, T45, T46, T47, T48, T49, T50, T51, T53, T54, T55, T56, T57, T58, T59, T61, T63, T65, T67, T68, T70, T72, T73, T74, T75, T76, T77, T78, T81, T83, T89, T90, T91, T92, T93, T95, T96]
    repeat' (first | with_reducible refine cnd_split (fun hc => ?_) (fun hc => ?_) | with_reducible refine Reqs.mk ?_ ?_)
    all_goals first | trivial | exact endS_v (t := (logIF (Iv.mk x1 x2))) hr rfl
  · cases hF

-- spec.LogI
theorem spec_LogI_logI_ok : Fn Tryz.prog 59 F_logI := by
  refine fn_of_go (O := orc [⟨20, F_okI, .inl spec_l04Ok_okI_ok⟩, ⟨21, F_whole, .inl spec_l04Whole_whole_ok⟩, ⟨22, F_endsI, .inl spec_l08Ends_endsI_ok⟩, ⟨74, F_logA, .inl spec_LogAt_logA_ok⟩]) mixed T_ok (orc_sound _) Tryz.func59 (by kernel_rfl) rfl Tryz.ntmps59 (by kernel_rfl) Tryz.results59 ?_
  intro args g pre r new hF hpre
  unfold F_logI at hF
  split at hF
  · rename_i x1 x2
    simp only [Option.some.injEq, Prod.mk.injEq] at hF
    obtain ⟨rfl, hr, rfl⟩ := hF
    refine ⟨by simp, ?_⟩
    simp (config := { maxSteps := 4000000, implicitDefEqProofs := false }) only [F_endsI_eq, F_logA_eq, F_okI_eq, F_whole_eq, WK0, WK1, WK2, WK3, WK4, WK5, WK6, WK7, WK8, WK9, WK10, WK11, WK12, WK13, WK14, WK15, WK16, WK17, WK18, WK19, WK20, WK21, WK22, WK23, look_hit, look_miss, List.map_cons, List.map_nil, Nat.add_zero, max_v, min_v, ↓cnd_t, ↓cnd_f, startEnv, Option.map_some, List.length_nil, List.length_cons, List.nil_append, List.cons_append, List.getElem?_cons_zero, List.getElem?_cons_succ, List.set_cons_zero, List.set_cons_succ, Bool.not_true, Bool.not_false, reduceIte, Nat.reduceEqDiff, Nat.reduceAdd, Nat.reduceLT, blt_lit, beq_lit, Bool.or_true, Bool.true_or, Bool.or_false, Bool.false_or, Bool.and_true, Bool.true_and, Bool.and_self, cond_true, cond_false, List.append_nil, Iv.eta, Option.map_none, idxO_l0, idxO_l1, decide_true, decide_false, reqs_true, Int.zero_sub, wrap_lit, wrapu_lit, Int.reduceLE, Int.reduceLT, Int.reduceAdd, Int.reduceSub, Int.reduceMul, Int.reduceNeg, Int.reduceEq, Option.bind_some, bin_shr_u64, bin_shl_u64, bin_shr_i64, bin_shl_i64, and_m32', Int.reduceToNat, Int.reducePow, Int.reduceMod, Int.reduceDiv, wrap_u64s, true_or, or_true, true_and, and_true, Option.isSome_none, Option.isSome_some, Nat.reduceLeDiff, Nat.reduceMul, Int.toNat_natCast, Int.cast_ofNat_Int, Int.natCast_zero, Int.natCast_one, List.isEmpty_nil, List.isEmpty_cons, List.replicate_zero, List.replicate_succ, T1, T2, T3, T4, T5, T6, T9, T10, T11, T12, T21, T22, T23, T24, T25, T26, T27, T28, T29, T30, T31, T32, T33, T34, T35, T36, T37, T38, T39, T40, T41, T43, T44, T45, T46, T47, T48, T49, T50, T51, T53, T54, T55, T56, T57, T58, T59, T61, T63, T65, T67, T68, T70, T72, T73, T74, T75, T76, T77, T78, T81, T83, T89, T90, T91, T92, T93, T95, T96]
    repeat' (first | with_reducible refine cnd_split (fun hc => ?_) (fun hc => ?_) | with_reducible refine Reqs.mk ?_ ?_)
    all_goals first
      | trivial
      | (have hk := okI_mk.1 (by assumption : okI ⟨x1, x2⟩ = true); omega)
      | (refine endS_v (t := (logIF (Iv.mk x1 x2))) hr ?_; rw [logIF, mono_no (by first | assumption | exact abs_no (by assumption))]; done)
      | (refine endS_v (t := (logIF (Iv.mk x1 x2))) hr ?_; rw [logIF]; first | (rw [mono_ok (by assumption)]; done) | (rw [monoI, if_pos h9.1, endsI]; done))
  · cases hF

-- def SinhI
def sinhIF (x : Iv) : Iv := monoI (sinhF) x
def F_sinhI : FT
  | [.agg [.int .i64 x1, .int .i64 x2]], _ => some (True, .v (.agg [.int .i64 ((sinhIF (Iv.mk x1 x2))).lo, .int .i64 ((sinhIF (Iv.mk x1 x2))).hi]), [])
  | _, _ => none
theorem F_sinhI_eq {x1 : Int} {x2 : Int} {g : List PC} : F_sinhI [.agg [.int .i64 x1, .int .i64 x2]] g = some (True, .v (.agg [.int .i64 ((sinhIF (Iv.mk x1 x2))).lo, .int .i64 ((sinhIF (Iv.mk x1 x2))).hi]), []) := rfl

-- def CoshI
def coshIF (x : Iv) : Iv := monoI (coshF) (absI x)
def F_coshI : FT
  | [.agg [.int .i64 x1, .int .i64 x2]], _ => some (True, .v (.agg [.int .i64 ((coshIF (Iv.mk x1 x2))).lo, .int .i64 ((coshIF (Iv.mk x1 x2))).hi]), [])
  | _, _ => none
theorem F_coshI_eq {x1 : Int} {x2 : Int} {g : List PC} : F_coshI [.agg [.int .i64 x1, .int .i64 x2]] g = some (True, .v (.agg [.int .i64 ((coshIF (Iv.mk x1 x2))).lo, .int .i64 ((coshIF (Iv.mk x1 x2))).hi]), []) := rfl

-- def TanhI
def tanhIF (x : Iv) : Iv := monoI (oddI tanhP) x
def F_tanhI : FT
  | [.agg [.int .i64 x1, .int .i64 x2]], _ => some (True, .v (.agg [.int .i64 ((tanhIF (Iv.mk x1 x2))).lo, .int .i64 ((tanhIF (Iv.mk x1 x2))).hi]), [])
  | _, _ => none
theorem F_tanhI_eq {x1 : Int} {x2 : Int} {g : List PC} : F_tanhI [.agg [.int .i64 x1, .int .i64 x2]] g = some (True, .v (.agg [.int .i64 ((tanhIF (Iv.mk x1 x2))).lo, .int .i64 ((tanhIF (Iv.mk x1 x2))).hi]), []) := rfl

-- impl.AsinhI$1
def F_asinhP : FT
  | [.c (.p (.int .i64 n))], _ => some (0 ≤ n ∧ n < 1152921504606846976, .v (.agg [.int .i64 ((asinhP n)).lo, .int .i64 ((asinhP n)).hi]), [])
  | _, _ => none
theorem F_asinhP_eq {n : Int} {g : List PC} : F_asinhP [.c (.p (.int .i64 n))] g = some (0 ≤ n ∧ n < 1152921504606846976, .v (.agg [.int .i64 ((asinhP n)).lo, .int .i64 ((asinhP n)).hi]), []) := rfl
theorem impl_AsinhI_1_asinhP_ok : Fn Tryz.prog 33 F_asinhP := by
  refine fn_of_go (O := orc [⟨29, F_logI, .inl impl_LogI_logI_ok⟩, ⟨31, F_atI, .inl impl_at_atI_ok⟩, ⟨34, F_addI, .inl impl_AddI_addI_ok⟩, ⟨35, F_sqrtI, .inl impl_SqrtI_sqrtI_ok⟩, ⟨36, F_sqrI, .inl impl_SqrI_sqrI_ok⟩, ⟨37, F_intI, .inl impl_Integer_intI_ok⟩, ⟨38, F_lnI, .inl impl_LogTwoI_lnI_ok⟩, ⟨39, F_logA, .inl impl_LogAt_logA_ok⟩]) mixed T_ok (orc_sound _) Tryz.func33 (by kernel_rfl) rfl Tryz.ntmps33 (by kernel_rfl) Tryz.results33 ?_
  intro args g pre r new hF hpre
  unfold F_asinhP at hF
  split at hF
  · rename_i n
    simp only [Option.some.injEq, Prod.mk.injEq] at hF
    obtain ⟨rfl, hr, rfl⟩ := hF
    refine ⟨by simp, ?_⟩
    have e1 := at_mk (n := n) (by omega)
    simp (config := { maxSteps := 4000000, implicitDefEqProofs := false }) only [F_addI_eq, F_atI_eq, F_intI_eq, F_lnI_eq, F_logA_eq, F_logI_eq, F_sqrI_eq, F_sqrtI_eq, WK0, WK1, WK2, WK3, WK4, WK5, WK6, WK7, WK8, WK9, WK10, WK11, WK12, WK13, WK14, WK15, WK16, WK17, WK18, WK19, WK20, WK21, WK22, WK23, look_hit, look_miss, List.map_cons, List.map_nil, Nat.add_zero, max_v, min_v, ↓cnd_t, ↓cnd_f, startEnv, Option.map_some, List.length_nil, List.length_cons, List.nil_append, List.cons_append, List.getElem?_cons_zero, List.getElem?_cons_succ, List.set_cons_zero, List.set_cons_succ, Bool.not_true, Bool.not_false, reduceIte, Nat.reduceEqDiff, Nat.reduceAdd, Nat.reduceLT, blt_lit, beq_lit, Bool.or_true, Bool.true_or, Bool.or_false, Bool.false_or, Bool.and_true, Bool.true_and, Bool.and_self, cond_true, cond_false, List.append_nil, Iv.eta, Option.map_none, idxO_l0, idxO_l1, decide_true, decide_false, reqs_true, Int.zero_sub, wrap_lit, wrapu_lit, Int.reduceLE, Int.reduceLT, Int.reduceAdd, Int.reduceSub, Int.reduceMul, Int.reduceNeg, Int.reduceEq, Option.bind_some, bin_shr_u64, bin_shl_u64, bin_shr_i64, bin_shl_i64, and_m32', Int.reduceToNat, Int.reducePow, Int.reduceMod, Int.reduceDiv, wrap_u64s, true_or, or_true, true_and, and_true, Option.isSome_none, Option.isSome_some, Nat.reduceLeDiff, Nat.reduceMul, Int.toNat_natCast, Int.cast_ofNat_Int, Int.natCast_zero, Int.natCast_one, List.isEmpty_nil, List.isEmpty_cons, List.replicate_zero, List.replicate_succ, T1, T2, T3, T4, T5, T6, T9, T10, T11, T12, T21, T22, T23, T24, T25, T26, T27, T28, T29, T30, T31, T32, T33, T34, T35, T36, T37, T38, T39, T40, T41, T43, T44, T45, T46, T47, T48, T49, T50, T51, T53, T54, T55, T56, T57, T58, T59, T61, T63, T65, T67, T68, T70, T72, T73, T74, T75, T76, T77, T78, T81, T83, T89, T90, T91, T92, T93, T95, T96, e1]
    repeat' (first | with_reducible refine cnd_split (fun hc => ?_) (fun hc => ?_) | with_reducible refine Reqs.mk ?_ ?_)
    all_goals (try simp only [decide_eq_true_eq, decide_eq_false_iff_not] at *)
    all_goals first
      | trivial
      | (exfalso; omega)
      | (refine endS_v (t := (asinhP n)) hr ?_; rw [asinhP, if_pos (by assumption)]; first | done | rfl)
      | (refine endS_v (t := (asinhP n)) hr ?_; rw [asinhP, if_neg (by assumption)]; first | done | rfl)
      | (unfold inR; omega)
      | (refine endS_v (t := (asinhP n)) hr ?_
         have hlt : ¬ 4294967296 ≤ n := by assumption
         rw [atanhP, if_neg hlt]
         have z1 : IntKind.i64.wrap (4294967296 + n) = 4294967296 + n := wrap_om (by omega) (by omega)
         have z2 : IntKind.i64.wrap (4294967296 - n) = 4294967296 - n := wrap_om (by omega) (by omega)
         have z3 := at_mk (n := 4294967296 + n) (by omega)
         have z4 := at_mk (n := 4294967296 - n) (by omega)
         simp only [z1, z2, z3, z4]
         try rfl)
  · cases hF

-- spec.l08Asinh
theorem spec_l08Asinh_asinhP_ok : Fn Tryz.prog 32 F_asinhP := by
  refine fn_of_go (O := orc [⟨44, F_negI, .inl spec_NegI_negI_ok⟩, ⟨59, F_logI, .inl spec_LogI_logI_ok⟩, ⟨60, F_mkP, .inl spec_l08At_mkP_ok⟩, ⟨69, F_addI, .inl spec_AddI_addI_ok⟩, ⟨70, F_sqrtI, .inl spec_SqrtI_sqrtI_ok⟩, ⟨71, F_sqrI, .inl spec_SqrI_sqrI_ok⟩, ⟨72, F_oneI, .inl spec_l08One_oneI_ok⟩, ⟨73, F_lnI, .inl spec_LogTwoI_lnI_ok⟩, ⟨74, F_logA, .inl spec_LogAt_logA_ok⟩]) mixed T_ok (orc_sound _) Tryz.func32 (by kernel_rfl) rfl Tryz.ntmps32 (by kernel_rfl) Tryz.results32 ?_
  intro args g pre r new hF hpre
  unfold F_asinhP at hF
  split at hF
  · rename_i n
    simp only [Option.some.injEq, Prod.mk.injEq] at hF
    obtain ⟨rfl, hr, rfl⟩ := hF
    refine ⟨by simp, ?_⟩
    have e1 := at_mk (n := n) (by omega)
    simp (config := { maxSteps := 4000000, implicitDefEqProofs := false }) only [F_addI_eq, F_lnI_eq, F_logA_eq, F_logI_eq, F_mkP_eq, F_negI_eq, F_oneI_eq, F_sqrI_eq, F_sqrtI_eq, WK0, WK1, WK2, WK3, WK4, WK5, WK6, WK7, WK8, WK9, WK10, WK11, WK12, WK13, WK14, WK15, WK16, WK17, WK18, WK19, WK20, WK21, WK22, WK23, look_hit, look_miss, List.map_cons, List.map_nil, Nat.add_zero, max_v, min_v, ↓cnd_t, ↓cnd_f, startEnv, Option.map_some, List.length_nil, List.length_cons, List.nil_append, List.cons_append, List.getElem?_cons_zero, List.getElem?_cons_succ, List.set_cons_zero, List.set_cons_succ, Bool.not_true, Bool.not_false, reduceIte, Nat.reduceEqDiff, Nat.reduceAdd, Nat.reduceLT, blt_lit, beq_lit, Bool.or_true, Bool.true_or, Bool.or_false, Bool.false_or, Bool.and_true, Bool.true_and, Bool.and_self, cond_true, cond_false, List.append_nil, Iv.eta, Option.map_none, idxO_l0, idxO_l1, decide_true, decide_false, reqs_true, Int.zero_sub, wrap_lit, wrapu_lit, Int.reduceLE, Int.reduceLT, Int.reduceAdd, Int.reduceSub, Int.reduceMul, Int.reduceNeg, Int.reduceEq, Option.bind_some, bin_shr_u64, bin_shl_u64, bin_shr_i64, bin_shl_i64, and_m32', Int.reduceToNat, Int.reducePow, Int.reduceMod, Int.reduceDiv, wrap_u64s, true_or, or_true, true_and, and_true, Option.isSome_none, Option.isSome_some, Nat.reduceLeDiff, Nat.reduceMul, Int.toNat_natCast, Int.cast_ofNat_Int, Int.natCast_zero, Int.natCast_one, List.isEmpty_nil, List.isEmpty_cons, List.replicate_zero, List.replicate_succ, T1, T2, T3, T4, T5, T6, T9, T10, T11, T12, T21, T22, T23, T24, T25, T26, T27, T28, T29, T30, T31, T32, T33, T34, T35, T36, T37, T38, T39, T40, T41, T43, T44, T45, T46, T47, T48, T49, T50, T51, T53, T54, T55, T56, T57, T58, T59, T61, T63, T65, T67, T68, T70, T72, T73, T74, T75, T76, T77, T78, T81, T83, T89, T90, T91, T92, T93, T95, T96, e1]
    repeat' (first | with_reducible refine cnd_split (fun hc => ?_) (fun hc => ?_) | with_reducible refine Reqs.mk ?_ ?_)
    all_goals (try simp only [decide_eq_true_eq, decide_eq_false_iff_not] at *)
    all_goals first
      | trivial
      | (exfalso; omega)
      | (refine endS_v (t := (asinhP n)) hr ?_; rw [asinhP, if_pos (by assumption)]; first | done | rfl)
      | (refine endS_v (t := (asinhP n)) hr ?_; rw [asinhP, if_neg (by assumption)]; first | done | rfl)
      | (unfold inR; omega)
      | (refine endS_v (t := (asinhP n)) hr ?_
         have hlt : ¬ 4294967296 ≤ n := by assumption
         rw [atanhP, if_neg hlt]
         have z1 : IntKind.i64.wrap (4294967296 + n) = 4294967296 + n := wrap_om (by omega) (by omega)
         have z2 : IntKind.i64.wrap (4294967296 - n) = 4294967296 - n := wrap_om (by omega) (by omega)
         have z3 := at_mk (n := 4294967296 + n) (by omega)
         have z4 := at_mk (n := 4294967296 - n) (by omega)
         simp only [z1, z2, z3, z4]
         try rfl)
  · cases hF

-- spec.l08Asinh2
def F_oddAsinh : FT
  | [.c (.p (.int .i64 n))], _ => some (-1152921504606846976 < n ∧ n < 1152921504606846976, .v (.agg [.int .i64 ((oddI asinhP n)).lo, .int .i64 ((oddI asinhP n)).hi]), [])
  | _, _ => none
theorem F_oddAsinh_eq {n : Int} {g : List PC} : F_oddAsinh [.c (.p (.int .i64 n))] g = some (-1152921504606846976 < n ∧ n < 1152921504606846976, .v (.agg [.int .i64 ((oddI asinhP n)).lo, .int .i64 ((oddI asinhP n)).hi]), []) := rfl
theorem spec_l08Asinh_oddAsinh_ok : Fn Tryz.prog 32 F_oddAsinh := by
  refine fn_of_go (O := orc [⟨32, F_asinhP, .inl spec_l08Asinh_asinhP_ok⟩, ⟨44, F_negI, .inl spec_NegI_negI_ok⟩, ⟨59, F_logI, .inl spec_LogI_logI_ok⟩, ⟨60, F_mkP, .inl spec_l08At_mkP_ok⟩, ⟨69, F_addI, .inl spec_AddI_addI_ok⟩, ⟨70, F_sqrtI, .inl spec_SqrtI_sqrtI_ok⟩, ⟨71, F_sqrI, .inl spec_SqrI_sqrI_ok⟩, ⟨72, F_oneI, .inl spec_l08One_oneI_ok⟩, ⟨73, F_lnI, .inl spec_LogTwoI_lnI_ok⟩, ⟨74, F_logA, .inl spec_LogAt_logA_ok⟩]) mixed T_ok (orc_sound _) Tryz.func32 (by kernel_rfl) rfl Tryz.ntmps32 (by kernel_rfl) Tryz.results32 ?_
  intro args g pre r new hF hpre
  unfold F_oddAsinh at hF
  split at hF
  · rename_i n
    simp only [Option.some.injEq, Prod.mk.injEq] at hF
    obtain ⟨rfl, hr, rfl⟩ := hF
    refine ⟨by simp, ?_⟩
    have e1 := at_mk (n := n) (by omega)
    have e2 : IntKind.i64.wrap (-n) = -n := wrap_om (by omega) (by omega)
    have e3 := e1
    simp (config := { maxSteps := 4000000, implicitDefEqProofs := false }) only [F_addI_eq, F_asinhP_eq, F_lnI_eq, F_logA_eq, F_logI_eq, F_mkP_eq, F_negI_eq, F_oneI_eq, F_sqrI_eq, F_sqrtI_eq, WK0, WK1, WK2, WK3, WK4, WK5, WK6, WK7, WK8, WK9, WK10, WK11, WK12, WK13, WK14, WK15, WK16, WK17, WK18, WK19, WK20, WK21, WK22, WK23, look_hit, look_miss, List.map_cons, List.map_nil, Nat.add_zero, max_v, min_v, ↓cnd_t, ↓cnd_f, startEnv, Option.map_some, List.length_nil, List.length_cons, List.nil_append, List.cons_append, List.getElem?_cons_zero, List.getElem?_cons_succ, List.set_cons_zero, List.set_cons_succ, Bool.not_true, Bool.not_false, reduceIte, Nat.reduceEqDiff, Nat.reduceAdd, Nat.reduceLT, blt_lit, beq_lit, Bool.or_true, Bool.true_or, Bool.or_false, Bool.false_or, Bool.and_true, Bool.true_and, Bool.and_self, cond_true, cond_false, List.append_nil, Iv.eta, Option.map_none, idxO_l0, idxO_l1, decide_true, decide_false, reqs_true, Int.zero_sub, wrap_lit, wrapu_lit, Int.reduceLE, Int.reduceLT, Int.reduceAdd, Int.reduceSub, Int.reduceMul, Int.reduceNeg, Int.reduceEq, Option.bind_some, bin_shr_u64, bin_shl_u64, bin_shr_i64, bin_shl_i64, and_m32', Int.reduceToNat, Int.reducePow, Int.reduceMod, Int.reduceDiv, wrap_u64s, true_or, or_true, true_and, and_true, Option.isSome_none, Option.isSome_some, Nat.reduceLeDiff, Nat.reduceMul, Int.toNat_natCast, Int.cast_ofNat_Int, Int.natCast_zero, Int.natCast_one, List.isEmpty_nil, List.isEmpty_cons, List.replicate_zero, List.replicate_succ, T1, T2, T3, T4, T5, T6, T9, T10, T11, T12, T21, T22, T23, T24, T25, T26, T27, T28, T29, T30, T31, T32, T33, T34, T35, T36, T37, T38, T39, T40, T41, T43, T44, T45, T46, T47, T48, T49, T50, T51, T53, T54, T55, T56, T57, T58, T59, T61, T63, T65, T67, T68, T70, T72, T73, T74, T75, T76, T77, T78, T81, T83, T89, T90, T91, T92, T93, T95, T96, e1, e2]
    repeat' (first | with_reducible refine cnd_split (fun hc => ?_) (fun hc => ?_) | with_reducible refine Reqs.mk ?_ ?_)
    all_goals (try simp only [decide_eq_true_eq, decide_eq_false_iff_not] at *)
    all_goals first
      | trivial
      | (refine ⟨?_, ?_⟩ <;> omega)
      | (refine endS_v (t := (oddI asinhP n)) hr ?_; rw [oddI, if_pos (by assumption)]; done)
      | (refine endS_v (t := (oddI asinhP n)) hr ?_; rw [oddI, if_neg (by omega), asinhP, if_pos (by assumption)]; first | done | rfl)
      | (refine endS_v (t := (oddI asinhP n)) hr ?_; rw [oddI, if_neg (by omega), asinhP, if_neg (by assumption)]; first | done | rfl)
      | (refine endS_v (t := (oddI asinhP n)) hr ?_
         have hlt : ¬ 4294967296 ≤ n := by assumption
         rw [oddI, if_neg (by omega), atanhP, if_neg hlt]
         have z1 : IntKind.i64.wrap (4294967296 + n) = 4294967296 + n := wrap_om (by omega) (by omega)
         have z2 : IntKind.i64.wrap (4294967296 - n) = 4294967296 - n := wrap_om (by omega) (by omega)
         have z3 := at_mk (n := 4294967296 + n) (by omega)
         have z4 := at_mk (n := 4294967296 - n) (by omega)
         simp only [z1, z2, z3, z4]
         try rfl)
  · cases hF

-- impl.odd Asinh
def F_closeAsinh : FT
  | [.c (.p (.fn 33))], _ => some (True, .v (.c (.clo 64 [.own 0 0])), [[.fn 33]])
  | _, _ => none
theorem F_closeAsinh_eq {g : List PC} : F_closeAsinh [.c (.p (.fn 33))] g = some (True, .v (.c (.clo 64 [.own 0 0])), [[.fn 33]]) := rfl
theorem impl_odd_closeAsinh_ok : Fn Tryz.prog 25 F_closeAsinh := by
  refine fn_of_go (O := orc []) mixed T_ok (orc_sound _) Tryz.func25 (by kernel_rfl) rfl Tryz.ntmps25 (by kernel_rfl) Tryz.results25 ?_
  intro args g pre r new hF hpre
  unfold F_closeAsinh at hF
  split at hF
  · skip
    simp only [Option.some.injEq, Prod.mk.injEq] at hF
    obtain ⟨rfl, hr, rfl⟩ := hF
    refine ⟨by simp, ?_⟩
    simp (config := { maxSteps := 4000000, implicitDefEqProofs := false }) only [WK0, WK1, WK2, WK3, WK4, WK5, WK6, WK7, WK8, WK9, WK10, WK11, WK12, WK13, WK14, WK15, WK16, WK17, WK18, WK19, WK20, WK21, WK22, WK23, look_hit, look_miss, List.map_cons, List.map_nil, Nat.add_zero, max_v, min_v, ↓cnd_t, ↓cnd_f, startEnv, Option.map_some, List.length_nil, List.length_cons, List.nil_append, List.cons_append, List.getElem?_cons_zero, List.getElem?_cons_succ, List.set_cons_zero, List.set_cons_succ, Bool.not_true, Bool.not_false, reduceIte, Nat.reduceEqDiff, Nat.reduceAdd, Nat.reduceLT, blt_lit, beq_lit, Bool.or_true, Bool.true_or, Bool.or_false, Bool.false_or, Bool.and_true, Bool.true_and, Bool.and_self, cond_true, cond_false, List.append_nil, Iv.eta, Option.map_none, idxO_l0, idxO_l1, decide_true, decide_false, reqs_true, Int.zero_sub, wrap_lit, wrapu_lit, Int.reduceLE, Int.reduceLT, Int.reduceAdd, Int.reduceSub, Int.reduceMul, Int.reduceNeg, Int.reduceEq, Option.bind_some, bin_shr_u64, bin_shl_u64, bin_shr_i64, bin_shl_i64, and_m32', Int.reduceToNat, Int.reducePow, Int.reduceMod, Int.reduceDiv, wrap_u64s, true_or, or_true, true_and, and_true, Option.isSome_none, Option.isSome_some, Nat.reduceLeDiff, Nat.reduceMul, Int.toNat_natCast, Int.cast_ofNat_Int, Int.natCast_zero, Int.natCast_one, List.isEmpty_nil, List.isEmpty_cons, List.replicate_zero, List.replicate_succ, T1, T2, T3, T4, T5, T6, T9, T10, T11, T12, T21, T22, T23, T24, T25, T26, T27, T28, T29, T30, T31, T32, T33, T34, T35, T36, T37, T38, T39, T40, T41, T43, T44, T45, T46, T47, T48, T49, T50, T51, T53, T54, T55, T56, T57, T58, T59, T61, T63, T65, T67, T68, T70, T72, T73, T74, T75, T76, T77, T78, T81, T83, T89, T90, T91, T92, T93, T95, T96]
    exact (by subst hr; exact ⟨rfl, by simp [SV.res, AV.res, Cl.res, Pt.res, full], rfl⟩)
  · cases hF

-- impl.odd$1 Asinh
def F_oddCAsinh : FT
  | [.c (.p (.int .i64 n)), .c (.ptr (.giv 0))], [.fn 33] => some (-1152921504606846976 < n ∧ n < 1152921504606846976, .v (.agg [.int .i64 ((oddI asinhP n)).lo, .int .i64 ((oddI asinhP n)).hi]), [])
  | _, _ => none
theorem F_oddCAsinh_eq {n : Int} : F_oddCAsinh [.c (.p (.int .i64 n)), .c (.ptr (.giv 0))] [.fn 33] = some (-1152921504606846976 < n ∧ n < 1152921504606846976, .v (.agg [.int .i64 ((oddI asinhP n)).lo, .int .i64 ((oddI asinhP n)).hi]), []) := rfl
theorem impl_odd_1_oddCAsinh_ok : Fn Tryz.prog 64 F_oddCAsinh := by
  refine fn_of_go (O := orc [⟨33, F_asinhP, .inl impl_AsinhI_1_asinhP_ok⟩, ⟨53, F_negI, .inl impl_NegI_negI_ok⟩]) mixed T_ok (orc_sound _) Tryz.func64 (by kernel_rfl) rfl Tryz.ntmps64 (by kernel_rfl) Tryz.results64 ?_
  intro args g pre r new hF hpre
  unfold F_oddCAsinh at hF
  split at hF
  · rename_i n
    simp only [Option.some.injEq, Prod.mk.injEq] at hF
    obtain ⟨rfl, hr, rfl⟩ := hF
    refine ⟨by simp, ?_⟩
    have e2 : IntKind.i64.wrap (-n) = -n := wrap_om (by omega) (by omega)
    simp (config := { maxSteps := 4000000, implicitDefEqProofs := false }) only [F_asinhP_eq, F_negI_eq, WK0, WK1, WK2, WK3, WK4, WK5, WK6, WK7, WK8, WK9, WK10, WK11, WK12, WK13, WK14, WK15, WK16, WK17, WK18, WK19, WK20, WK21, WK22, WK23, look_hit, look_miss, List.map_cons, List.map_nil, Nat.add_zero, max_v, min_v, ↓cnd_t, ↓cnd_f, startEnv, Option.map_some, List.length_nil, List.length_cons, List.nil_append, List.cons_append, List.getElem?_cons_zero, List.getElem?_cons_succ, List.set_cons_zero, List.set_cons_succ, Bool.not_true, Bool.not_false, reduceIte, Nat.reduceEqDiff, Nat.reduceAdd, Nat.reduceLT, blt_lit, beq_lit, Bool.or_true, Bool.true_or, Bool.or_false, Bool.false_or, Bool.and_true, Bool.true_and, Bool.and_self, cond_true, cond_false, List.append_nil, Iv.eta, Option.map_none, idxO_l0, idxO_l1, decide_true, decide_false, reqs_true, Int.zero_sub, wrap_lit, wrapu_lit, Int.reduceLE, Int.reduceLT, Int.reduceAdd, Int.reduceSub, Int.reduceMul, Int.reduceNeg, Int.reduceEq, Option.bind_some, bin_shr_u64, bin_shl_u64, bin_shr_i64, bin_shl_i64, and_m32', Int.reduceToNat, Int.reducePow, Int.reduceMod, Int.reduceDiv, wrap_u64s, true_or, or_true, true_and, and_true, Option.isSome_none, Option.isSome_some, Nat.reduceLeDiff, Nat.reduceMul, Int.toNat_natCast, Int.cast_ofNat_Int, Int.natCast_zero, Int.natCast_one, List.isEmpty_nil, List.isEmpty_cons, List.replicate_zero, List.replicate_succ, T1, T2, T3, T4, T5, T6, T9, T10, T11, T12, T21, T22, T23, T24, T25, T26, T27, T28, T29, T30, T31, T32, T33, T34, T35, T36, T37, T38, T39, T40, T41, T43, T44, T45, T46, T47, T48, T49, T50, T51, T53, T54, T55, T56, T57, T58, T59, T61, T63, T65, T67, T68, T70, T72, T73, T74, T75, T76, T77, T78, T81, T83, T89, T90, T91, T92, T93, T95, T96, e2]
    repeat' (first | with_reducible refine cnd_split (fun hc => ?_) (fun hc => ?_) | with_reducible refine Reqs.mk ?_ ?_)
    all_goals (try simp only [decide_eq_true_eq, decide_eq_false_iff_not] at *)
    all_goals first
      | trivial
      | (refine ⟨?_, ?_⟩ <;> omega)
      | (refine endS_v (t := (oddI asinhP n)) hr ?_; rw [oddI, if_pos (by assumption)]; done)
      | (refine endS_v (t := (oddI asinhP n)) hr ?_; rw [oddI, if_neg (by omega)]; done)
  · cases hF

-- impl.monotonic Asinh
def F_monoAsinh : FT
  | [.agg [.int .i64 x1, .int .i64 x2], .c (.clo 64 [.giv 0])], [.fn 33] => some (True, .v (.agg [.int .i64 ((monoI (oddI asinhP) (Iv.mk x1 x2))).lo, .int .i64 ((monoI (oddI asinhP) (Iv.mk x1 x2))).hi]), [])
  | _, _ => none
theorem F_monoAsinh_eq {x1 : Int} {x2 : Int} : F_monoAsinh [.agg [.int .i64 x1, .int .i64 x2], .c (.clo 64 [.giv 0])] [.fn 33] = some (True, .v (.agg [.int .i64 ((monoI (oddI asinhP) (Iv.mk x1 x2))).lo, .int .i64 ((monoI (oddI asinhP) (Iv.mk x1 x2))).hi]), []) := rfl
theorem impl_monotonic_monoAsinh_ok : Fn Tryz.prog 24 F_monoAsinh := by
  refine fn_of_go (O := orc [⟨27, F_whole, .inl impl_Whole_whole_ok⟩, ⟨61, F_notOk, .inl impl_IsWhole_notOk_ok⟩, ⟨62, F_areOk, .inl impl_areBounded_areOk_ok⟩, ⟨63, F_bounded, .inl impl_bounded_bounded_ok⟩, ⟨64, F_oddCAsinh, .inl impl_odd_1_oddCAsinh_ok⟩]) mixed T_ok (orc_sound _) Tryz.func24 (by kernel_rfl) rfl Tryz.ntmps24 (by kernel_rfl) Tryz.results24 ?_
  intro args g pre r new hF hpre
  unfold F_monoAsinh at hF
  split at hF
  · rename_i x1 x2
    simp only [Option.some.injEq, Prod.mk.injEq] at hF
    obtain ⟨rfl, hr, rfl⟩ := hF
    refine ⟨by simp, ?_⟩
    simp (config := { maxSteps := 4000000, implicitDefEqProofs := false }) only [F_areOk_eq, F_bounded_eq, F_notOk_eq, F_oddCAsinh_eq, F_whole_eq, WK0, WK1, WK2, WK3, WK4, WK5, WK6, WK7, WK8, WK9, WK10, WK11, WK12, WK13, WK14, WK15, WK16, WK17, WK18, WK19, WK20, WK21, WK22, WK23, look_hit, look_miss, List.map_cons, List.map_nil, Nat.add_zero, max_v, min_v, ↓cnd_t, ↓cnd_f, startEnv, Option.map_some, List.length_nil, List.length_cons, List.nil_append, List.cons_append, List.getElem?_cons_zero, List.getElem?_cons_succ, List.set_cons_zero, List.set_cons_succ, Bool.not_true, Bool.not_false, reduceIte, Nat.reduceEqDiff, Nat.reduceAdd, Nat.reduceLT, blt_lit, beq_lit, Bool.or_true, Bool.true_or, Bool.or_false, Bool.false_or, Bool.and_true, Bool.true_and, Bool.and_self, cond_true, cond_false, List.append_nil, Iv.eta, Option.map_none, idxO_l0, idxO_l1, decide_true, decide_false, reqs_true, Int.zero_sub, wrap_lit, wrapu_lit, Int.reduceLE, Int.reduceLT, Int.reduceAdd, Int.reduceSub, Int.reduceMul, Int.reduceNeg, Int.reduceEq, Option.bind_some, bin_shr_u64, bin_shl_u64, bin_shr_i64, bin_shl_i64, and_m32', Int.reduceToNat, Int.reducePow, Int.reduceMod, Int.reduceDiv, wrap_u64s, true_or, or_true, true_and, and_true, Option.isSome_none, Option.isSome_some, Nat.reduceLeDiff, Nat.reduceMul, Int.toNat_natCast, Int.cast_ofNat_Int, Int.natCast_zero, Int.natCast_one, List.isEmpty_nil, List.isEmpty_cons, List.replicate_zero, List.replicate_succ, T1, T2, T3, T4, T5, T6, T9, T10, T11, T12, T21, T22, T23, T24, T25, T26, T27, T28, T29, T30, T31, T32, T33, T34, T35, T36, T37, T38, T39, T40, T41, T43, T44, T45, T46, T47, T48, T49, T50, T51, T53, T54, T55, T56, T57, T58, T59, T61, T63, T65, T67, T68, T70, T72, T73, T74, T75, T76, T77, T78, T81, T83, T89, T90, T91, T92, T93, T95, T96]
    repeat' (first | with_reducible refine cnd_split (fun hc => ?_) (fun hc => ?_) | with_reducible refine Reqs.mk ?_ ?_)
    all_goals first
      | trivial
      | (have hk := okI_mk.1 (by assumption : okI ⟨x1, x2⟩ = true); omega)
      | (refine endS_v (t := (monoI (oddI asinhP) (Iv.mk x1 x2))) hr ?_; rw [mono_no (by assumption)]; done)
      | (refine endS_v (t := (monoI (oddI asinhP) (Iv.mk x1 x2))) hr ?_; rw [mono_ok (by assumption), endsI]; simp_all; done)
  · cases hF

-- def AsinhI
def asinhIF (x : Iv) : Iv := monoI (oddI asinhP) x
def F_asinhI : FT
  | [.agg [.int .i64 x1, .int .i64 x2]], _ => some (True, .v (.agg [.int .i64 ((asinhIF (Iv.mk x1 x2))).lo, .int .i64 ((asinhIF (Iv.mk x1 x2))).hi]), [])
  | _, _ => none
theorem F_asinhI_eq {x1 : Int} {x2 : Int} {g : List PC} : F_asinhI [.agg [.int .i64 x1, .int .i64 x2]] g = some (True, .v (.agg [.int .i64 ((asinhIF (Iv.mk x1 x2))).lo, .int .i64 ((asinhIF (Iv.mk x1 x2))).hi]), []) := rfl

-- impl.AsinhI
theorem impl_AsinhI_asinhI_ok : Fn Tryz.prog 13 F_asinhI := by
  refine fn_of_go (O := orc [⟨24, F_monoAsinh, .inl impl_monotonic_monoAsinh_ok⟩, ⟨25, F_closeAsinh, .inl impl_odd_closeAsinh_ok⟩]) mixed T_ok (orc_sound _) Tryz.func13 (by kernel_rfl) rfl Tryz.ntmps13 (by kernel_rfl) Tryz.results13 ?_
  intro args g pre r new hF hpre
  unfold F_asinhI at hF
  split at hF
  · rename_i x1 x2
    simp only [Option.some.injEq, Prod.mk.injEq] at hF
    obtain ⟨rfl, hr, rfl⟩ := hF
    refine ⟨by simp, ?_⟩
    simp (config := { maxSteps := 4000000, implicitDefEqProofs := false }) only [F_closeAsinh_eq, F_monoAsinh_eq, WK0, WK1, WK2, WK3, WK4, WK5, WK6, WK7, WK8, WK9, WK10, WK11, WK12, WK13, WK14, WK15, WK16, WK17, WK18, WK19, WK20, WK21, WK22, WK23, look_hit, look_miss, List.map_cons, List.map_nil, Nat.add_zero, max_v, min_v, ↓cnd_t, ↓cnd_f, startEnv, Option.map_some, List.length_nil, List.length_cons, List.nil_append, List.cons_append, List.getElem?_cons_zero, List.getElem?_cons_succ, List.set_cons_zero, List.set_cons_succ, Bool.not_true, Bool.not_false, reduceIte, Nat.reduceEqDiff, Nat.reduceAdd, Nat.reduceLT, blt_lit, beq_lit, Bool.or_true, Bool.true_or, Bool.or_false, Bool.false_or, Bool.and_true, Bool.true_and, Bool.and_self, cond_true, cond_false, List.append_nil, Iv.eta, Option.map_none, idxO_l0, idxO_l1, decide_true, decide_false, reqs_true, Int.zero_sub, wrap_lit, wrapu_lit, Int.reduceLE, Int.reduceLT, Int.reduceAdd, Int.reduceSub, Int.reduceMul, Int.reduceNeg, Int.reduceEq, Option.bind_some, bin_shr_u64, bin_shl_u64, bin_shr_i64, bin_shl_i64, and_m32', Int.reduceToNat, Int.reducePow, Int.reduceMod, Int.reduceDiv, wrap_u64s, true_or, or_true, true_and, and_true, Option.isSome_none, Option.isSome_some, Nat.reduceLeDiff, Nat.reduceMul, Int.toNat_natCast, Int.cast_ofNat_Int, Int.natCast_zero, Int.natCast_one, List.isEmpty_nil, List.isEmpty_cons, List.replicate_zero, List.replicate_succ, T1, T2, T3, T4, T5, T6, T9, T10, T11, T12, T21, T22, T23, T24, T25, T26, T27, T28, T29, T30, T31, T32, T33, T34, T35, T36, T37, T38, T39, T40, T41, T43, T44, T45, T46, T47, T48, T49, T50, T51, T53, T54, T55, T56, T57, T58, T59, T61, T63, T65, T67, T68, T70, T72, T73, T74, T75, T76, T77, T78, T81, T83, T89, T90, T91, T92, T93, T95, T96]
    repeat' (first | with_reducible refine cnd_split (fun hc => ?_) (fun hc => ?_) | with_reducible refine Reqs.mk ?_ ?_)
    all_goals first | trivial | exact endS_v (t := (asinhIF (Iv.mk x1 x2))) hr rfl
  · cases hF

-- spec.AsinhI
theorem spec_AsinhI_asinhI_ok : Fn Tryz.prog 12 F_asinhI := by
  refine fn_of_go (O := orc [⟨20, F_okI, .inl spec_l04Ok_okI_ok⟩, ⟨21, F_whole, .inl spec_l04Whole_whole_ok⟩, ⟨22, F_endsI, .inl spec_l08Ends_endsI_ok⟩, ⟨32, F_oddAsinh, .inl spec_l08Asinh_oddAsinh_ok⟩]) mixed T_ok (orc_sound _) Tryz.func12 (by kernel_rfl) rfl Tryz.ntmps12 (by kernel_rfl) Tryz.results12 ?_
  intro args g pre r new hF hpre
  unfold F_asinhI at hF
  split at hF
  · rename_i x1 x2
    simp only [Option.some.injEq, Prod.mk.injEq] at hF
    obtain ⟨rfl, hr, rfl⟩ := hF
    refine ⟨by simp, ?_⟩
    simp (config := { maxSteps := 4000000, implicitDefEqProofs := false }) only [F_endsI_eq, F_oddAsinh_eq, F_okI_eq, F_whole_eq, WK0, WK1, WK2, WK3, WK4, WK5, WK6, WK7, WK8, WK9, WK10, WK11, WK12, WK13, WK14, WK15, WK16, WK17, WK18, WK19, WK20, WK21, WK22, WK23, look_hit, look_miss, List.map_cons, List.map_nil, Nat.add_zero, max_v, min_v, ↓cnd_t, ↓cnd_f, startEnv, Option.map_some, List.length_nil, List.length_cons, List.nil_append, List.cons_append, List.getElem?_cons_zero, List.getElem?_cons_succ, List.set_cons_zero, List.set_cons_succ, Bool.not_true, Bool.not_false, reduceIte, Nat.reduceEqDiff, Nat.reduceAdd, Nat.reduceLT, blt_lit, beq_lit, Bool.or_true, Bool.true_or, Bool.or_false, Bool.false_or, Bool.and_true, Bool.true_and, Bool.and_self, cond_true, cond_false, List.append_nil, Iv.eta, Option.map_none, idxO_l0, idxO_l1, decide_true, decide_false, reqs_true, Int.zero_sub, wrap_lit, wrapu_lit, Int.reduceLE, Int.reduceLT, Int.reduceAdd, Int.reduceSub, Int.reduceMul, Int.reduceNeg, Int.reduceEq, Option.bind_some, bin_shr_u64, bin_shl_u64, bin_shr_i64, bin_shl_i64, and_m32', Int.reduceToNat, Int.reducePow, Int.reduceMod, Int.reduceDiv, wrap_u64s, true_or, or_true, true_and, and_true, Option.isSome_none, Option.isSome_some, Nat.reduceLeDiff, Nat.reduceMul, Int.toNat_natCast, Int.cast_ofNat_Int, Int.natCast_zero, Int.natCast_one, List.isEmpty_nil, List.isEmpty_cons, List.replicate_zero, List.replicate_succ, T1, T2, T3, T4, T5, T6, T9, T10, T11, T12, T21, T22, T23, T24, T25, T26, T27, T28, T29, T30, T31, T32, T33, T34, T35, T36, T37, T38, T39, T40, T41, T43, T44, T45, T46, T47, T48, T49, T50, T51, T53, T54, T55, T56, T57, T58, T59, T61, T63, T65, T67, T68, T70, T72, T73, T74, T75, T76, T77, T78, T81, T83, T89, T90, T91, T92, T93, T95, T96]
    repeat' (first | with_reducible refine cnd_split (fun hc => ?_) (fun hc => ?_) | with_reducible refine Reqs.mk ?_ ?_)
    all_goals first
      | trivial
      | (have hk := okI_mk.1 (by assumption : okI ⟨x1, x2⟩ = true); omega)
      | (refine endS_v (t := (asinhIF (Iv.mk x1 x2))) hr ?_; rw [asinhIF, mono_no (by first | assumption | exact abs_no (by assumption))]; done)
      | (refine endS_v (t := (asinhIF (Iv.mk x1 x2))) hr ?_; rw [asinhIF]; first | (rw [mono_ok (by assumption)]; done) | (rw [monoI, if_pos h9.1, endsI]; done))
  · cases hF

-- impl.AtanhI$1
def F_atanhP : FT
  | [.c (.p (.int .i64 n))], _ => some (0 ≤ n ∧ n < 1152921504606846976, .v (.agg [.int .i64 ((atanhP n)).lo, .int .i64 ((atanhP n)).hi]), [])
  | _, _ => none
theorem F_atanhP_eq {n : Int} {g : List PC} : F_atanhP [.c (.p (.int .i64 n))] g = some (0 ≤ n ∧ n < 1152921504606846976, .v (.agg [.int .i64 ((atanhP n)).lo, .int .i64 ((atanhP n)).hi]), []) := rfl
theorem impl_AtanhI_1_atanhP_ok : Fn Tryz.prog 26 F_atanhP := by
  refine fn_of_go (O := orc [⟨27, F_whole, .inl impl_Whole_whole_ok⟩, ⟨28, F_halfI, .inl impl_HalfI_halfI_ok⟩, ⟨29, F_logI, .inl impl_LogI_logI_ok⟩, ⟨30, F_divI, .inl impl_DivI_divI_ok⟩, ⟨31, F_atI, .inl impl_at_atI_ok⟩]) mixed T_ok (orc_sound _) Tryz.func26 (by kernel_rfl) rfl Tryz.ntmps26 (by kernel_rfl) Tryz.results26 ?_
  intro args g pre r new hF hpre
  unfold F_atanhP at hF
  split at hF
  · rename_i n
    simp only [Option.some.injEq, Prod.mk.injEq] at hF
    obtain ⟨rfl, hr, rfl⟩ := hF
    refine ⟨by simp, ?_⟩
    have e1 := at_mk (n := n) (by omega)
    simp (config := { maxSteps := 4000000, implicitDefEqProofs := false }) only [F_atI_eq, F_divI_eq, F_halfI_eq, F_logI_eq, F_whole_eq, WK0, WK1, WK2, WK3, WK4, WK5, WK6, WK7, WK8, WK9, WK10, WK11, WK12, WK13, WK14, WK15, WK16, WK17, WK18, WK19, WK20, WK21, WK22, WK23, look_hit, look_miss, List.map_cons, List.map_nil, Nat.add_zero, max_v, min_v, ↓cnd_t, ↓cnd_f, startEnv, Option.map_some, List.length_nil, List.length_cons, List.nil_append, List.cons_append, List.getElem?_cons_zero, List.getElem?_cons_succ, List.set_cons_zero, List.set_cons_succ, Bool.not_true, Bool.not_false, reduceIte, Nat.reduceEqDiff, Nat.reduceAdd, Nat.reduceLT, blt_lit, beq_lit, Bool.or_true, Bool.true_or, Bool.or_false, Bool.false_or, Bool.and_true, Bool.true_and, Bool.and_self, cond_true, cond_false, List.append_nil, Iv.eta, Option.map_none, idxO_l0, idxO_l1, decide_true, decide_false, reqs_true, Int.zero_sub, wrap_lit, wrapu_lit, Int.reduceLE, Int.reduceLT, Int.reduceAdd, Int.reduceSub, Int.reduceMul, Int.reduceNeg, Int.reduceEq, Option.bind_some, bin_shr_u64, bin_shl_u64, bin_shr_i64, bin_shl_i64, and_m32', Int.reduceToNat, Int.reducePow, Int.reduceMod, Int.reduceDiv, wrap_u64s, true_or, or_true, true_and, and_true, Option.isSome_none, Option.isSome_some, Nat.reduceLeDiff, Nat.reduceMul, Int.toNat_natCast, Int.cast_ofNat_Int, Int.natCast_zero, Int.natCast_one, List.isEmpty_nil, List.isEmpty_cons, List.replicate_zero, List.replicate_succ, T1, T2, T3, T4, T5, T6, T9, T10, T11, T12, T21, T22, T23, T24, T25, T26, T27, T28, T29, T30, T31, T32, T33, T34, T35, T36, T37, T38, T39, T40, T41, T43, T44, T45, T46, T47, T48, T49, T50, T51, T53, T54, T55, T56, T57, T58, T59, T61, T63, T65, T67, T68, T70, T72, T73, T74, T75, T76, T77, T78, T81, T83, T89, T90, T91, T92, T93, T95, T96, e1]
    repeat' (first | with_reducible refine cnd_split (fun hc => ?_) (fun hc => ?_) | with_reducible refine Reqs.mk ?_ ?_)
    all_goals (try simp only [decide_eq_true_eq, decide_eq_false_iff_not] at *)
    all_goals first
      | trivial
      | (exfalso; omega)
      | (refine endS_v (t := (atanhP n)) hr ?_; rw [atanhP, if_pos (by assumption)]; first | done | rfl)
      | (refine endS_v (t := (atanhP n)) hr ?_; rw [atanhP, if_neg (by assumption)]; first | done | rfl)
      | (unfold inR; omega)
      | (refine endS_v (t := (atanhP n)) hr ?_
         have hlt : ¬ 4294967296 ≤ n := by assumption
         rw [atanhP, if_neg hlt]
         have z1 : IntKind.i64.wrap (4294967296 + n) = 4294967296 + n := wrap_om (by omega) (by omega)
         have z2 : IntKind.i64.wrap (4294967296 - n) = 4294967296 - n := wrap_om (by omega) (by omega)
         have z3 := at_mk (n := 4294967296 + n) (by omega)
         have z4 := at_mk (n := 4294967296 - n) (by omega)
         simp only [z1, z2, z3, z4]
         try rfl)
  · cases hF

-- spec.l08Atanh
theorem spec_l08Atanh_atanhP_ok : Fn Tryz.prog 23 F_atanhP := by
  refine fn_of_go (O := orc [⟨21, F_whole, .inl spec_l04Whole_whole_ok⟩, ⟨44, F_negI, .inl spec_NegI_negI_ok⟩, ⟨48, F_divI, .inl spec_DivI_divI_ok⟩, ⟨58, F_halfI, .inl spec_HalfI_halfI_ok⟩, ⟨59, F_logI, .inl spec_LogI_logI_ok⟩, ⟨60, F_mkP, .inl spec_l08At_mkP_ok⟩]) mixed T_ok (orc_sound _) Tryz.func23 (by kernel_rfl) rfl Tryz.ntmps23 (by kernel_rfl) Tryz.results23 ?_
  intro args g pre r new hF hpre
  unfold F_atanhP at hF
  split at hF
  · rename_i n
    simp only [Option.some.injEq, Prod.mk.injEq] at hF
    obtain ⟨rfl, hr, rfl⟩ := hF
    refine ⟨by simp, ?_⟩
    have e1 := at_mk (n := n) (by omega)
    simp (config := { maxSteps := 4000000, implicitDefEqProofs := false }) only [F_divI_eq, F_halfI_eq, F_logI_eq, F_mkP_eq, F_negI_eq, F_whole_eq, WK0, WK1, WK2, WK3, WK4, WK5, WK6, WK7, WK8, WK9, WK10, WK11, WK12, WK13, WK14, WK15, WK16, WK17, WK18, WK19, WK20, WK21, WK22, WK23, look_hit, look_miss, List.map_cons, List.map_nil, Nat.add_zero, max_v, min_v, ↓cnd_t, ↓cnd_f, startEnv, Option.map_some, List.length_nil, List.length_cons, List.nil_append, List.cons_append, List.getElem?_cons_zero, List.getElem?_cons_succ, List.set_cons_zero, List.set_cons_succ, Bool.not_true, Bool.not_false, reduceIte, Nat.reduceEqDiff, Nat.reduceAdd, Nat.reduceLT, blt_lit, beq_lit, Bool.or_true, Bool.true_or, Bool.or_false, Bool.false_or, Bool.and_true, Bool.true_and, Bool.and_self, cond_true, cond_false, List.append_nil, Iv.eta, Option.map_none, idxO_l0, idxO_l1, decide_true, decide_false, reqs_true, Int.zero_sub, wrap_lit, wrapu_lit, Int.reduceLE, Int.reduceLT, Int.reduceAdd, Int.reduceSub, Int.reduceMul, Int.reduceNeg, Int.reduceEq, Option.bind_some, bin_shr_u64, bin_shl_u64, bin_shr_i64, bin_shl_i64, and_m32', Int.reduceToNat, Int.reducePow, Int.reduceMod, Int.reduceDiv, wrap_u64s, true_or, or_true, true_and, and_true, Option.isSome_none, Option.isSome_some, Nat.reduceLeDiff, Nat.reduceMul, Int.toNat_natCast, Int.cast_ofNat_Int, Int.natCast_zero, Int.natCast_one, List.isEmpty_nil, List.isEmpty_cons, List.replicate_zero, List.replicate_succ, T1, T2, T3, T4, T5, T6, T9, T10, T11, T12, T21, T22, T23, T24, T25, T26, T27, T28, T29, T30, T31, T32, T33, T34, T35, T36, T37, T38, T39, T40, T41, T43, T44, T45, T46, T47, T48, T49, T50, T51, T53, T54, T55, T56, T57, T58, T59, T61, T63, T65, T67, T68, T70, T72, T73, T74, T75, T76, T77, T78, T81, T83, T89, T90, T91, T92, T93, T95, T96, e1]
    repeat' (first | with_reducible refine cnd_split (fun hc => ?_) (fun hc => ?_) | with_reducible refine Reqs.mk ?_ ?_)
    all_goals (try simp only [decide_eq_true_eq, decide_eq_false_iff_not] at *)
    all_goals first
      | trivial
      | (exfalso; omega)
      | (refine endS_v (t := (atanhP n)) hr ?_; rw [atanhP, if_pos (by assumption)]; first | done | rfl)
      | (refine endS_v (t := (atanhP n)) hr ?_; rw [atanhP, if_neg (by assumption)]; first | done | rfl)
      | (unfold inR; omega)
      | (refine endS_v (t := (atanhP n)) hr ?_
         have hlt : ¬ 4294967296 ≤ n := by assumption
         rw [atanhP, if_neg hlt]
         have z1 : IntKind.i64.wrap (4294967296 + n) = 4294967296 + n := wrap_om (by omega) (by omega)
         have z2 : IntKind.i64.wrap (4294967296 - n) = 4294967296 - n := wrap_om (by omega) (by omega)
         have z3 := at_mk (n := 4294967296 + n) (by omega)
         have z4 := at_mk (n := 4294967296 - n) (by omega)
         simp only [z1, z2, z3, z4]
         try rfl)
  · cases hF

end Go.Proofs.YtmkpilmlgjnadaaGreat.Eng
