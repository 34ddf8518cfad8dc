/- What functions of the program compute, and that the program computes it: part 20. -/
import Derived.Test.YtmkpilmlgjnadaaTab
import Derived.Test.YtmkpilmlgjnadaaEng16
import Derived.Laws.BitsLemmas
import Derived.Laws.Bits64
import Derived.Laws.Bits64b
import Derived.Lib.Mul64
import Derived.Lib.BitFns
import Derived.Laws.Externs
import Derived.Test.YtmkpilmlgjnadaaL1
import Derived.Test.YtmkpilmlgjnadaaL2
import Derived.Test.YtmkpilmlgjnadaaL3
import Derived.Test.YtmkpilmlgjnadaaL5
import Derived.Test.YtmkpilmlgjnadaaL6
import Derived.Test.YtmkpilmlgjnadaaL7
import Derived.Test.YtmkpilmlgjnadaaL11
import Derived.Test.YtmkpilmlgjnadaaL15
import Derived.Test.YtmkpilmlgjnadaaL16
import Derived.Test.YtmkpilmlgjnadaaL17
namespace Go.Proofs.Ytmkpilmlgjnadaa.Eng
open Go Go.RowKit
set_option linter.unusedVariables false
set_option linter.unusedSimpArgs false
set_option maxRecDepth 100000
set_option maxHeartbeats 1000000
-- impl.HalfI
theorem impl_HalfI_halfI_ok : Fn Try.prog 54 F_halfI := by
  refine fn_of_go (O := orc [⟨39, F_whole, .inl impl_Whole_whole_ok⟩, ⟨90, F_notOk, .inl impl_IsWhole_notOk_ok⟩]) mixed T_ok (orc_sound _) Try.func54 (by kernel_rfl) rfl Try.ntmps54 (by kernel_rfl) Try.results54 ?_
  intro args g pre r new hF hpre
  unfold F_halfI at hF
  split at hF
  · rename_i a1 a2
    simp only [Option.some.injEq, Prod.mk.injEq] at hF
    obtain ⟨rfl, hr, rfl⟩ := hF
    refine ⟨by simp, ?_⟩
    simp (config := { maxSteps := 4000000, implicitDefEqProofs := false }) only [F_notOk_eq, F_whole_eq, WK0, WK1, WK2, WK3, WK4, WK5, WK6, WK7, WK8, WK9, WK10, WK11, WK12, WK13, WK14, WK15, WK16, WK17, WK18, WK19, WK20, WK21, WK22, WK23, look_hit, look_miss, List.map_cons, List.map_nil, Nat.add_zero, max_v, min_v, ↓cnd_t, ↓cnd_f, startEnv, Option.map_some, List.length_nil, List.length_cons, List.nil_append, List.cons_append, List.getElem?_cons_zero, List.getElem?_cons_succ, List.set_cons_zero, List.set_cons_succ, Bool.not_true, Bool.not_false, reduceIte, Nat.reduceEqDiff, Nat.reduceAdd, Nat.reduceLT, blt_lit, beq_lit, Bool.or_true, Bool.true_or, Bool.or_false, Bool.false_or, Bool.and_true, Bool.true_and, Bool.and_self, cond_true, cond_false, List.append_nil, Iv.eta, Option.map_none, idxO_l0, idxO_l1, decide_true, decide_false, reqs_true, Int.zero_sub, wrap_lit, wrapu_lit, Int.reduceLE, Int.reduceLT, Int.reduceAdd, Int.reduceSub, Int.reduceMul, Int.reduceNeg, Int.reduceEq, Option.bind_some, bin_shr_u64, bin_shl_u64, bin_shr_i64, bin_shl_i64, and_m32', Int.reduceToNat, Int.reducePow, Int.reduceMod, Int.reduceDiv, wrap_u64s, true_or, or_true, true_and, and_true, Option.isSome_none, Option.isSome_some, Nat.reduceLeDiff, Nat.reduceMul, Int.toNat_natCast, Int.cast_ofNat_Int, Int.natCast_zero, Int.natCast_one, List.isEmpty_nil, List.isEmpty_cons, List.replicate_zero, List.replicate_succ, T1, T2, T3, T4, T5, T6, T9, T10, T11, T12, T21, T22, T23, T24, T25, T26, T27, T28, T29, T30, T31, T32, T33, T34, T35, T36, T37, T38, T39, T40, T42, T43, T44, T45, T46, T47, T48, T50, T51, T52, T53, T54, T55, T56, T57, T58, T59, T61, T62, T63, T65, T67, T69, T70, T71, T72, T75, T77, T83, T84, T85, T86, T87, T89, T90]
    repeat' (first | with_reducible refine cnd_split (fun hc => ?_) (fun hc => ?_) | with_reducible refine Reqs.mk ?_ ?_)
    all_goals (first | trivial | (refine endS_v (t := (halfI (Iv.mk a1 a2))) hr ?_; try simp_all [halfI]))
    all_goals (try simp only [okI_mk, within_iff] at *)
    all_goals (try simp (disch := omega) only [wrap_om, wrapu_om, mkI_lin])
    all_goals (try simp_all [halfI])
    all_goals (try omega)
  · cases hF

-- spec.HalfI
theorem spec_HalfI_halfI_ok : Fn Try.prog 92 F_halfI := by
  refine fn_of_go (O := orc [⟨27, F_whole, .inl spec_l04Whole_whole_ok⟩, ⟨49, F_okI, .inl spec_l04Ok_okI_ok⟩, ⟨68, F_mkI, .inl spec_l04Make_mkI_ok⟩]) mixed T_ok (orc_sound _) Try.func92 (by kernel_rfl) rfl Try.ntmps92 (by kernel_rfl) Try.results92 ?_
  intro args g pre r new hF hpre
  unfold F_halfI at hF
  split at hF
  · rename_i a1 a2
    simp only [Option.some.injEq, Prod.mk.injEq] at hF
    obtain ⟨rfl, hr, rfl⟩ := hF
    refine ⟨by simp, ?_⟩
    simp (config := { maxSteps := 4000000, implicitDefEqProofs := false }) only [F_mkI_eq, F_okI_eq, F_whole_eq, WK0, WK1, WK2, WK3, WK4, WK5, WK6, WK7, WK8, WK9, WK10, WK11, WK12, WK13, WK14, WK15, WK16, WK17, WK18, WK19, WK20, WK21, WK22, WK23, look_hit, look_miss, List.map_cons, List.map_nil, Nat.add_zero, max_v, min_v, ↓cnd_t, ↓cnd_f, startEnv, Option.map_some, List.length_nil, List.length_cons, List.nil_append, List.cons_append, List.getElem?_cons_zero, List.getElem?_cons_succ, List.set_cons_zero, List.set_cons_succ, Bool.not_true, Bool.not_false, reduceIte, Nat.reduceEqDiff, Nat.reduceAdd, Nat.reduceLT, blt_lit, beq_lit, Bool.or_true, Bool.true_or, Bool.or_false, Bool.false_or, Bool.and_true, Bool.true_and, Bool.and_self, cond_true, cond_false, List.append_nil, Iv.eta, Option.map_none, idxO_l0, idxO_l1, decide_true, decide_false, reqs_true, Int.zero_sub, wrap_lit, wrapu_lit, Int.reduceLE, Int.reduceLT, Int.reduceAdd, Int.reduceSub, Int.reduceMul, Int.reduceNeg, Int.reduceEq, Option.bind_some, bin_shr_u64, bin_shl_u64, bin_shr_i64, bin_shl_i64, and_m32', Int.reduceToNat, Int.reducePow, Int.reduceMod, Int.reduceDiv, wrap_u64s, true_or, or_true, true_and, and_true, Option.isSome_none, Option.isSome_some, Nat.reduceLeDiff, Nat.reduceMul, Int.toNat_natCast, Int.cast_ofNat_Int, Int.natCast_zero, Int.natCast_one, List.isEmpty_nil, List.isEmpty_cons, List.replicate_zero, List.replicate_succ, T1, T2, T3, T4, T5, T6, T9, T10, T11, T12, T21, T22, T23, T24, T25, T26, T27, T28, T29, T30, T31, T32, T33, T34, T35, T36, T37, T38, T39, T40, T42, T43, T44, T45, T46, T47, T48, T50, T51, T52, T53, T54, T55, T56, T57, T58, T59, T61, T62, T63, T65, T67, T69, T70, T71, T72, T75, T77, T83, T84, T85, T86, T87, T89, T90]
    repeat' (first | with_reducible refine cnd_split (fun hc => ?_) (fun hc => ?_) | with_reducible refine Reqs.mk ?_ ?_)
    all_goals (first | trivial | (refine endS_v (t := (halfI (Iv.mk a1 a2))) hr ?_; try simp_all [halfI]))
    all_goals (try simp only [okI_mk, within_iff] at *)
    all_goals (try simp (disch := omega) only [wrap_om, wrapu_om, mkI_lin])
    all_goals (try simp_all [halfI])
    all_goals (try omega)
  · cases hF

-- mono
def monoI (f : Int → Iv) (x : Iv) : Iv := if okI x then (if okI (f x.lo) && okI (f x.hi) then mkI (f x.lo).lo (f x.hi).hi else whole) else whole
def oddI (f : Int → Iv) (n : Int) : Iv := if n < 0 then negI (f (-n)) else f n
def sinhF (n : Int) : Iv := halfI (subI (expA n) (expA (-n)))
def coshF (n : Int) : Iv := halfI (addI (expA n) (expA (-n)))
def tanhP (n : Int) : Iv := if 51539607552 < n then ⟨4294967295, 4294967296⟩ else divI (subI (intI 1) (expA (-2 * n))) (addI (intI 1) (expA (-2 * n)))
def asinhP (n : Int) : Iv := if n ≤ 35184372088832 then monoI logA (addI ⟨n, n⟩ (sqrtI (addI (sqrI ⟨n, n⟩) (intI 1)))) else addI (addI (lnI 1) (logA n)) ⟨0, 16⟩
def atanhP (n : Int) : Iv := if 4294967296 ≤ n then whole else halfI (monoI logA (divI ⟨4294967296 + n, 4294967296 + n⟩ ⟨4294967296 - n, 4294967296 - n⟩))
def endsI (a b : Iv) : Iv := if okI a && okI b then mkI a.lo b.hi else whole
def F_endsI : FT
  | [.agg [.int .i64 a1, .int .i64 a2], .agg [.int .i64 b1, .int .i64 b2]], _ => some (True, .v (.agg [.int .i64 ((endsI (Iv.mk a1 a2) (Iv.mk b1 b2))).lo, .int .i64 ((endsI (Iv.mk a1 a2) (Iv.mk b1 b2))).hi]), [])
  | _, _ => none
theorem F_endsI_eq {a1 : Int} {a2 : Int} {b1 : Int} {b2 : Int} {g : List PC} : F_endsI [.agg [.int .i64 a1, .int .i64 a2], .agg [.int .i64 b1, .int .i64 b2]] g = some (True, .v (.agg [.int .i64 ((endsI (Iv.mk a1 a2) (Iv.mk b1 b2))).lo, .int .i64 ((endsI (Iv.mk a1 a2) (Iv.mk b1 b2))).hi]), []) := rfl
theorem mono_ok {f : Int → Iv} {x1 x2 : Int} (h : okI ⟨x1, x2⟩ = true) : monoI f ⟨x1, x2⟩ = endsI (f x1) (f x2) := by
  unfold monoI endsI
  rw [if_pos h]
theorem mono_no {f : Int → Iv} {x : Iv} (h : okI x = false) : monoI f x = whole := by
  unfold monoI
  rw [h]; rfl
theorem abs_ok {x : Iv} (h : okI x = true) : okI (absI x) = true ∧ 0 ≤ (absI x).lo := by
  have hn := nearI_ok h
  unfold absI
  rw [if_pos h]
  refine ⟨hn, ?_⟩
  show 0 ≤ nearI x
  unfold nearI absZ
  repeat' split
  all_goals omega
theorem abs_no {x : Iv} (h : okI x = false) : okI (absI x) = false := by
  unfold absI
  rw [h]; rfl
theorem at_mk {n : Int} (h : -1152921504606846976 < n ∧ n < 1152921504606846976) : mkI n n = ⟨n, n⟩ := mkI_lin h.1 (by omega) h.2

-- spec.l08Ends
theorem spec_l08Ends_endsI_ok : Fn Try.prog 50 F_endsI := by
  refine fn_of_go (O := orc [⟨27, F_whole, .inl spec_l04Whole_whole_ok⟩, ⟨49, F_okI, .inl spec_l04Ok_okI_ok⟩, ⟨68, F_mkI, .inl spec_l04Make_mkI_ok⟩]) mixed T_ok (orc_sound _) Try.func50 (by kernel_rfl) rfl Try.ntmps50 (by kernel_rfl) Try.results50 ?_
  intro args g pre r new hF hpre
  unfold F_endsI at hF
  split at hF
  · rename_i a1 a2 b1 b2
    simp only [Option.some.injEq, Prod.mk.injEq] at hF
    obtain ⟨rfl, hr, rfl⟩ := hF
    refine ⟨by simp, ?_⟩
    simp (config := { maxSteps := 4000000, implicitDefEqProofs := false }) only [F_mkI_eq, F_okI_eq, F_whole_eq, WK0, WK1, WK2, WK3, WK4, WK5, WK6, WK7, WK8, WK9, WK10, WK11, WK12, WK13, WK14, WK15, WK16, WK17, WK18, WK19, WK20, WK21, WK22, WK23, look_hit, look_miss, List.map_cons, List.map_nil, Nat.add_zero, max_v, min_v, ↓cnd_t, ↓cnd_f, startEnv, Option.map_some, List.length_nil, List.length_cons, List.nil_append, List.cons_append, List.getElem?_cons_zero, List.getElem?_cons_succ, List.set_cons_zero, List.set_cons_succ, Bool.not_true, Bool.not_false, reduceIte, Nat.reduceEqDiff, Nat.reduceAdd, Nat.reduceLT, blt_lit, beq_lit, Bool.or_true, Bool.true_or, Bool.or_false, Bool.false_or, Bool.and_true, Bool.true_and, Bool.and_self, cond_true, cond_false, List.append_nil, Iv.eta, Option.map_none, idxO_l0, idxO_l1, decide_true, decide_false, reqs_true, Int.zero_sub, wrap_lit, wrapu_lit, Int.reduceLE, Int.reduceLT, Int.reduceAdd, Int.reduceSub, Int.reduceMul, Int.reduceNeg, Int.reduceEq, Option.bind_some, bin_shr_u64, bin_shl_u64, bin_shr_i64, bin_shl_i64, and_m32', Int.reduceToNat, Int.reducePow, Int.reduceMod, Int.reduceDiv, wrap_u64s, true_or, or_true, true_and, and_true, Option.isSome_none, Option.isSome_some, Nat.reduceLeDiff, Nat.reduceMul, Int.toNat_natCast, Int.cast_ofNat_Int, Int.natCast_zero, Int.natCast_one, List.isEmpty_nil, List.isEmpty_cons, List.replicate_zero, List.replicate_succ, T1, T2, T3, T4, T5, T6, T9, T10, T11, T12, T21, T22, T23, T24, T25, T26, T27, T28, T29, T30, T31, T32, T33, T34, T35, T36, T37, T38, T39, T40, T42, T43, T44, T45, T46, T47, T48, T50, T51, T52, T53, T54, T55, T56, T57, T58, T59, T61, T62, T63, T65, T67, T69, T70, T71, T72, T75, T77, T83, T84, T85, T86, T87, T89, T90]
    repeat' (first | with_reducible refine cnd_split (fun hc => ?_) (fun hc => ?_) | with_reducible refine Reqs.mk ?_ ?_)
    all_goals first
      | trivial
      | (refine endS_v (t := (endsI (Iv.mk a1 a2) (Iv.mk b1 b2))) hr ?_; simp_all [endsI]; done)
  · cases hF

-- impl.monotonic Exp
def F_monoExp : FT
  | [.agg [.int .i64 x1, .int .i64 x2], .c (.p (.fn 11))], _ => some (True, .v (.agg [.int .i64 ((monoI (expA) (Iv.mk x1 x2))).lo, .int .i64 ((monoI (expA) (Iv.mk x1 x2))).hi]), [])
  | _, _ => none
theorem F_monoExp_eq {x1 : Int} {x2 : Int} {g : List PC} : F_monoExp [.agg [.int .i64 x1, .int .i64 x2], .c (.p (.fn 11))] g = some (True, .v (.agg [.int .i64 ((monoI (expA) (Iv.mk x1 x2))).lo, .int .i64 ((monoI (expA) (Iv.mk x1 x2))).hi]), []) := rfl
theorem impl_monotonic_monoExp_ok : Fn Try.prog 51 F_monoExp := by
  refine fn_of_go (O := orc [⟨11, F_expA, .inl impl_ExpAt_expA_ok⟩, ⟨39, F_whole, .inl impl_Whole_whole_ok⟩, ⟨81, F_bounded, .inl impl_bounded_bounded_ok⟩, ⟨82, F_areOk, .inl impl_areBounded_areOk_ok⟩, ⟨90, F_notOk, .inl impl_IsWhole_notOk_ok⟩]) mixed T_ok (orc_sound _) Try.func51 (by kernel_rfl) rfl Try.ntmps51 (by kernel_rfl) Try.results51 ?_
  intro args g pre r new hF hpre
  unfold F_monoExp at hF
  split at hF
  · rename_i x1 x2
    simp only [Option.some.injEq, Prod.mk.injEq] at hF
    obtain ⟨rfl, hr, rfl⟩ := hF
    refine ⟨by simp, ?_⟩
    simp (config := { maxSteps := 4000000, implicitDefEqProofs := false }) only [F_areOk_eq, F_bounded_eq, F_expA_eq, F_notOk_eq, F_whole_eq, WK0, WK1, WK2, WK3, WK4, WK5, WK6, WK7, WK8, WK9, WK10, WK11, WK12, WK13, WK14, WK15, WK16, WK17, WK18, WK19, WK20, WK21, WK22, WK23, look_hit, look_miss, List.map_cons, List.map_nil, Nat.add_zero, max_v, min_v, ↓cnd_t, ↓cnd_f, startEnv, Option.map_some, List.length_nil, List.length_cons, List.nil_append, List.cons_append, List.getElem?_cons_zero, List.getElem?_cons_succ, List.set_cons_zero, List.set_cons_succ, Bool.not_true, Bool.not_false, reduceIte, Nat.reduceEqDiff, Nat.reduceAdd, Nat.reduceLT, blt_lit, beq_lit, Bool.or_true, Bool.true_or, Bool.or_false, Bool.false_or, Bool.and_true, Bool.true_and, Bool.and_self, cond_true, cond_false, List.append_nil, Iv.eta, Option.map_none, idxO_l0, idxO_l1, decide_true, decide_false, reqs_true, Int.zero_sub, wrap_lit, wrapu_lit, Int.reduceLE, Int.reduceLT, Int.reduceAdd, Int.reduceSub, Int.reduceMul, Int.reduceNeg, Int.reduceEq, Option.bind_some, bin_shr_u64, bin_shl_u64, bin_shr_i64, bin_shl_i64, and_m32', Int.reduceToNat, Int.reducePow, Int.reduceMod, Int.reduceDiv, wrap_u64s, true_or, or_true, true_and, and_true, Option.isSome_none, Option.isSome_some, Nat.reduceLeDiff, Nat.reduceMul, Int.toNat_natCast, Int.cast_ofNat_Int, Int.natCast_zero, Int.natCast_one, List.isEmpty_nil, List.isEmpty_cons, List.replicate_zero, List.replicate_succ, T1, T2, T3, T4, T5, T6, T9, T10, T11, T12, T21, T22, T23, T24, T25, T26, T27, T28, T29, T30, T31, T32, T33, T34, T35, T36, T37, T38, T39, T40, T42, T43, T44, T45, T46, T47, T48, T50, T51, T52, T53, T54, T55, T56, T57, T58, T59, T61, T62, T63, T65, T67, T69, T70, T71, T72, T75, T77, T83, T84, T85, T86, T87, T89, T90]
    repeat' (first | with_reducible refine cnd_split (fun hc => ?_) (fun hc => ?_) | with_reducible refine Reqs.mk ?_ ?_)
    all_goals first
      | trivial
      | (have hk := okI_mk.1 (by assumption : okI ⟨x1, x2⟩ = true); omega)
      | (refine endS_v (t := (monoI (expA) (Iv.mk x1 x2))) hr ?_; rw [mono_no (by assumption)]; done)
      | (refine endS_v (t := (monoI (expA) (Iv.mk x1 x2))) hr ?_; rw [mono_ok (by assumption), endsI]; simp_all; done)
  · cases hF

-- def ExpI
def expIF (x : Iv) : Iv := monoI (expA) x
def F_expI : FT
  | [.agg [.int .i64 x1, .int .i64 x2]], _ => some (True, .v (.agg [.int .i64 ((expIF (Iv.mk x1 x2))).lo, .int .i64 ((expIF (Iv.mk x1 x2))).hi]), [])
  | _, _ => none
theorem F_expI_eq {x1 : Int} {x2 : Int} {g : List PC} : F_expI [.agg [.int .i64 x1, .int .i64 x2]] g = some (True, .v (.agg [.int .i64 ((expIF (Iv.mk x1 x2))).lo, .int .i64 ((expIF (Iv.mk x1 x2))).hi]), []) := rfl

-- impl.ExpI
theorem impl_ExpI_expI_ok : Fn Try.prog 15 F_expI := by
  refine fn_of_go (O := orc [⟨11, F_expA, .inl impl_ExpAt_expA_ok⟩, ⟨51, F_monoExp, .inl impl_monotonic_monoExp_ok⟩]) mixed T_ok (orc_sound _) Try.func15 (by kernel_rfl) rfl Try.ntmps15 (by kernel_rfl) Try.results15 ?_
  intro args g pre r new hF hpre
  unfold F_expI at hF
  split at hF
  · rename_i x1 x2
    simp only [Option.some.injEq, Prod.mk.injEq] at hF
    obtain ⟨rfl, hr, rfl⟩ := hF
    refine ⟨by simp, ?_⟩
    simp (config := { maxSteps := 4000000, implicitDefEqProofs := false }) only [F_expA_eq, F_monoExp_eq, WK0, WK1, WK2, WK3, WK4, WK5, WK6, WK7, WK8, WK9, WK10, WK11, WK12, WK13, WK14, WK15, WK16, WK17, WK18, WK19, WK20, WK21, WK22, WK23, look_hit, look_miss, List.map_cons, List.map_nil, Nat.add_zero, max_v, min_v, ↓cnd_t, ↓cnd_f, startEnv, Option.map_some, List.length_nil, List.length_cons, List.nil_append, List.cons_append, List.getElem?_cons_zero, List.getElem?_cons_succ, List.set_cons_zero, List.set_cons_succ, Bool.not_true, Bool.not_false, reduceIte, Nat.reduceEqDiff, Nat.reduceAdd, Nat.reduceLT, blt_lit, beq_lit, Bool.or_true, Bool.true_or, Bool.or_false, Bool.false_or, Bool.and_true, Bool.true_and, Bool.and_self, cond_true, cond_false, List.append_nil, Iv.eta, Option.map_none, idxO_l0, idxO_l1, decide_true, decide_false, reqs_true, Int.zero_sub, wrap_lit, wrapu_lit, Int.reduceLE, Int.reduceLT, Int.reduceAdd, Int.reduceSub, Int.reduceMul, Int.reduceNeg, Int.reduceEq, Option.bind_some, bin_shr_u64, bin_shl_u64, bin_shr_i64, bin_shl_i64, and_m32', Int.reduceToNat, Int.reducePow, Int.reduceMod, Int.reduceDiv, wrap_u64s, true_or, or_true, true_and, and_true, Option.isSome_none, Option.isSome_some, Nat.reduceLeDiff, Nat.reduceMul, Int.toNat_natCast, Int.cast_ofNat_Int, Int.natCast_zero, Int.natCast_one, List.isEmpty_nil, List.isEmpty_cons, List.replicate_zero, List.replicate_succ, T1, T2, T3, T4, T5, T6, T9, T10, T11, T12, T21, T22, T23, T24, T25, T26, T27, T28, T29, T30, T31, T32, T33, T34, T35, T36, T37, T38, T39, T40, T42, T43, T44, T45, T46, T47, T48, T50, T51, T52, T53, T54, T55, T56, T57, T58, T59, T61, T62, T63, T65, T67, T69, T70, T71, T72, T75, T77, T83, T84, T85, T86, T87, T89, T90]
    repeat' (first | with_reducible refine cnd_split (fun hc => ?_) (fun hc => ?_) | with_reducible refine Reqs.mk ?_ ?_)
    all_goals first | trivial | exact endS_v (t := (expIF (Iv.mk x1 x2))) hr rfl
  · cases hF

-- spec.ExpI
theorem spec_ExpI_expI_ok : Fn Try.prog 13 F_expI := by
  refine fn_of_go (O := orc [⟨10, F_expA, .inl spec_ExpAt_expA_ok⟩, ⟨27, F_whole, .inl spec_l04Whole_whole_ok⟩, ⟨49, F_okI, .inl spec_l04Ok_okI_ok⟩, ⟨50, F_endsI, .inl spec_l08Ends_endsI_ok⟩]) mixed T_ok (orc_sound _) Try.func13 (by kernel_rfl) rfl Try.ntmps13 (by kernel_rfl) Try.results13 ?_
  intro args g pre r new hF hpre
  unfold F_expI at hF
  split at hF
  · rename_i x1 x2
    simp only [Option.some.injEq, Prod.mk.injEq] at hF
    obtain ⟨rfl, hr, rfl⟩ := hF
    refine ⟨by simp, ?_⟩
    simp (config := { maxSteps := 4000000, implicitDefEqProofs := false }) only [F_endsI_eq, F_expA_eq, F_okI_eq, F_whole_eq, WK0, WK1, WK2, WK3, WK4, WK5, WK6, WK7, WK8, WK9, WK10, WK11, WK12, WK13, WK14, WK15, WK16, WK17, WK18, WK19, WK20, WK21, WK22, WK23, look_hit, look_miss, List.map_cons, List.map_nil, Nat.add_zero, max_v, min_v, ↓cnd_t, ↓cnd_f, startEnv, Option.map_some, List.length_nil, List.length_cons, List.nil_append, List.cons_append, List.getElem?_cons_zero, List.getElem?_cons_succ, List.set_cons_zero, List.set_cons_succ, Bool.not_true, Bool.not_false, reduceIte, Nat.reduceEqDiff, Nat.reduceAdd, Nat.reduceLT, blt_lit, beq_lit, Bool.or_true, Bool.true_or, Bool.or_false, Bool.false_or, Bool.and_true, Bool.true_and, Bool.and_self, cond_true, cond_false, List.append_nil, Iv.eta, Option.map_none, idxO_l0, idxO_l1, decide_true, decide_false, reqs_true, Int.zero_sub, wrap_lit, wrapu_lit, Int.reduceLE, Int.reduceLT, Int.reduceAdd, Int.reduceSub, Int.reduceMul, Int.reduceNeg, Int.reduceEq, Option.bind_some, bin_shr_u64, bin_shl_u64, bin_shr_i64, bin_shl_i64, and_m32', Int.reduceToNat, Int.reducePow, Int.reduceMod, Int.reduceDiv, wrap_u64s, true_or, or_true, true_and, and_true, Option.isSome_none, Option.isSome_some, Nat.reduceLeDiff, Nat.reduceMul, Int.toNat_natCast, Int.cast_ofNat_Int, Int.natCast_zero, Int.natCast_one, List.isEmpty_nil, List.isEmpty_cons, List.replicate_zero, List.replicate_succ, T1, T2, T3, T4, T5, T6, T9, T10, T11, T12, T21, T22, T23, T24, T25, T26, T27, T28, T29, T30, T31, T32, T33, T34, T35, T36, T37, T38, T39, T40, T42, T43, T44, T45, T46, T47, T48, T50, T51, T52, T53, T54, T55, T56, T57, T58, T59, T61, T62, T63, T65, T67, T69, T70, T71, T72, T75, T77, T83, T84, T85, T86, T87, T89, T90]
    repeat' (first | with_reducible refine cnd_split (fun hc => ?_) (fun hc => ?_) | with_reducible refine Reqs.mk ?_ ?_)
    all_goals first
      | trivial
      | (have hk := okI_mk.1 (by assumption : okI ⟨x1, x2⟩ = true); omega)
      | (refine endS_v (t := (expIF (Iv.mk x1 x2))) hr ?_; rw [expIF, mono_no (by first | assumption | exact abs_no (by assumption))]; done)
      | (refine endS_v (t := (expIF (Iv.mk x1 x2))) hr ?_; rw [expIF]; first | (rw [mono_ok (by assumption)]; done) | (rw [monoI, if_pos h9.1, endsI]; done))
  · cases hF

-- impl.monotonic Log
def F_monoLog : FT
  | [.agg [.int .i64 x1, .int .i64 x2], .c (.p (.fn 23))], _ => some (True, .v (.agg [.int .i64 ((monoI (logA) (Iv.mk x1 x2))).lo, .int .i64 ((monoI (logA) (Iv.mk x1 x2))).hi]), [])
  | _, _ => none
theorem F_monoLog_eq {x1 : Int} {x2 : Int} {g : List PC} : F_monoLog [.agg [.int .i64 x1, .int .i64 x2], .c (.p (.fn 23))] g = some (True, .v (.agg [.int .i64 ((monoI (logA) (Iv.mk x1 x2))).lo, .int .i64 ((monoI (logA) (Iv.mk x1 x2))).hi]), []) := rfl
theorem impl_monotonic_monoLog_ok : Fn Try.prog 51 F_monoLog := by
  refine fn_of_go (O := orc [⟨23, F_logA, .inl impl_LogAt_logA_ok⟩, ⟨39, F_whole, .inl impl_Whole_whole_ok⟩, ⟨81, F_bounded, .inl impl_bounded_bounded_ok⟩, ⟨82, F_areOk, .inl impl_areBounded_areOk_ok⟩, ⟨90, F_notOk, .inl impl_IsWhole_notOk_ok⟩]) mixed T_ok (orc_sound _) Try.func51 (by kernel_rfl) rfl Try.ntmps51 (by kernel_rfl) Try.results51 ?_
  intro args g pre r new hF hpre
  unfold F_monoLog at hF
  split at hF
  · rename_i x1 x2
    simp only [Option.some.injEq, Prod.mk.injEq] at hF
    obtain ⟨rfl, hr, rfl⟩ := hF
    refine ⟨by simp, ?_⟩
    simp (config := { maxSteps := 4000000, implicitDefEqProofs := false }) only [F_areOk_eq, F_bounded_eq, F_logA_eq, F_notOk_eq, F_whole_eq, WK0, WK1, WK2, WK3, WK4, WK5, WK6, WK7, WK8, WK9, WK10, WK11, WK12, WK13, WK14, WK15, WK16, WK17, WK18, WK19, WK20, WK21, WK22, WK23, look_hit, look_miss, List.map_cons, List.map_nil, Nat.add_zero, max_v, min_v, ↓cnd_t, ↓cnd_f, startEnv, Option.map_some, List.length_nil, List.length_cons, List.nil_append, List.cons_append, List.getElem?_cons_zero, List.getElem?_cons_succ, List.set_cons_zero, List.set_cons_succ, Bool.not_true, Bool.not_false, reduceIte, Nat.reduceEqDiff, Nat.reduceAdd, Nat.reduceLT, blt_lit, beq_lit, Bool.or_true, Bool.true_or, Bool.or_false, Bool.false_or, Bool.and_true, Bool.true_and, Bool.and_self, cond_true, cond_false, List.append_nil, Iv.eta, Option.map_none, idxO_l0, idxO_l1, decide_true, decide_false, reqs_true, Int.zero_sub, wrap_lit, wrapu_lit, Int.reduceLE, Int.reduceLT, Int.reduceAdd, Int.reduceSub, Int.reduceMul, Int.reduceNeg, Int.reduceEq, Option.bind_some, bin_shr_u64, bin_shl_u64, bin_shr_i64, bin_shl_i64, and_m32', Int.reduceToNat, Int.reducePow, Int.reduceMod, Int.reduceDiv, wrap_u64s, true_or, or_true, true_and, and_true, Option.isSome_none, Option.isSome_some, Nat.reduceLeDiff, Nat.reduceMul, Int.toNat_natCast, Int.cast_ofNat_Int, Int.natCast_zero, Int.natCast_one, List.isEmpty_nil, List.isEmpty_cons, List.replicate_zero, List.replicate_succ, T1, T2, T3, T4, T5, T6, T9, T10, T11, T12, T21, T22, T23, T24, T25, T26, T27, T28, T29, T30, T31, T32, T33, T34, T35, T36, T37, T38, T39, T40, T42, T43, T44, T45, T46, T47, T48, T50, T51, T52, T53, T54, T55, T56, T57, T58, T59, T61, T62, T63, T65, T67, T69, T70, T71, T72, T75, T77, T83, T84, T85, T86, T87, T89, T90]
    repeat' (first | with_reducible refine cnd_split (fun hc => ?_) (fun hc => ?_) | with_reducible refine Reqs.mk ?_ ?_)
    all_goals first
      | trivial
      | (have hk := okI_mk.1 (by assumption : okI ⟨x1, x2⟩ = true); omega)
      | (refine endS_v (t := (monoI (logA) (Iv.mk x1 x2))) hr ?_; rw [mono_no (by assumption)]; done)
      | (refine endS_v (t := (monoI (logA) (Iv.mk x1 x2))) hr ?_; rw [mono_ok (by assumption), endsI]; simp_all; done)
  · cases hF

-- def LogI
def logIF (x : Iv) : Iv := monoI (logA) x
def F_logI : FT
  | [.agg [.int .i64 x1, .int .i64 x2]], _ => some (True, .v (.agg [.int .i64 ((logIF (Iv.mk x1 x2))).lo, .int .i64 ((logIF (Iv.mk x1 x2))).hi]), [])
  | _, _ => none
theorem F_logI_eq {x1 : Int} {x2 : Int} {g : List PC} : F_logI [.agg [.int .i64 x1, .int .i64 x2]] g = some (True, .v (.agg [.int .i64 ((logIF (Iv.mk x1 x2))).lo, .int .i64 ((logIF (Iv.mk x1 x2))).hi]), []) := rfl

-- impl.LogI
theorem impl_LogI_logI_ok : Fn Try.prog 25 F_logI := by
  refine fn_of_go (O := orc [⟨23, F_logA, .inl impl_LogAt_logA_ok⟩, ⟨51, F_monoLog, .inl impl_monotonic_monoLog_ok⟩]) mixed T_ok (orc_sound _) Try.func25 (by kernel_rfl) rfl Try.ntmps25 (by kernel_rfl) Try.results25 ?_
  intro args g pre r new hF hpre
  unfold F_logI at hF
  split at hF
  · rename_i x1 x2
    simp only [Option.some.injEq, Prod.mk.injEq] at hF
    obtain ⟨rfl, hr, rfl⟩ := hF
    refine ⟨by simp, ?_⟩
    simp (config := { maxSteps := 4000000, implicitDefEqProofs := false }) only [F_logA_eq, F_monoLog_eq, WK0, WK1, WK2, WK3, WK4, WK5, WK6, WK7, WK8, WK9, WK10, WK11, WK12, WK13, WK14, WK15, WK16, WK17, WK18, WK19, WK20, WK21, WK22, WK23, look_hit, look_miss, List.map_cons, List.map_nil, Nat.add_zero, max_v, min_v, ↓cnd_t, ↓cnd_f, startEnv, Option.map_some, List.length_nil, List.length_cons, List.nil_append, List.cons_append, List.getElem?_cons_zero, List.getElem?_cons_succ, List.set_cons_zero, List.set_cons_succ, Bool.not_true, Bool.not_false, reduceIte, Nat.reduceEqDiff, Nat.reduceAdd, Nat.reduceLT, blt_lit, beq_lit, Bool.or_true, Bool.true_or, Bool.or_false, Bool.false_or, Bool.and_true, Bool.true_and, Bool.and_self, cond_true, cond_false, List.append_nil, Iv.eta, Option.map_none, idxO_l0, idxO_l1, decide_true, decide_false, reqs_true, Int.zero_sub, wrap_lit, wrapu_lit, Int.reduceLE, Int.reduceLT, Int.reduceAdd, Int.reduceSub, Int.reduceMul, Int.reduceNeg, Int.reduceEq, Option.bind_some, bin_shr_u64, bin_shl_u64, bin_shr_i64, bin_shl_i64, and_m32', Int.reduceToNat, Int.reducePow, Int.reduceMod, Int.reduceDiv, wrap_u64s, true_or, or_true, true_and, and_true, Option.isSome_none, Option.isSome_some, Nat.reduceLeDiff, Nat.reduceMul, Int.toNat_natCast, Int.cast_ofNat_Int, Int.natCast_zero, Int.natCast_one, List.isEmpty_nil, List.isEmpty_cons, List.replicate_zero, List.replicate_succ, T1, T2, T3, T4, T5, T6, T9, T10, T11, T12, T21, T22, T23, T24, T25, T26, T27, T28, T29, T30, T31, T32, T33, T34, T35, T36, T37, T38, T39, T40, T42, T43, T44, T45, T46, T47, T48, T50, T51, T52, T53, T54, T55, T56, T57, T58, T59, T61, T62, T63, T65, T67, T69, T70, T71, T72, T75, T77, T83, T84, T85, T86, T87, T89, T90]
    repeat' (first | with_reducible refine cnd_split (fun hc => ?_) (fun hc => ?_) | with_reducible refine Reqs.mk ?_ ?_)
    all_goals first | trivial | exact endS_v (t := (logIF (Iv.mk x1 x2))) hr rfl
  · cases hF

-- spec.LogI
theorem spec_LogI_logI_ok : Fn Try.prog 24 F_logI := by
  refine fn_of_go (O := orc [⟨22, F_logA, .inl spec_LogAt_logA_ok⟩, ⟨27, F_whole, .inl spec_l04Whole_whole_ok⟩, ⟨49, F_okI, .inl spec_l04Ok_okI_ok⟩, ⟨50, F_endsI, .inl spec_l08Ends_endsI_ok⟩]) mixed T_ok (orc_sound _) Try.func24 (by kernel_rfl) rfl Try.ntmps24 (by kernel_rfl) Try.results24 ?_
  intro args g pre r new hF hpre
  unfold F_logI at hF
  split at hF
  · rename_i x1 x2
    simp only [Option.some.injEq, Prod.mk.injEq] at hF
    obtain ⟨rfl, hr, rfl⟩ := hF
    refine ⟨by simp, ?_⟩
    simp (config := { maxSteps := 4000000, implicitDefEqProofs := false }) only [F_endsI_eq, F_logA_eq, F_okI_eq, F_whole_eq, WK0, WK1, WK2, WK3, WK4, WK5, WK6, WK7, WK8, WK9, WK10, WK11, WK12, WK13, WK14, WK15, WK16, WK17, WK18, WK19, WK20, WK21, WK22, WK23, look_hit, look_miss, List.map_cons, List.map_nil, Nat.add_zero, max_v, min_v, ↓cnd_t, ↓cnd_f, startEnv, Option.map_some, List.length_nil, List.length_cons, List.nil_append, List.cons_append, List.getElem?_cons_zero, List.getElem?_cons_succ, List.set_cons_zero, List.set_cons_succ, Bool.not_true, Bool.not_false, reduceIte, Nat.reduceEqDiff, Nat.reduceAdd, Nat.reduceLT, blt_lit, beq_lit, Bool.or_true, Bool.true_or, Bool.or_false, Bool.false_or, Bool.and_true, Bool.true_and, Bool.and_self, cond_true, cond_false, List.append_nil, Iv.eta, Option.map_none, idxO_l0, idxO_l1, decide_true, decide_false, reqs_true, Int.zero_sub, wrap_lit, wrapu_lit, Int.reduceLE, Int.reduceLT, Int.reduceAdd, Int.reduceSub, Int.reduceMul, Int.reduceNeg, Int.reduceEq, Option.bind_some, bin_shr_u64, bin_shl_u64, bin_shr_i64, bin_shl_i64, and_m32', Int.reduceToNat, Int.reducePow, Int.reduceMod, Int.reduceDiv, wrap_u64s, true_or, or_true, true_and, and_true, Option.isSome_none, Option.isSome_some, Nat.reduceLeDiff, Nat.reduceMul, Int.toNat_natCast, Int.cast_ofNat_Int, Int.natCast_zero, Int.natCast_one, List.isEmpty_nil, List.isEmpty_cons, List.replicate_zero, List.replicate_succ, T1, T2, T3, T4, T5, T6, T9, T10, T11, T12, T21, T22, T23, T24, T25, T26, T27, T28, T29, T30, T31, T32, T33, T34, T35, T36, T37, T38, T39, T40, T42, T43, T44, T45, T46, T47, T48, T50, T51, T52, T53, T54, T55, T56, T57, T58, T59, T61, T62, T63, T65, T67, T69, T70, T71, T72, T75, T77, T83, T84, T85, T86, T87, T89, T90]
    repeat' (first | with_reducible refine cnd_split (fun hc => ?_) (fun hc => ?_) | with_reducible refine Reqs.mk ?_ ?_)
    all_goals first
      | trivial
      | (have hk := okI_mk.1 (by assumption : okI ⟨x1, x2⟩ = true); omega)
      | (refine endS_v (t := (logIF (Iv.mk x1 x2))) hr ?_; rw [logIF, mono_no (by first | assumption | exact abs_no (by assumption))]; done)
      | (refine endS_v (t := (logIF (Iv.mk x1 x2))) hr ?_; rw [logIF]; first | (rw [mono_ok (by assumption)]; done) | (rw [monoI, if_pos h9.1, endsI]; done))
  · cases hF

-- impl.SinhI$1
def F_sinhF : FT
  | [.c (.p (.int .i64 n))], _ => some (-1152921504606846976 < n ∧ n < 1152921504606846976, .v (.agg [.int .i64 ((sinhF n)).lo, .int .i64 ((sinhF n)).hi]), [])
  | _, _ => none
theorem F_sinhF_eq {n : Int} {g : List PC} : F_sinhF [.c (.p (.int .i64 n))] g = some (-1152921504606846976 < n ∧ n < 1152921504606846976, .v (.agg [.int .i64 ((sinhF n)).lo, .int .i64 ((sinhF n)).hi]), []) := rfl
theorem impl_SinhI_1_sinhF_ok : Fn Try.prog 53 F_sinhF := by
  refine fn_of_go (O := orc [⟨11, F_expA, .inl impl_ExpAt_expA_ok⟩, ⟨40, F_subI, .inl impl_SubI_subI_ok⟩, ⟨54, F_halfI, .inl impl_HalfI_halfI_ok⟩]) mixed T_ok (orc_sound _) Try.func53 (by kernel_rfl) rfl Try.ntmps53 (by kernel_rfl) Try.results53 ?_
  intro args g pre r new hF hpre
  unfold F_sinhF at hF
  split at hF
  · rename_i n
    simp only [Option.some.injEq, Prod.mk.injEq] at hF
    obtain ⟨rfl, hr, rfl⟩ := hF
    refine ⟨by simp, ?_⟩
    have e1 : IntKind.i64.wrap (-n) = -n := wrap_om (by omega) (by omega)
    simp (config := { maxSteps := 4000000, implicitDefEqProofs := false }) only [F_expA_eq, F_halfI_eq, F_subI_eq, WK0, WK1, WK2, WK3, WK4, WK5, WK6, WK7, WK8, WK9, WK10, WK11, WK12, WK13, WK14, WK15, WK16, WK17, WK18, WK19, WK20, WK21, WK22, WK23, look_hit, look_miss, List.map_cons, List.map_nil, Nat.add_zero, max_v, min_v, ↓cnd_t, ↓cnd_f, startEnv, Option.map_some, List.length_nil, List.length_cons, List.nil_append, List.cons_append, List.getElem?_cons_zero, List.getElem?_cons_succ, List.set_cons_zero, List.set_cons_succ, Bool.not_true, Bool.not_false, reduceIte, Nat.reduceEqDiff, Nat.reduceAdd, Nat.reduceLT, blt_lit, beq_lit, Bool.or_true, Bool.true_or, Bool.or_false, Bool.false_or, Bool.and_true, Bool.true_and, Bool.and_self, cond_true, cond_false, List.append_nil, Iv.eta, Option.map_none, idxO_l0, idxO_l1, decide_true, decide_false, reqs_true, Int.zero_sub, wrap_lit, wrapu_lit, Int.reduceLE, Int.reduceLT, Int.reduceAdd, Int.reduceSub, Int.reduceMul, Int.reduceNeg, Int.reduceEq, Option.bind_some, bin_shr_u64, bin_shl_u64, bin_shr_i64, bin_shl_i64, and_m32', Int.reduceToNat, Int.reducePow, Int.reduceMod, Int.reduceDiv, wrap_u64s, true_or, or_true, true_and, and_true, Option.isSome_none, Option.isSome_some, Nat.reduceLeDiff, Nat.reduceMul, Int.toNat_natCast, Int.cast_ofNat_Int, Int.natCast_zero, Int.natCast_one, List.isEmpty_nil, List.isEmpty_cons, List.replicate_zero, List.replicate_succ, T1, T2, T3, T4, T5, T6, T9, T10, T11, T12, T21, T22, T23, T24, T25, T26, T27, T28, T29, T30, T31, T32, T33, T34, T35, T36, T37, T38, T39, T40, T42, T43, T44, T45, T46, T47, T48, T50, T51, T52, T53, T54, T55, T56, T57, T58, T59, T61, T62, T63, T65, T67, T69, T70, T71, T72, T75, T77, T83, T84, T85, T86, T87, T89, T90, e1]
    repeat' (first | with_reducible refine cnd_split (fun hc => ?_) (fun hc => ?_) | with_reducible refine Reqs.mk ?_ ?_)
    all_goals first | trivial | exact endS_v (t := (sinhF n)) hr rfl
  · cases hF

-- spec.l08Sinh
theorem spec_l08Sinh_sinhF_ok : Fn Try.prog 52 F_sinhF := by
  refine fn_of_go (O := orc [⟨10, F_expA, .inl spec_ExpAt_expA_ok⟩, ⟨28, F_subI, .inl spec_SubI_subI_ok⟩, ⟨92, F_halfI, .inl spec_HalfI_halfI_ok⟩]) mixed T_ok (orc_sound _) Try.func52 (by kernel_rfl) rfl Try.ntmps52 (by kernel_rfl) Try.results52 ?_
  intro args g pre r new hF hpre
  unfold F_sinhF at hF
  split at hF
  · rename_i n
    simp only [Option.some.injEq, Prod.mk.injEq] at hF
    obtain ⟨rfl, hr, rfl⟩ := hF
    refine ⟨by simp, ?_⟩
    have e1 : IntKind.i64.wrap (-n) = -n := wrap_om (by omega) (by omega)
    simp (config := { maxSteps := 4000000, implicitDefEqProofs := false }) only [F_expA_eq, F_halfI_eq, F_subI_eq, WK0, WK1, WK2, WK3, WK4, WK5, WK6, WK7, WK8, WK9, WK10, WK11, WK12, WK13, WK14, WK15, WK16, WK17, WK18, WK19, WK20, WK21, WK22, WK23, look_hit, look_miss, List.map_cons, List.map_nil, Nat.add_zero, max_v, min_v, ↓cnd_t, ↓cnd_f, startEnv, Option.map_some, List.length_nil, List.length_cons, List.nil_append, List.cons_append, List.getElem?_cons_zero, List.getElem?_cons_succ, List.set_cons_zero, List.set_cons_succ, Bool.not_true, Bool.not_false, reduceIte, Nat.reduceEqDiff, Nat.reduceAdd, Nat.reduceLT, blt_lit, beq_lit, Bool.or_true, Bool.true_or, Bool.or_false, Bool.false_or, Bool.and_true, Bool.true_and, Bool.and_self, cond_true, cond_false, List.append_nil, Iv.eta, Option.map_none, idxO_l0, idxO_l1, decide_true, decide_false, reqs_true, Int.zero_sub, wrap_lit, wrapu_lit, Int.reduceLE, Int.reduceLT, Int.reduceAdd, Int.reduceSub, Int.reduceMul, Int.reduceNeg, Int.reduceEq, Option.bind_some, bin_shr_u64, bin_shl_u64, bin_shr_i64, bin_shl_i64, and_m32', Int.reduceToNat, Int.reducePow, Int.reduceMod, Int.reduceDiv, wrap_u64s, true_or, or_true, true_and, and_true, Option.isSome_none, Option.isSome_some, Nat.reduceLeDiff, Nat.reduceMul, Int.toNat_natCast, Int.cast_ofNat_Int, Int.natCast_zero, Int.natCast_one, List.isEmpty_nil, List.isEmpty_cons, List.replicate_zero, List.replicate_succ, T1, T2, T3, T4, T5, T6, T9, T10, T11, T12, T21, T22, T23, T24, T25, T26, T27, T28, T29, T30, T31, T32, T33, T34, T35, T36, T37, T38, T39, T40, T42, T43, T44, T45, T46, T47, T48, T50, T51, T52, T53, T54, T55, T56, T57, T58, T59, T61, T62, T63, T65, T67, T69, T70, T71, T72, T75, T77, T83, T84, T85, T86, T87, T89, T90, e1]
    repeat' (first | with_reducible refine cnd_split (fun hc => ?_) (fun hc => ?_) | with_reducible refine Reqs.mk ?_ ?_)
    all_goals first | trivial | exact endS_v (t := (sinhF n)) hr rfl
  · cases hF

-- impl.monotonic Sinh
def F_monoSinh : FT
  | [.agg [.int .i64 x1, .int .i64 x2], .c (.p (.fn 53))], _ => some (True, .v (.agg [.int .i64 ((monoI (sinhF) (Iv.mk x1 x2))).lo, .int .i64 ((monoI (sinhF) (Iv.mk x1 x2))).hi]), [])
  | _, _ => none
theorem F_monoSinh_eq {x1 : Int} {x2 : Int} {g : List PC} : F_monoSinh [.agg [.int .i64 x1, .int .i64 x2], .c (.p (.fn 53))] g = some (True, .v (.agg [.int .i64 ((monoI (sinhF) (Iv.mk x1 x2))).lo, .int .i64 ((monoI (sinhF) (Iv.mk x1 x2))).hi]), []) := rfl
theorem impl_monotonic_monoSinh_ok : Fn Try.prog 51 F_monoSinh := by
  refine fn_of_go (O := orc [⟨39, F_whole, .inl impl_Whole_whole_ok⟩, ⟨53, F_sinhF, .inl impl_SinhI_1_sinhF_ok⟩, ⟨81, F_bounded, .inl impl_bounded_bounded_ok⟩, ⟨82, F_areOk, .inl impl_areBounded_areOk_ok⟩, ⟨90, F_notOk, .inl impl_IsWhole_notOk_ok⟩]) mixed T_ok (orc_sound _) Try.func51 (by kernel_rfl) rfl Try.ntmps51 (by kernel_rfl) Try.results51 ?_
  intro args g pre r new hF hpre
  unfold F_monoSinh at hF
  split at hF
  · rename_i x1 x2
    simp only [Option.some.injEq, Prod.mk.injEq] at hF
    obtain ⟨rfl, hr, rfl⟩ := hF
    refine ⟨by simp, ?_⟩
    simp (config := { maxSteps := 4000000, implicitDefEqProofs := false }) only [F_areOk_eq, F_bounded_eq, F_notOk_eq, F_sinhF_eq, F_whole_eq, WK0, WK1, WK2, WK3, WK4, WK5, WK6, WK7, WK8, WK9, WK10, WK11, WK12, WK13, WK14, WK15, WK16, WK17, WK18, WK19, WK20, WK21, WK22, WK23, look_hit, look_miss, List.map_cons, List.map_nil, Nat.add_zero, max_v, min_v, ↓cnd_t, ↓cnd_f, startEnv, Option.map_some, List.length_nil, List.length_cons, List.nil_append, List.cons_append, List.getElem?_cons_zero, List.getElem?_cons_succ, List.set_cons_zero, List.set_cons_succ, Bool.not_true, Bool.not_false, reduceIte, Nat.reduceEqDiff, Nat.reduceAdd, Nat.reduceLT, blt_lit, beq_lit, Bool.or_true, Bool.true_or, Bool.or_false, Bool.false_or, Bool.and_true, Bool.true_and, Bool.and_self, cond_true, cond_false, List.append_nil, Iv.eta, Option.map_none, idxO_l0, idxO_l1, decide_true, decide_false, reqs_true, Int.zero_sub, wrap_lit, wrapu_lit, Int.reduceLE, Int.reduceLT, Int.reduceAdd, Int.reduceSub, Int.reduceMul, Int.reduceNeg, Int.reduceEq, Option.bind_some, bin_shr_u64, bin_shl_u64, bin_shr_i64, bin_shl_i64, and_m32', Int.reduceToNat, Int.reducePow, Int.reduceMod, Int.reduceDiv, wrap_u64s, true_or, or_true, true_and, and_true, Option.isSome_none, Option.isSome_some, Nat.reduceLeDiff, Nat.reduceMul, Int.toNat_natCast, Int.cast_ofNat_Int, Int.natCast_zero, Int.natCast_one, List.isEmpty_nil, List.isEmpty_cons, List.replicate_zero, List.replicate_succ, T1, T2, T3, T4, T5, T6, T9, T10, T11, T12, T21, T22, T23, T24, T25, T26, T27, T28, T29, T30, T31, T32, T33, T34, T35, T36, T37, T38, T39, T40, T42, T43, T44, T45, T46, T47, T48, T50, T51, T52, T53, T54, T55, T56, T57, T58, T59, T61, T62, T63, T65, T67, T69, T70, T71, T72, T75, T77, T83, T84, T85, T86, T87, T89, T90]
    repeat' (first | with_reducible refine cnd_split (fun hc => ?_) (fun hc => ?_) | with_reducible refine Reqs.mk ?_ ?_)
    all_goals first
      | trivial
      | (have hk := okI_mk.1 (by assumption : okI ⟨x1, x2⟩ = true); omega)
      | (refine endS_v (t := (monoI (sinhF) (Iv.mk x1 x2))) hr ?_; rw [mono_no (by assumption)]; done)
      | (refine endS_v (t := (monoI (sinhF) (Iv.mk x1 x2))) hr ?_; rw [mono_ok (by assumption), endsI]; simp_all; done)
  · cases hF

-- def SinhI
def sinhIF (x : Iv) : Iv := monoI (sinhF) x
def F_sinhI : FT
  | [.agg [.int .i64 x1, .int .i64 x2]], _ => some (True, .v (.agg [.int .i64 ((sinhIF (Iv.mk x1 x2))).lo, .int .i64 ((sinhIF (Iv.mk x1 x2))).hi]), [])
  | _, _ => none
theorem F_sinhI_eq {x1 : Int} {x2 : Int} {g : List PC} : F_sinhI [.agg [.int .i64 x1, .int .i64 x2]] g = some (True, .v (.agg [.int .i64 ((sinhIF (Iv.mk x1 x2))).lo, .int .i64 ((sinhIF (Iv.mk x1 x2))).hi]), []) := rfl

-- impl.SinhI
theorem impl_SinhI_sinhI_ok : Fn Try.prog 17 F_sinhI := by
  refine fn_of_go (O := orc [⟨51, F_monoSinh, .inl impl_monotonic_monoSinh_ok⟩]) mixed T_ok (orc_sound _) Try.func17 (by kernel_rfl) rfl Try.ntmps17 (by kernel_rfl) Try.results17 ?_
  intro args g pre r new hF hpre
  unfold F_sinhI at hF
  split at hF
  · rename_i x1 x2
    simp only [Option.some.injEq, Prod.mk.injEq] at hF
    obtain ⟨rfl, hr, rfl⟩ := hF
    refine ⟨by simp, ?_⟩
    simp (config := { maxSteps := 4000000, implicitDefEqProofs := false }) only [F_monoSinh_eq, WK0, WK1, WK2, WK3, WK4, WK5, WK6, WK7, WK8, WK9, WK10, WK11, WK12, WK13, WK14, WK15, WK16, WK17, WK18, WK19, WK20, WK21, WK22, WK23, look_hit, look_miss, List.map_cons, List.map_nil, Nat.add_zero, max_v, min_v, ↓cnd_t, ↓cnd_f, startEnv, Option.map_some, List.length_nil, List.length_cons, List.nil_append, List.cons_append, List.getElem?_cons_zero, List.getElem?_cons_succ, List.set_cons_zero, List.set_cons_succ, Bool.not_true, Bool.not_false, reduceIte, Nat.reduceEqDiff, Nat.reduceAdd, Nat.reduceLT, blt_lit, beq_lit, Bool.or_true, Bool.true_or, Bool.or_false, Bool.false_or, Bool.and_true, Bool.true_and, Bool.and_self, cond_true, cond_false, List.append_nil, Iv.eta, Option.map_none, idxO_l0, idxO_l1, decide_true, decide_false, reqs_true, Int.zero_sub, wrap_lit, wrapu_lit, Int.reduceLE, Int.reduceLT, Int.reduceAdd, Int.reduceSub, Int.reduceMul, Int.reduceNeg, Int.reduceEq, Option.bind_some, bin_shr_u64, bin_shl_u64, bin_shr_i64, bin_shl_i64, and_m32', Int.reduceToNat, Int.reducePow, Int.reduceMod, Int.reduceDiv, wrap_u64s, true_or, or_true, true_and, and_true, Option.isSome_none, Option.isSome_some, Nat.reduceLeDiff, Nat.reduceMul, Int.toNat_natCast, Int.cast_ofNat_Int, Int.natCast_zero, Int.natCast_one, List.isEmpty_nil, List.isEmpty_cons, List.replicate_zero, List.replicate_succ, T1, T2, T3, T4, T5, T6, T9, T10, T11, T12, T21, T22, T23, T24, T25, T26, T27, T28, T29, T30, T31, T32, T33, T34, T35, T36, T37, T38, T39, T40, T42, T43, T44, T45, T46, T47, T48, T50, T51, T52, T53, T54, T55, T56, T57, T58, T59, T61, T62, T63, T65, T67, T69, T70, T71, T72, T75, T77, T83, T84, T85, T86, T87, T89, T90]
    repeat' (first | with_reducible refine cnd_split (fun hc => ?_) (fun hc => ?_) | with_reducible refine Reqs.mk ?_ ?_)
    all_goals first | trivial | exact endS_v (t := (sinhIF (Iv.mk x1 x2))) hr rfl
  · cases hF

-- spec.SinhI
theorem spec_SinhI_sinhI_ok : Fn Try.prog 16 F_sinhI := by
  refine fn_of_go (O := orc [⟨27, F_whole, .inl spec_l04Whole_whole_ok⟩, ⟨49, F_okI, .inl spec_l04Ok_okI_ok⟩, ⟨50, F_endsI, .inl spec_l08Ends_endsI_ok⟩, ⟨52, F_sinhF, .inl spec_l08Sinh_sinhF_ok⟩]) mixed T_ok (orc_sound _) Try.func16 (by kernel_rfl) rfl Try.ntmps16 (by kernel_rfl) Try.results16 ?_
  intro args g pre r new hF hpre
  unfold F_sinhI at hF
  split at hF
  · rename_i x1 x2
    simp only [Option.some.injEq, Prod.mk.injEq] at hF
    obtain ⟨rfl, hr, rfl⟩ := hF
    refine ⟨by simp, ?_⟩
    simp (config := { maxSteps := 4000000, implicitDefEqProofs := false }) only [F_endsI_eq, F_okI_eq, F_sinhF_eq, F_whole_eq, WK0, WK1, WK2, WK3, WK4, WK5, WK6, WK7, WK8, WK9, WK10, WK11, WK12, WK13, WK14, WK15, WK16, WK17, WK18, WK19, WK20, WK21, WK22, WK23, look_hit, look_miss, List.map_cons, List.map_nil, Nat.add_zero, max_v, min_v, ↓cnd_t, ↓cnd_f, startEnv, Option.map_some, List.length_nil, List.length_cons, List.nil_append, List.cons_append, List.getElem?_cons_zero, List.getElem?_cons_succ, List.set_cons_zero, List.set_cons_succ, Bool.not_true, Bool.not_false, reduceIte, Nat.reduceEqDiff, Nat.reduceAdd, Nat.reduceLT, blt_lit, beq_lit, Bool.or_true, Bool.true_or, Bool.or_false, Bool.false_or, Bool.and_true, Bool.true_and, Bool.and_self, cond_true, cond_false, List.append_nil, Iv.eta, Option.map_none, idxO_l0, idxO_l1, decide_true, decide_false, reqs_true, Int.zero_sub, wrap_lit, wrapu_lit, Int.reduceLE, Int.reduceLT, Int.reduceAdd, Int.reduceSub, Int.reduceMul, Int.reduceNeg, Int.reduceEq, Option.bind_some, bin_shr_u64, bin_shl_u64, bin_shr_i64, bin_shl_i64, and_m32', Int.reduceToNat, Int.reducePow, Int.reduceMod, Int.reduceDiv, wrap_u64s, true_or, or_true, true_and, and_true, Option.isSome_none, Option.isSome_some, Nat.reduceLeDiff, Nat.reduceMul, Int.toNat_natCast, Int.cast_ofNat_Int, Int.natCast_zero, Int.natCast_one, List.isEmpty_nil, List.isEmpty_cons, List.replicate_zero, List.replicate_succ, T1, T2, T3, T4, T5, T6, T9, T10, T11, T12, T21, T22, T23, T24, T25, T26, T27, T28, T29, T30, T31, T32, T33, T34, T35, T36, T37, T38, T39, T40, T42, T43, T44, T45, T46, T47, T48, T50, T51, T52, T53, T54, T55, T56, T57, T58, T59, T61, T62, T63, T65, T67, T69, T70, T71, T72, T75, T77, T83, T84, T85, T86, T87, T89, T90]
    repeat' (first | with_reducible refine cnd_split (fun hc => ?_) (fun hc => ?_) | with_reducible refine Reqs.mk ?_ ?_)
    all_goals first
      | trivial
      | (have hk := okI_mk.1 (by assumption : okI ⟨x1, x2⟩ = true); omega)
      | (refine endS_v (t := (sinhIF (Iv.mk x1 x2))) hr ?_; rw [sinhIF, mono_no (by first | assumption | exact abs_no (by assumption))]; done)
      | (refine endS_v (t := (sinhIF (Iv.mk x1 x2))) hr ?_; rw [sinhIF]; first | (rw [mono_ok (by assumption)]; done) | (rw [monoI, if_pos h9.1, endsI]; done))
  · cases hF

-- impl.CoshI$1
def F_coshF : FT
  | [.c (.p (.int .i64 n))], _ => some (-1152921504606846976 < n ∧ n < 1152921504606846976, .v (.agg [.int .i64 ((coshF n)).lo, .int .i64 ((coshF n)).hi]), [])
  | _, _ => none
theorem F_coshF_eq {n : Int} {g : List PC} : F_coshF [.c (.p (.int .i64 n))] g = some (-1152921504606846976 < n ∧ n < 1152921504606846976, .v (.agg [.int .i64 ((coshF n)).lo, .int .i64 ((coshF n)).hi]), []) := rfl
theorem impl_CoshI_1_coshF_ok : Fn Try.prog 58 F_coshF := by
  refine fn_of_go (O := orc [⟨11, F_expA, .inl impl_ExpAt_expA_ok⟩, ⟨44, F_addI, .inl impl_AddI_addI_ok⟩, ⟨54, F_halfI, .inl impl_HalfI_halfI_ok⟩]) mixed T_ok (orc_sound _) Try.func58 (by kernel_rfl) rfl Try.ntmps58 (by kernel_rfl) Try.results58 ?_
  intro args g pre r new hF hpre
  unfold F_coshF at hF
  split at hF
  · rename_i n
    simp only [Option.some.injEq, Prod.mk.injEq] at hF
    obtain ⟨rfl, hr, rfl⟩ := hF
    refine ⟨by simp, ?_⟩
    have e1 : IntKind.i64.wrap (-n) = -n := wrap_om (by omega) (by omega)
    simp (config := { maxSteps := 4000000, implicitDefEqProofs := false }) only [F_addI_eq, F_expA_eq, F_halfI_eq, WK0, WK1, WK2, WK3, WK4, WK5, WK6, WK7, WK8, WK9, WK10, WK11, WK12, WK13, WK14, WK15, WK16, WK17, WK18, WK19, WK20, WK21, WK22, WK23, look_hit, look_miss, List.map_cons, List.map_nil, Nat.add_zero, max_v, min_v, ↓cnd_t, ↓cnd_f, startEnv, Option.map_some, List.length_nil, List.length_cons, List.nil_append, List.cons_append, List.getElem?_cons_zero, List.getElem?_cons_succ, List.set_cons_zero, List.set_cons_succ, Bool.not_true, Bool.not_false, reduceIte, Nat.reduceEqDiff, Nat.reduceAdd, Nat.reduceLT, blt_lit, beq_lit, Bool.or_true, Bool.true_or, Bool.or_false, Bool.false_or, Bool.and_true, Bool.true_and, Bool.and_self, cond_true, cond_false, List.append_nil, Iv.eta, Option.map_none, idxO_l0, idxO_l1, decide_true, decide_false, reqs_true, Int.zero_sub, wrap_lit, wrapu_lit, Int.reduceLE, Int.reduceLT, Int.reduceAdd, Int.reduceSub, Int.reduceMul, Int.reduceNeg, Int.reduceEq, Option.bind_some, bin_shr_u64, bin_shl_u64, bin_shr_i64, bin_shl_i64, and_m32', Int.reduceToNat, Int.reducePow, Int.reduceMod, Int.reduceDiv, wrap_u64s, true_or, or_true, true_and, and_true, Option.isSome_none, Option.isSome_some, Nat.reduceLeDiff, Nat.reduceMul, Int.toNat_natCast, Int.cast_ofNat_Int, Int.natCast_zero, Int.natCast_one, List.isEmpty_nil, List.isEmpty_cons, List.replicate_zero, List.replicate_succ, T1, T2, T3, T4, T5, T6, T9, T10, T11, T12, T21, T22, T23, T24, T25, T26, T27, T28, T29, T30, T31, T32, T33, T34, T35, T36, T37, T38, T39, T40, T42, T43, T44, T45, T46, T47, T48, T50, T51, T52, T53, T54, T55, T56, T57, T58, T59, T61, T62, T63, T65, T67, T69, T70, T71, T72, T75, T77, T83, T84, T85, T86, T87, T89, T90, e1]
    repeat' (first | with_reducible refine cnd_split (fun hc => ?_) (fun hc => ?_) | with_reducible refine Reqs.mk ?_ ?_)
    all_goals first | trivial | exact endS_v (t := (coshF n)) hr rfl
  · cases hF

-- spec.l08Cosh
theorem spec_l08Cosh_coshF_ok : Fn Try.prog 56 F_coshF := by
  refine fn_of_go (O := orc [⟨10, F_expA, .inl spec_ExpAt_expA_ok⟩, ⟨32, F_addI, .inl spec_AddI_addI_ok⟩, ⟨92, F_halfI, .inl spec_HalfI_halfI_ok⟩]) mixed T_ok (orc_sound _) Try.func56 (by kernel_rfl) rfl Try.ntmps56 (by kernel_rfl) Try.results56 ?_
  intro args g pre r new hF hpre
  unfold F_coshF at hF
  split at hF
  · rename_i n
    simp only [Option.some.injEq, Prod.mk.injEq] at hF
    obtain ⟨rfl, hr, rfl⟩ := hF
    refine ⟨by simp, ?_⟩
    have e1 : IntKind.i64.wrap (-n) = -n := wrap_om (by omega) (by omega)
    simp (config := { maxSteps := 4000000, implicitDefEqProofs := false }) only [F_addI_eq, F_expA_eq, F_halfI_eq, WK0, WK1, WK2, WK3, WK4, WK5, WK6, WK7, WK8, WK9, WK10, WK11, WK12, WK13, WK14, WK15, WK16, WK17, WK18, WK19, WK20, WK21, WK22, WK23, look_hit, look_miss, List.map_cons, List.map_nil, Nat.add_zero, max_v, min_v, ↓cnd_t, ↓cnd_f, startEnv, Option.map_some, List.length_nil, List.length_cons, List.nil_append, List.cons_append, List.getElem?_cons_zero, List.getElem?_cons_succ, List.set_cons_zero, List.set_cons_succ, Bool.not_true, Bool.not_false, reduceIte, Nat.reduceEqDiff, Nat.reduceAdd, Nat.reduceLT, blt_lit, beq_lit, Bool.or_true, Bool.true_or, Bool.or_false, Bool.false_or, Bool.and_true, Bool.true_and, Bool.and_self, cond_true, cond_false, List.append_nil, Iv.eta, Option.map_none, idxO_l0, idxO_l1, decide_true, decide_false, reqs_true, Int.zero_sub, wrap_lit, wrapu_lit, Int.reduceLE, Int.reduceLT, Int.reduceAdd, Int.reduceSub, Int.reduceMul, Int.reduceNeg, Int.reduceEq, Option.bind_some, bin_shr_u64, bin_shl_u64, bin_shr_i64, bin_shl_i64, and_m32', Int.reduceToNat, Int.reducePow, Int.reduceMod, Int.reduceDiv, wrap_u64s, true_or, or_true, true_and, and_true, Option.isSome_none, Option.isSome_some, Nat.reduceLeDiff, Nat.reduceMul, Int.toNat_natCast, Int.cast_ofNat_Int, Int.natCast_zero, Int.natCast_one, List.isEmpty_nil, List.isEmpty_cons, List.replicate_zero, List.replicate_succ, T1, T2, T3, T4, T5, T6, T9, T10, T11, T12, T21, T22, T23, T24, T25, T26, T27, T28, T29, T30, T31, T32, T33, T34, T35, T36, T37, T38, T39, T40, T42, T43, T44, T45, T46, T47, T48, T50, T51, T52, T53, T54, T55, T56, T57, T58, T59, T61, T62, T63, T65, T67, T69, T70, T71, T72, T75, T77, T83, T84, T85, T86, T87, T89, T90, e1]
    repeat' (first | with_reducible refine cnd_split (fun hc => ?_) (fun hc => ?_) | with_reducible refine Reqs.mk ?_ ?_)
    all_goals first | trivial | exact endS_v (t := (coshF n)) hr rfl
  · cases hF

-- impl.monotonic Cosh
def F_monoCosh : FT
  | [.agg [.int .i64 x1, .int .i64 x2], .c (.p (.fn 58))], _ => some (True, .v (.agg [.int .i64 ((monoI (coshF) (Iv.mk x1 x2))).lo, .int .i64 ((monoI (coshF) (Iv.mk x1 x2))).hi]), [])
  | _, _ => none
theorem F_monoCosh_eq {x1 : Int} {x2 : Int} {g : List PC} : F_monoCosh [.agg [.int .i64 x1, .int .i64 x2], .c (.p (.fn 58))] g = some (True, .v (.agg [.int .i64 ((monoI (coshF) (Iv.mk x1 x2))).lo, .int .i64 ((monoI (coshF) (Iv.mk x1 x2))).hi]), []) := rfl
theorem impl_monotonic_monoCosh_ok : Fn Try.prog 51 F_monoCosh := by
  refine fn_of_go (O := orc [⟨39, F_whole, .inl impl_Whole_whole_ok⟩, ⟨58, F_coshF, .inl impl_CoshI_1_coshF_ok⟩, ⟨81, F_bounded, .inl impl_bounded_bounded_ok⟩, ⟨82, F_areOk, .inl impl_areBounded_areOk_ok⟩, ⟨90, F_notOk, .inl impl_IsWhole_notOk_ok⟩]) mixed T_ok (orc_sound _) Try.func51 (by kernel_rfl) rfl Try.ntmps51 (by kernel_rfl) Try.results51 ?_
  intro args g pre r new hF hpre
  unfold F_monoCosh at hF
  split at hF
  · rename_i x1 x2
    simp only [Option.some.injEq, Prod.mk.injEq] at hF
    obtain ⟨rfl, hr, rfl⟩ := hF
    refine ⟨by simp, ?_⟩
    simp (config := { maxSteps := 4000000, implicitDefEqProofs := false }) only [F_areOk_eq, F_bounded_eq, F_coshF_eq, F_notOk_eq, F_whole_eq, WK0, WK1, WK2, WK3, WK4, WK5, WK6, WK7, WK8, WK9, WK10, WK11, WK12, WK13, WK14, WK15, WK16, WK17, WK18, WK19, WK20, WK21, WK22, WK23, look_hit, look_miss, List.map_cons, List.map_nil, Nat.add_zero, max_v, min_v, ↓cnd_t, ↓cnd_f, startEnv, Option.map_some, List.length_nil, List.length_cons, List.nil_append, List.cons_append, List.getElem?_cons_zero, List.getElem?_cons_succ, List.set_cons_zero, List.set_cons_succ, Bool.not_true, Bool.not_false, reduceIte, Nat.reduceEqDiff, Nat.reduceAdd, Nat.reduceLT, blt_lit, beq_lit, Bool.or_true, Bool.true_or, Bool.or_false, Bool.false_or, Bool.and_true, Bool.true_and, Bool.and_self, cond_true, cond_false, List.append_nil, Iv.eta, Option.map_none, idxO_l0, idxO_l1, decide_true, decide_false, reqs_true, Int.zero_sub, wrap_lit, wrapu_lit, Int.reduceLE, Int.reduceLT, Int.reduceAdd, Int.reduceSub, Int.reduceMul, Int.reduceNeg, Int.reduceEq, Option.bind_some, bin_shr_u64, bin_shl_u64, bin_shr_i64, bin_shl_i64, and_m32', Int.reduceToNat, Int.reducePow, Int.reduceMod, Int.reduceDiv, wrap_u64s, true_or, or_true, true_and, and_true, Option.isSome_none, Option.isSome_some, Nat.reduceLeDiff, Nat.reduceMul, Int.toNat_natCast, Int.cast_ofNat_Int, Int.natCast_zero, Int.natCast_one, List.isEmpty_nil, List.isEmpty_cons, List.replicate_zero, List.replicate_succ, T1, T2, T3, T4, T5, T6, T9, T10, T11, T12, T21, T22, T23, T24, T25, T26, T27, T28, T29, T30, T31, T32, T33, T34, T35, T36, T37, T38, T39, T40, T42, T43, T44, T45, T46, T47, T48, T50, T51, T52, T53, T54, T55, T56, T57, T58, T59, T61, T62, T63, T65, T67, T69, T70, T71, T72, T75, T77, T83, T84, T85, T86, T87, T89, T90]
    repeat' (first | with_reducible refine cnd_split (fun hc => ?_) (fun hc => ?_) | with_reducible refine Reqs.mk ?_ ?_)
    all_goals first
      | trivial
      | (have hk := okI_mk.1 (by assumption : okI ⟨x1, x2⟩ = true); omega)
      | (refine endS_v (t := (monoI (coshF) (Iv.mk x1 x2))) hr ?_; rw [mono_no (by assumption)]; done)
      | (refine endS_v (t := (monoI (coshF) (Iv.mk x1 x2))) hr ?_; rw [mono_ok (by assumption), endsI]; simp_all; done)
  · cases hF

-- def CoshI
def coshIF (x : Iv) : Iv := monoI (coshF) (absI x)
def F_coshI : FT
  | [.agg [.int .i64 x1, .int .i64 x2]], _ => some (True, .v (.agg [.int .i64 ((coshIF (Iv.mk x1 x2))).lo, .int .i64 ((coshIF (Iv.mk x1 x2))).hi]), [])
  | _, _ => none
theorem F_coshI_eq {x1 : Int} {x2 : Int} {g : List PC} : F_coshI [.agg [.int .i64 x1, .int .i64 x2]] g = some (True, .v (.agg [.int .i64 ((coshIF (Iv.mk x1 x2))).lo, .int .i64 ((coshIF (Iv.mk x1 x2))).hi]), []) := rfl

-- impl.CoshI
theorem impl_CoshI_coshI_ok : Fn Try.prog 19 F_coshI := by
  refine fn_of_go (O := orc [⟨51, F_monoCosh, .inl impl_monotonic_monoCosh_ok⟩, ⟨57, F_absI, .inl impl_AbsI_absI_ok⟩]) mixed T_ok (orc_sound _) Try.func19 (by kernel_rfl) rfl Try.ntmps19 (by kernel_rfl) Try.results19 ?_
  intro args g pre r new hF hpre
  unfold F_coshI at hF
  split at hF
  · rename_i x1 x2
    simp only [Option.some.injEq, Prod.mk.injEq] at hF
    obtain ⟨rfl, hr, rfl⟩ := hF
    refine ⟨by simp, ?_⟩
    simp (config := { maxSteps := 4000000, implicitDefEqProofs := false }) only [F_absI_eq, F_monoCosh_eq, WK0, WK1, WK2, WK3, WK4, WK5, WK6, WK7, WK8, WK9, WK10, WK11, WK12, WK13, WK14, WK15, WK16, WK17, WK18, WK19, WK20, WK21, WK22, WK23, look_hit, look_miss, List.map_cons, List.map_nil, Nat.add_zero, max_v, min_v, ↓cnd_t, ↓cnd_f, startEnv, Option.map_some, List.length_nil, List.length_cons, List.nil_append, List.cons_append, List.getElem?_cons_zero, List.getElem?_cons_succ, List.set_cons_zero, List.set_cons_succ, Bool.not_true, Bool.not_false, reduceIte, Nat.reduceEqDiff, Nat.reduceAdd, Nat.reduceLT, blt_lit, beq_lit, Bool.or_true, Bool.true_or, Bool.or_false, Bool.false_or, Bool.and_true, Bool.true_and, Bool.and_self, cond_true, cond_false, List.append_nil, Iv.eta, Option.map_none, idxO_l0, idxO_l1, decide_true, decide_false, reqs_true, Int.zero_sub, wrap_lit, wrapu_lit, Int.reduceLE, Int.reduceLT, Int.reduceAdd, Int.reduceSub, Int.reduceMul, Int.reduceNeg, Int.reduceEq, Option.bind_some, bin_shr_u64, bin_shl_u64, bin_shr_i64, bin_shl_i64, and_m32', Int.reduceToNat, Int.reducePow, Int.reduceMod, Int.reduceDiv, wrap_u64s, true_or, or_true, true_and, and_true, Option.isSome_none, Option.isSome_some, Nat.reduceLeDiff, Nat.reduceMul, Int.toNat_natCast, Int.cast_ofNat_Int, Int.natCast_zero, Int.natCast_one, List.isEmpty_nil, List.isEmpty_cons, List.replicate_zero, List.replicate_succ, T1, T2, T3, T4, T5, T6, T9, T10, T11, T12, T21, T22, T23, T24, T25, T26, T27, T28, T29, T30, T31, T32, T33, T34, T35, T36, T37, T38, T39, T40, T42, T43, T44, T45, T46, T47, T48, T50, T51, T52, T53, T54, T55, T56, T57, T58, T59, T61, T62, T63, T65, T67, T69, T70, T71, T72, T75, T77, T83, T84, T85, T86, T87, T89, T90]
    repeat' (first | with_reducible refine cnd_split (fun hc => ?_) (fun hc => ?_) | with_reducible refine Reqs.mk ?_ ?_)
    all_goals first | trivial | exact endS_v (t := (coshIF (Iv.mk x1 x2))) hr rfl
  · cases hF

-- spec.CoshI
theorem spec_CoshI_coshI_ok : Fn Try.prog 18 F_coshI := by
  refine fn_of_go (O := orc [⟨27, F_whole, .inl spec_l04Whole_whole_ok⟩, ⟨49, F_okI, .inl spec_l04Ok_okI_ok⟩, ⟨50, F_endsI, .inl spec_l08Ends_endsI_ok⟩, ⟨55, F_absI, .inl spec_AbsI_absI_ok⟩, ⟨56, F_coshF, .inl spec_l08Cosh_coshF_ok⟩]) mixed T_ok (orc_sound _) Try.func18 (by kernel_rfl) rfl Try.ntmps18 (by kernel_rfl) Try.results18 ?_
  intro args g pre r new hF hpre
  unfold F_coshI at hF
  split at hF
  · rename_i x1 x2
    simp only [Option.some.injEq, Prod.mk.injEq] at hF
    obtain ⟨rfl, hr, rfl⟩ := hF
    refine ⟨by simp, ?_⟩
    simp (config := { maxSteps := 4000000, implicitDefEqProofs := false }) only [F_absI_eq, F_coshF_eq, F_endsI_eq, F_okI_eq, F_whole_eq, WK0, WK1, WK2, WK3, WK4, WK5, WK6, WK7, WK8, WK9, WK10, WK11, WK12, WK13, WK14, WK15, WK16, WK17, WK18, WK19, WK20, WK21, WK22, WK23, look_hit, look_miss, List.map_cons, List.map_nil, Nat.add_zero, max_v, min_v, ↓cnd_t, ↓cnd_f, startEnv, Option.map_some, List.length_nil, List.length_cons, List.nil_append, List.cons_append, List.getElem?_cons_zero, List.getElem?_cons_succ, List.set_cons_zero, List.set_cons_succ, Bool.not_true, Bool.not_false, reduceIte, Nat.reduceEqDiff, Nat.reduceAdd, Nat.reduceLT, blt_lit, beq_lit, Bool.or_true, Bool.true_or, Bool.or_false, Bool.false_or, Bool.and_true, Bool.true_and, Bool.and_self, cond_true, cond_false, List.append_nil, Iv.eta, Option.map_none, idxO_l0, idxO_l1, decide_true, decide_false, reqs_true, Int.zero_sub, wrap_lit, wrapu_lit, Int.reduceLE, Int.reduceLT, Int.reduceAdd, Int.reduceSub, Int.reduceMul, Int.reduceNeg, Int.reduceEq, Option.bind_some, bin_shr_u64, bin_shl_u64, bin_shr_i64, bin_shl_i64, and_m32', Int.reduceToNat, Int.reducePow, Int.reduceMod, Int.reduceDiv, wrap_u64s, true_or, or_true, true_and, and_true, Option.isSome_none, Option.isSome_some, Nat.reduceLeDiff, Nat.reduceMul, Int.toNat_natCast, Int.cast_ofNat_Int, Int.natCast_zero, Int.natCast_one, List.isEmpty_nil, List.isEmpty_cons, List.replicate_zero, List.replicate_succ, T1, T2, T3, T4, T5, T6, T9, T10, T11, T12, T21, T22, T23, T24, T25, T26, T27, T28, T29, T30, T31, T32, T33, T34, T35, T36, T37, T38, T39, T40, T42, T43, T44, T45, T46, T47, T48, T50, T51, T52, T53, T54, T55, T56, T57, T58, T59, T61, T62, T63, T65, T67, T69, T70, T71, T72, T75, T77, T83, T84, T85, T86, T87, T89, T90]
    repeat' (first | with_reducible refine cnd_split (fun hc => ?_) (fun hc => ?_) | with_reducible refine Reqs.mk ?_ ?_)
    all_goals first
      | trivial
      | (have hk := okI_mk.1 (by assumption : okI ⟨x1, x2⟩ = true); omega)
      | (have h9 := abs_ok (by assumption : okI ⟨x1, x2⟩ = true)
         have hk := okI_iff.1 h9.1; omega)
      | (refine endS_v (t := (coshIF (Iv.mk x1 x2))) hr ?_; rw [coshIF, mono_no (by first | assumption | exact abs_no (by assumption))]; done)
      | (refine endS_v (t := (coshIF (Iv.mk x1 x2))) hr ?_; rw [coshIF]; first | (rw [mono_ok (by assumption)]; done) | (have h9 := abs_ok (by assumption : okI ⟨x1, x2⟩ = true); rw [monoI, if_pos h9.1, endsI]; done))
  · cases hF

end Go.Proofs.Ytmkpilmlgjnadaa.Eng
