/- What functions of the program compute, and that the program computes it: part 12. -/
import Derived.Test.YtcnapkdccjibpaaGreatTab
import Derived.Test.YtcnapkdccjibpaaGreatEng16
import Derived.Laws.BitsLemmas
import Derived.Laws.Bits64
import Derived.Laws.Bits64b
import Derived.Lib.Mul64
import Derived.Lib.BitFns
import Derived.Laws.Externs
import Derived.Test.YtcnapkdccjibpaaGreatL1
import Derived.Test.YtcnapkdccjibpaaGreatL2
import Derived.Test.YtcnapkdccjibpaaGreatL6
import Derived.Test.YtcnapkdccjibpaaGreatL11
namespace Go.Proofs.YtcnapkdccjibpaaGreat.Eng
open Go Go.RowKit
set_option linter.unusedVariables false
set_option linter.unusedSimpArgs false
set_option maxRecDepth 100000
set_option maxHeartbeats 1000000
-- fixFloor
def fixFloor (a d : Int) : Int × Bool := fixed (mulDiv a 4294967296 d).1 (mulDiv a 4294967296 d).2
def fixCeil (a d : Int) : Int × Bool := fixed (mulDivUp a 4294967296 d).1 (mulDivUp a 4294967296 d).2
def F_fixFloor : FT
  | [.c (.p (.int .i64 a)), .c (.p (.int .i64 d))], _ => some (inR a ∧ inR d, .tup [.c (.p (.int .i64 ((fixFloor a d).1))), .c (.p (.bool ((fixFloor a d).2)))], [])
  | _, _ => none
theorem F_fixFloor_eq {a : Int} {d : Int} {g : List PC} : F_fixFloor [.c (.p (.int .i64 a)), .c (.p (.int .i64 d))] g = some (inR a ∧ inR d, .tup [.c (.p (.int .i64 ((fixFloor a d).1))), .c (.p (.bool ((fixFloor a d).2)))], []) := rfl
def F_fixCeil : FT
  | [.c (.p (.int .i64 a)), .c (.p (.int .i64 d))], _ => some (inR a ∧ inR d, .tup [.c (.p (.int .i64 ((fixCeil a d).1))), .c (.p (.bool ((fixCeil a d).2)))], [])
  | _, _ => none
theorem F_fixCeil_eq {a : Int} {d : Int} {g : List PC} : F_fixCeil [.c (.p (.int .i64 a)), .c (.p (.int .i64 d))] g = some (inR a ∧ inR d, .tup [.c (.p (.int .i64 ((fixCeil a d).1))), .c (.p (.bool ((fixCeil a d).2)))], []) := rfl

-- impl.FixFloor
theorem impl_FixFloor_fixFloor_ok : Fn Tryz.prog 148 F_fixFloor := by
  refine fn_of_go (O := orc [⟨167, F_fixed, .inl impl_fixed_fixed_ok⟩, ⟨168, F_mulDiv, .inl impl_MulDivFloor_mulDiv_ok⟩]) mixed T_ok (orc_sound _) Tryz.func148 (by kernel_rfl) rfl Tryz.ntmps148 (by kernel_rfl) Tryz.results148 ?_
  intro args g pre r new hF hpre
  unfold F_fixFloor at hF
  split at hF
  · rename_i a d
    simp only [Option.some.injEq, Prod.mk.injEq] at hF
    obtain ⟨rfl, hr, rfl⟩ := hF
    refine ⟨by simp, ?_⟩
    simp (config := { maxSteps := 4000000, implicitDefEqProofs := false }) only [F_fixed_eq, F_mulDiv_eq, WK0, WK1, WK2, WK3, WK4, WK5, WK6, WK7, WK8, WK9, WK10, WK11, WK12, WK13, WK14, WK15, WK16, WK17, WK18, WK19, WK20, WK21, WK22, WK23, WK24, WK25, WK26, WK27, WK28, look_hit, look_miss, List.map_cons, List.map_nil, Nat.add_zero, max_v, min_v, ↓cnd_t, ↓cnd_f, ↓grd_b, ↓grd_u, startEnv, Option.map_some, List.length_nil, List.length_cons, List.nil_append, List.cons_append, List.getElem?_cons_zero, List.getElem?_cons_succ, List.set_cons_zero, List.set_cons_succ, Bool.not_true, Bool.not_false, reduceIte, Nat.reduceEqDiff, Nat.reduceAdd, Nat.reduceLT, blt_lit, beq_lit, Bool.or_true, Bool.true_or, Bool.or_false, Bool.false_or, Bool.and_true, Bool.true_and, Bool.and_self, cond_true, cond_false, List.append_nil, Iv.eta, Option.map_none, idxO_l0, idxO_l1, decide_true, decide_false, reqs_true, Int.zero_sub, wrap_lit, wrapu_lit, Int.reduceLE, Int.reduceLT, Int.reduceAdd, Int.reduceSub, Int.reduceMul, Int.reduceNeg, Int.reduceEq, Option.bind_some, bin_shr_u64, bin_shl_u64, bin_shr_i64, bin_shl_i64, and_m32', Int.reduceToNat, Int.reducePow, Int.reduceMod, Int.reduceDiv, wrap_u64s, true_or, or_true, true_and, and_true, Option.isSome_none, Option.isSome_some, Nat.reduceLeDiff, Nat.reduceMul, Int.toNat_natCast, Int.cast_ofNat_Int, Int.natCast_zero, Int.natCast_one, List.isEmpty_nil, List.isEmpty_cons, List.replicate_zero, List.replicate_succ, T1, T2, T3, T4, T5, T6, T9, T10, T11, T12, T21, T22, T23, T24, T26, T27, T28, T29, T30, T31, T32, T33, T34, T35, T37, T38, T39, T40, T42, T43, T44, T45, T46, T47, T48, T50, T52, T54, T55, T56, T57, T58, T59, T60, T61, T62, T63, T64, T65, T66, T67, T68, T69, T70, T71, T72, T73, T75, T77, T78, T79, T80, T82, T83, T84, T85, T87, T89, T90, T91, T92, T95, T97, T103, T104, T105, T106, T107, T109, T110]
    repeat' (first | with_reducible refine cnd_split (fun hc => ?_) (fun hc => ?_) | with_reducible refine Reqs.mk ?_ ?_)
    all_goals first
      | (refine ⟨hpre.1, ?_, hpre.2⟩; unfold inR; omega)
      | exact endS_ib (t := (fixFloor a d)) hr rfl
  · cases hF

-- impl.FixCeil
theorem impl_FixCeil_fixCeil_ok : Fn Tryz.prog 149 F_fixCeil := by
  refine fn_of_go (O := orc [⟨167, F_fixed, .inl impl_fixed_fixed_ok⟩, ⟨172, F_mulDivUp, .inl impl_mulDivCeil_mulDivUp_ok⟩]) mixed T_ok (orc_sound _) Tryz.func149 (by kernel_rfl) rfl Tryz.ntmps149 (by kernel_rfl) Tryz.results149 ?_
  intro args g pre r new hF hpre
  unfold F_fixCeil at hF
  split at hF
  · rename_i a d
    simp only [Option.some.injEq, Prod.mk.injEq] at hF
    obtain ⟨rfl, hr, rfl⟩ := hF
    refine ⟨by simp, ?_⟩
    simp (config := { maxSteps := 4000000, implicitDefEqProofs := false }) only [F_fixed_eq, F_mulDivUp_eq, WK0, WK1, WK2, WK3, WK4, WK5, WK6, WK7, WK8, WK9, WK10, WK11, WK12, WK13, WK14, WK15, WK16, WK17, WK18, WK19, WK20, WK21, WK22, WK23, WK24, WK25, WK26, WK27, WK28, look_hit, look_miss, List.map_cons, List.map_nil, Nat.add_zero, max_v, min_v, ↓cnd_t, ↓cnd_f, ↓grd_b, ↓grd_u, startEnv, Option.map_some, List.length_nil, List.length_cons, List.nil_append, List.cons_append, List.getElem?_cons_zero, List.getElem?_cons_succ, List.set_cons_zero, List.set_cons_succ, Bool.not_true, Bool.not_false, reduceIte, Nat.reduceEqDiff, Nat.reduceAdd, Nat.reduceLT, blt_lit, beq_lit, Bool.or_true, Bool.true_or, Bool.or_false, Bool.false_or, Bool.and_true, Bool.true_and, Bool.and_self, cond_true, cond_false, List.append_nil, Iv.eta, Option.map_none, idxO_l0, idxO_l1, decide_true, decide_false, reqs_true, Int.zero_sub, wrap_lit, wrapu_lit, Int.reduceLE, Int.reduceLT, Int.reduceAdd, Int.reduceSub, Int.reduceMul, Int.reduceNeg, Int.reduceEq, Option.bind_some, bin_shr_u64, bin_shl_u64, bin_shr_i64, bin_shl_i64, and_m32', Int.reduceToNat, Int.reducePow, Int.reduceMod, Int.reduceDiv, wrap_u64s, true_or, or_true, true_and, and_true, Option.isSome_none, Option.isSome_some, Nat.reduceLeDiff, Nat.reduceMul, Int.toNat_natCast, Int.cast_ofNat_Int, Int.natCast_zero, Int.natCast_one, List.isEmpty_nil, List.isEmpty_cons, List.replicate_zero, List.replicate_succ, T1, T2, T3, T4, T5, T6, T9, T10, T11, T12, T21, T22, T23, T24, T26, T27, T28, T29, T30, T31, T32, T33, T34, T35, T37, T38, T39, T40, T42, T43, T44, T45, T46, T47, T48, T50, T52, T54, T55, T56, T57, T58, T59, T60, T61, T62, T63, T64, T65, T66, T67, T68, T69, T70, T71, T72, T73, T75, T77, T78, T79, T80, T82, T83, T84, T85, T87, T89, T90, T91, T92, T95, T97, T103, T104, T105, T106, T107, T109, T110]
    repeat' (first | with_reducible refine cnd_split (fun hc => ?_) (fun hc => ?_) | with_reducible refine Reqs.mk ?_ ?_)
    all_goals first
      | (refine ⟨hpre.1, ?_, hpre.2⟩; unfold inR; omega)
      | exact endS_ib (t := (fixCeil a d)) hr rfl
  · cases hF

-- divDown
def divDown (a b : Int) : Int × Bool := if fixOk a && fixOk b then (if b < 0 then fixed (mulDiv (-a) 4294967296 (-b)).1 (mulDiv (-a) 4294967296 (-b)).2 else fixed (mulDiv a 4294967296 b).1 (mulDiv a 4294967296 b).2) else (0, false)
def divUp (a b : Int) : Int × Bool := if fixOk a && fixOk b then (-(divDown (-a) b).1, (divDown (-a) b).2) else (0, false)
def F_divDown : FT
  | [.c (.p (.int .i64 a)), .c (.p (.int .i64 b))], _ => some (True, .tup [.c (.p (.int .i64 ((divDown a b).1))), .c (.p (.bool ((divDown a b).2)))], [])
  | _, _ => none
theorem F_divDown_eq {a : Int} {b : Int} {g : List PC} : F_divDown [.c (.p (.int .i64 a)), .c (.p (.int .i64 b))] g = some (True, .tup [.c (.p (.int .i64 ((divDown a b).1))), .c (.p (.bool ((divDown a b).2)))], []) := rfl
def F_divUp : FT
  | [.c (.p (.int .i64 a)), .c (.p (.int .i64 b))], _ => some (True, .tup [.c (.p (.int .i64 ((divUp a b).1))), .c (.p (.bool ((divUp a b).2)))], [])
  | _, _ => none
theorem F_divUp_eq {a : Int} {b : Int} {g : List PC} : F_divUp [.c (.p (.int .i64 a)), .c (.p (.int .i64 b))] g = some (True, .tup [.c (.p (.int .i64 ((divUp a b).1))), .c (.p (.bool ((divUp a b).2)))], []) := rfl
theorem divDown_bd (a b : Int) : -1152921504606846976 ≤ (divDown a b).1 ∧ (divDown a b).1 ≤ 1152921504606846976 := by
  unfold divDown
  split
  · split <;> exact fixed_bd _ _
  · simp only; omega
theorem divUp_bd (a b : Int) : -1152921504606846976 ≤ (divUp a b).1 ∧ (divUp a b).1 ≤ 1152921504606846976 := by
  unfold divUp
  have := divDown_bd (-a) b
  split <;> simp only <;> omega
theorem wnegV {a b : Int} : IntKind.i64.wrap (-(divDown a b).1) = -(divDown a b).1 := by
  have := divDown_bd a b; exact wrap_om (by omega) (by omega)
theorem divDown_f {a b : Int} (h : fixOk b = false) : divDown a b = (0, false) := by simp [divDown, h]
theorem divDown_0 {a : Int} : divDown a 0 = (0, false) := by
  unfold divDown
  split
  · rw [if_neg (by omega)]
    simp [mulDiv, fixed]
  · rfl
theorem fix_in2 {n : Int} (h : fixOk n = true) : inR n ∧ inR (-n) ∧ IntKind.i64.wrap (-n) = -n := by
  have h1 := wneg h
  rw [fixOk_iff] at h; unfold inR; omega

-- impl.DivDown
theorem impl_DivDown_divDown_ok : Fn Tryz.prog 138 F_divDown := by
  refine fn_of_go (O := orc [⟨100, F_fixOk, .inl impl_ValidFix_fixOk_ok⟩, ⟨167, F_fixed, .inl impl_fixed_fixed_ok⟩, ⟨168, F_mulDiv, .inl impl_MulDivFloor_mulDiv_ok⟩]) mixed T_ok (orc_sound _) Tryz.func138 (by kernel_rfl) rfl Tryz.ntmps138 (by kernel_rfl) Tryz.results138 ?_
  intro args g pre r new hF hpre
  unfold F_divDown at hF
  split at hF
  · rename_i a b
    simp only [Option.some.injEq, Prod.mk.injEq] at hF
    obtain ⟨rfl, hr, rfl⟩ := hF
    refine ⟨by simp, ?_⟩
    simp (config := { maxSteps := 4000000, implicitDefEqProofs := false }) only [F_fixOk_eq, F_fixed_eq, F_mulDiv_eq, WK0, WK1, WK2, WK3, WK4, WK5, WK6, WK7, WK8, WK9, WK10, WK11, WK12, WK13, WK14, WK15, WK16, WK17, WK18, WK19, WK20, WK21, WK22, WK23, WK24, WK25, WK26, WK27, WK28, look_hit, look_miss, List.map_cons, List.map_nil, Nat.add_zero, max_v, min_v, ↓cnd_t, ↓cnd_f, ↓grd_b, ↓grd_u, startEnv, Option.map_some, List.length_nil, List.length_cons, List.nil_append, List.cons_append, List.getElem?_cons_zero, List.getElem?_cons_succ, List.set_cons_zero, List.set_cons_succ, Bool.not_true, Bool.not_false, reduceIte, Nat.reduceEqDiff, Nat.reduceAdd, Nat.reduceLT, blt_lit, beq_lit, Bool.or_true, Bool.true_or, Bool.or_false, Bool.false_or, Bool.and_true, Bool.true_and, Bool.and_self, cond_true, cond_false, List.append_nil, Iv.eta, Option.map_none, idxO_l0, idxO_l1, decide_true, decide_false, reqs_true, Int.zero_sub, wrap_lit, wrapu_lit, Int.reduceLE, Int.reduceLT, Int.reduceAdd, Int.reduceSub, Int.reduceMul, Int.reduceNeg, Int.reduceEq, Option.bind_some, bin_shr_u64, bin_shl_u64, bin_shr_i64, bin_shl_i64, and_m32', Int.reduceToNat, Int.reducePow, Int.reduceMod, Int.reduceDiv, wrap_u64s, true_or, or_true, true_and, and_true, Option.isSome_none, Option.isSome_some, Nat.reduceLeDiff, Nat.reduceMul, Int.toNat_natCast, Int.cast_ofNat_Int, Int.natCast_zero, Int.natCast_one, List.isEmpty_nil, List.isEmpty_cons, List.replicate_zero, List.replicate_succ, T1, T2, T3, T4, T5, T6, T9, T10, T11, T12, T21, T22, T23, T24, T26, T27, T28, T29, T30, T31, T32, T33, T34, T35, T37, T38, T39, T40, T42, T43, T44, T45, T46, T47, T48, T50, T52, T54, T55, T56, T57, T58, T59, T60, T61, T62, T63, T64, T65, T66, T67, T68, T69, T70, T71, T72, T73, T75, T77, T78, T79, T80, T82, T83, T84, T85, T87, T89, T90, T91, T92, T95, T97, T103, T104, T105, T106, T107, T109, T110]
    repeat' (first | with_reducible refine cnd_split (fun hc => ?_) (fun hc => ?_) | with_reducible refine Reqs.mk ?_ ?_)
    all_goals (try simp only [decide_eq_true_eq, decide_eq_false_iff_not] at *)
    all_goals first
      | (refine endS_ib (t := (divDown a b)) hr ?_; simp only [divDown]; simp_all; done)
      | (have h1 := @fix_in2 a (by assumption)
         have h2 := @fix_in2 b (by assumption)
         try simp only [h1.2.2, h2.2.2]
         first
         | (refine ⟨h1.1, ?_, h2.1⟩; unfold inR; omega)
         | (refine ⟨h1.2.1, ?_, h2.2.1⟩; unfold inR; omega)
         | (refine endS_ib (t := (divDown a b)) hr ?_; rw [divDown, if_pos (by simp only [Bool.and_eq_true]; exact ⟨by assumption, by assumption⟩), if_neg (by omega)])
         | (refine endS_ib (t := (divDown a b)) hr ?_; rw [divDown, if_pos (by simp only [Bool.and_eq_true]; exact ⟨by assumption, by assumption⟩), if_pos (by omega)]))
  · cases hF

-- spec.l03DivDown
theorem spec_l03DivDown_divDown_ok : Fn Tryz.prog 75 F_divDown := by
  refine fn_of_go (O := orc [⟨133, F_fixOk, .inl spec_l03Ok_fixOk_ok⟩, ⟨134, F_fixed, .inl spec_l03End_fixed_ok⟩, ⟨140, F_mulDiv, .inl spec_MulDivFloor_mulDiv_ok⟩]) mixed T_ok (orc_sound _) Tryz.func75 (by kernel_rfl) rfl Tryz.ntmps75 (by kernel_rfl) Tryz.results75 ?_
  intro args g pre r new hF hpre
  unfold F_divDown at hF
  split at hF
  · rename_i a b
    simp only [Option.some.injEq, Prod.mk.injEq] at hF
    obtain ⟨rfl, hr, rfl⟩ := hF
    refine ⟨by simp, ?_⟩
    simp (config := { maxSteps := 4000000, implicitDefEqProofs := false }) only [F_fixOk_eq, F_fixed_eq, F_mulDiv_eq, WK0, WK1, WK2, WK3, WK4, WK5, WK6, WK7, WK8, WK9, WK10, WK11, WK12, WK13, WK14, WK15, WK16, WK17, WK18, WK19, WK20, WK21, WK22, WK23, WK24, WK25, WK26, WK27, WK28, look_hit, look_miss, List.map_cons, List.map_nil, Nat.add_zero, max_v, min_v, ↓cnd_t, ↓cnd_f, ↓grd_b, ↓grd_u, startEnv, Option.map_some, List.length_nil, List.length_cons, List.nil_append, List.cons_append, List.getElem?_cons_zero, List.getElem?_cons_succ, List.set_cons_zero, List.set_cons_succ, Bool.not_true, Bool.not_false, reduceIte, Nat.reduceEqDiff, Nat.reduceAdd, Nat.reduceLT, blt_lit, beq_lit, Bool.or_true, Bool.true_or, Bool.or_false, Bool.false_or, Bool.and_true, Bool.true_and, Bool.and_self, cond_true, cond_false, List.append_nil, Iv.eta, Option.map_none, idxO_l0, idxO_l1, decide_true, decide_false, reqs_true, Int.zero_sub, wrap_lit, wrapu_lit, Int.reduceLE, Int.reduceLT, Int.reduceAdd, Int.reduceSub, Int.reduceMul, Int.reduceNeg, Int.reduceEq, Option.bind_some, bin_shr_u64, bin_shl_u64, bin_shr_i64, bin_shl_i64, and_m32', Int.reduceToNat, Int.reducePow, Int.reduceMod, Int.reduceDiv, wrap_u64s, true_or, or_true, true_and, and_true, Option.isSome_none, Option.isSome_some, Nat.reduceLeDiff, Nat.reduceMul, Int.toNat_natCast, Int.cast_ofNat_Int, Int.natCast_zero, Int.natCast_one, List.isEmpty_nil, List.isEmpty_cons, List.replicate_zero, List.replicate_succ, T1, T2, T3, T4, T5, T6, T9, T10, T11, T12, T21, T22, T23, T24, T26, T27, T28, T29, T30, T31, T32, T33, T34, T35, T37, T38, T39, T40, T42, T43, T44, T45, T46, T47, T48, T50, T52, T54, T55, T56, T57, T58, T59, T60, T61, T62, T63, T64, T65, T66, T67, T68, T69, T70, T71, T72, T73, T75, T77, T78, T79, T80, T82, T83, T84, T85, T87, T89, T90, T91, T92, T95, T97, T103, T104, T105, T106, T107, T109, T110]
    repeat' (first | with_reducible refine cnd_split (fun hc => ?_) (fun hc => ?_) | with_reducible refine Reqs.mk ?_ ?_)
    all_goals (try simp only [decide_eq_true_eq, decide_eq_false_iff_not] at *)
    all_goals first
      | (have h0 : b = 0 := by assumption
         refine endS_ib (t := (divDown a b)) hr ?_; rw [h0, divDown_0])
      | (refine endS_ib (t := (divDown a b)) hr ?_; simp only [divDown]; simp_all; done)
      | (have h1 := @fix_in2 a (by assumption)
         have h2 := @fix_in2 b (by assumption)
         try simp only [h1.2.2, h2.2.2]
         first
         | (refine ⟨h1.1, ?_, h2.1⟩; unfold inR; omega)
         | (refine ⟨h1.2.1, ?_, h2.2.1⟩; unfold inR; omega)
         | (refine endS_ib (t := (divDown a b)) hr ?_; rw [divDown, if_pos (by simp only [Bool.and_eq_true]; exact ⟨by assumption, by assumption⟩), if_neg (by omega)])
         | (refine endS_ib (t := (divDown a b)) hr ?_; rw [divDown, if_pos (by simp only [Bool.and_eq_true]; exact ⟨by assumption, by assumption⟩), if_pos (by omega)]))
  · cases hF

-- impl.DivUp
theorem impl_DivUp_divUp_ok : Fn Tryz.prog 139 F_divUp := by
  refine fn_of_go (O := orc [⟨100, F_fixOk, .inl impl_ValidFix_fixOk_ok⟩, ⟨138, F_divDown, .inl impl_DivDown_divDown_ok⟩]) mixed T_ok (orc_sound _) Tryz.func139 (by kernel_rfl) rfl Tryz.ntmps139 (by kernel_rfl) Tryz.results139 ?_
  intro args g pre r new hF hpre
  unfold F_divUp at hF
  split at hF
  · rename_i a b
    simp only [Option.some.injEq, Prod.mk.injEq] at hF
    obtain ⟨rfl, hr, rfl⟩ := hF
    refine ⟨by simp, ?_⟩
    simp (config := { maxSteps := 4000000, implicitDefEqProofs := false }) only [F_divDown_eq, F_fixOk_eq, WK0, WK1, WK2, WK3, WK4, WK5, WK6, WK7, WK8, WK9, WK10, WK11, WK12, WK13, WK14, WK15, WK16, WK17, WK18, WK19, WK20, WK21, WK22, WK23, WK24, WK25, WK26, WK27, WK28, look_hit, look_miss, List.map_cons, List.map_nil, Nat.add_zero, max_v, min_v, ↓cnd_t, ↓cnd_f, ↓grd_b, ↓grd_u, startEnv, Option.map_some, List.length_nil, List.length_cons, List.nil_append, List.cons_append, List.getElem?_cons_zero, List.getElem?_cons_succ, List.set_cons_zero, List.set_cons_succ, Bool.not_true, Bool.not_false, reduceIte, Nat.reduceEqDiff, Nat.reduceAdd, Nat.reduceLT, blt_lit, beq_lit, Bool.or_true, Bool.true_or, Bool.or_false, Bool.false_or, Bool.and_true, Bool.true_and, Bool.and_self, cond_true, cond_false, List.append_nil, Iv.eta, Option.map_none, idxO_l0, idxO_l1, decide_true, decide_false, reqs_true, Int.zero_sub, wrap_lit, wrapu_lit, Int.reduceLE, Int.reduceLT, Int.reduceAdd, Int.reduceSub, Int.reduceMul, Int.reduceNeg, Int.reduceEq, Option.bind_some, bin_shr_u64, bin_shl_u64, bin_shr_i64, bin_shl_i64, and_m32', Int.reduceToNat, Int.reducePow, Int.reduceMod, Int.reduceDiv, wrap_u64s, true_or, or_true, true_and, and_true, Option.isSome_none, Option.isSome_some, Nat.reduceLeDiff, Nat.reduceMul, Int.toNat_natCast, Int.cast_ofNat_Int, Int.natCast_zero, Int.natCast_one, List.isEmpty_nil, List.isEmpty_cons, List.replicate_zero, List.replicate_succ, T1, T2, T3, T4, T5, T6, T9, T10, T11, T12, T21, T22, T23, T24, T26, T27, T28, T29, T30, T31, T32, T33, T34, T35, T37, T38, T39, T40, T42, T43, T44, T45, T46, T47, T48, T50, T52, T54, T55, T56, T57, T58, T59, T60, T61, T62, T63, T64, T65, T66, T67, T68, T69, T70, T71, T72, T73, T75, T77, T78, T79, T80, T82, T83, T84, T85, T87, T89, T90, T91, T92, T95, T97, T103, T104, T105, T106, T107, T109, T110]
    repeat' (first | with_reducible refine cnd_split (fun hc => ?_) (fun hc => ?_) | with_reducible refine Reqs.mk ?_ ?_)
    all_goals (refine endS_ib (t := (divUp a b)) hr ?_; first | (simp_all [divUp]; done) | skip)
    rw [wnegV, wneg (by assumption)]
    simp_all [divUp]
  · cases hF

-- spec.l03DivUp
theorem spec_l03DivUp_divUp_ok : Fn Tryz.prog 76 F_divUp := by
  refine fn_of_go (O := orc [⟨75, F_divDown, .inl spec_l03DivDown_divDown_ok⟩, ⟨133, F_fixOk, .inl spec_l03Ok_fixOk_ok⟩]) mixed T_ok (orc_sound _) Tryz.func76 (by kernel_rfl) rfl Tryz.ntmps76 (by kernel_rfl) Tryz.results76 ?_
  intro args g pre r new hF hpre
  unfold F_divUp at hF
  split at hF
  · rename_i a b
    simp only [Option.some.injEq, Prod.mk.injEq] at hF
    obtain ⟨rfl, hr, rfl⟩ := hF
    refine ⟨by simp, ?_⟩
    simp (config := { maxSteps := 4000000, implicitDefEqProofs := false }) only [F_divDown_eq, F_fixOk_eq, WK0, WK1, WK2, WK3, WK4, WK5, WK6, WK7, WK8, WK9, WK10, WK11, WK12, WK13, WK14, WK15, WK16, WK17, WK18, WK19, WK20, WK21, WK22, WK23, WK24, WK25, WK26, WK27, WK28, look_hit, look_miss, List.map_cons, List.map_nil, Nat.add_zero, max_v, min_v, ↓cnd_t, ↓cnd_f, ↓grd_b, ↓grd_u, startEnv, Option.map_some, List.length_nil, List.length_cons, List.nil_append, List.cons_append, List.getElem?_cons_zero, List.getElem?_cons_succ, List.set_cons_zero, List.set_cons_succ, Bool.not_true, Bool.not_false, reduceIte, Nat.reduceEqDiff, Nat.reduceAdd, Nat.reduceLT, blt_lit, beq_lit, Bool.or_true, Bool.true_or, Bool.or_false, Bool.false_or, Bool.and_true, Bool.true_and, Bool.and_self, cond_true, cond_false, List.append_nil, Iv.eta, Option.map_none, idxO_l0, idxO_l1, decide_true, decide_false, reqs_true, Int.zero_sub, wrap_lit, wrapu_lit, Int.reduceLE, Int.reduceLT, Int.reduceAdd, Int.reduceSub, Int.reduceMul, Int.reduceNeg, Int.reduceEq, Option.bind_some, bin_shr_u64, bin_shl_u64, bin_shr_i64, bin_shl_i64, and_m32', Int.reduceToNat, Int.reducePow, Int.reduceMod, Int.reduceDiv, wrap_u64s, true_or, or_true, true_and, and_true, Option.isSome_none, Option.isSome_some, Nat.reduceLeDiff, Nat.reduceMul, Int.toNat_natCast, Int.cast_ofNat_Int, Int.natCast_zero, Int.natCast_one, List.isEmpty_nil, List.isEmpty_cons, List.replicate_zero, List.replicate_succ, T1, T2, T3, T4, T5, T6, T9, T10, T11, T12, T21, T22, T23, T24, T26, T27, T28, T29, T30, T31, T32, T33, T34, T35, T37, T38, T39, T40, T42, T43, T44, T45, T46, T47, T48, T50, T52, T54, T55, T56, T57, T58, T59, T60, T61, T62, T63, T64, T65, T66, T67, T68, T69, T70, T71, T72, T73, T75, T77, T78, T79, T80, T82, T83, T84, T85, T87, T89, T90, T91, T92, T95, T97, T103, T104, T105, T106, T107, T109, T110]
    repeat' (first | with_reducible refine cnd_split (fun hc => ?_) (fun hc => ?_) | with_reducible refine Reqs.mk ?_ ?_)
    all_goals (refine endS_ib (t := (divUp a b)) hr ?_; first | (simp_all [divUp]; done) | skip)
    rw [wnegV, wneg (by assumption)]
    cases hb : fixOk b
    · rw [divDown_f hb]; simp [divUp, hb]
    · simp_all [divUp]
  · cases hF

-- divI
def divI (a b : Iv) : Iv := if okI a && okI b && !within 0 b.lo b.hi then comb divDown divUp a b else whole
def F_combD : FT
  | [.agg [.int .i64 a1, .int .i64 a2], .agg [.int .i64 b1, .int .i64 b2], .c (.p (.fn 138)), .c (.p (.fn 139))], _ => some (True, .v (.agg [.int .i64 ((comb divDown divUp (Iv.mk a1 a2) (Iv.mk b1 b2))).lo, .int .i64 ((comb divDown divUp (Iv.mk a1 a2) (Iv.mk b1 b2))).hi]), [])
  | _, _ => none
theorem F_combD_eq {a1 : Int} {a2 : Int} {b1 : Int} {b2 : Int} {g : List PC} : F_combD [.agg [.int .i64 a1, .int .i64 a2], .agg [.int .i64 b1, .int .i64 b2], .c (.p (.fn 138)), .c (.p (.fn 139))] g = some (True, .v (.agg [.int .i64 ((comb divDown divUp (Iv.mk a1 a2) (Iv.mk b1 b2))).lo, .int .i64 ((comb divDown divUp (Iv.mk a1 a2) (Iv.mk b1 b2))).hi]), []) := rfl
def F_divI : FT
  | [.agg [.int .i64 a1, .int .i64 a2], .agg [.int .i64 b1, .int .i64 b2]], _ => some (True, .v (.agg [.int .i64 ((divI (Iv.mk a1 a2) (Iv.mk b1 b2))).lo, .int .i64 ((divI (Iv.mk a1 a2) (Iv.mk b1 b2))).hi]), [])
  | _, _ => none
theorem F_divI_eq {a1 : Int} {a2 : Int} {b1 : Int} {b2 : Int} {g : List PC} : F_divI [.agg [.int .i64 a1, .int .i64 a2], .agg [.int .i64 b1, .int .i64 b2]] g = some (True, .v (.agg [.int .i64 ((divI (Iv.mk a1 a2) (Iv.mk b1 b2))).lo, .int .i64 ((divI (Iv.mk a1 a2) (Iv.mk b1 b2))).hi]), []) := rfl
theorem minV {a b : Int} : min 1152921504606846976 (divDown a b).1 = (divDown a b).1 := by
  have := divDown_bd a b; omega
theorem maxV {a b : Int} : max (-1152921504606846976) (divUp a b).1 = (divUp a b).1 := by
  have := divUp_bd a b; omega

-- impl.combine2
theorem impl_combine_combD_ok : Fn Tryz.prog 137 F_combD := by
  refine fn_of_go (O := orc [⟨71, F_whole, .inl impl_Whole_whole_ok⟩, ⟨138, F_divDown, .inl impl_DivDown_divDown_ok⟩, ⟨139, F_divUp, .inl impl_DivUp_divUp_ok⟩, ⟨141, F_bounded, .inl impl_bounded_bounded_ok⟩]) mixed T_ok (orc_sound _) Tryz.func137 (by kernel_rfl) rfl Tryz.ntmps137 (by kernel_rfl) Tryz.results137 ?_
  intro args g pre r new hF hpre
  unfold F_combD at hF
  split at hF
  · rename_i a1 a2 b1 b2
    simp only [Option.some.injEq, Prod.mk.injEq] at hF
    obtain ⟨rfl, hr, rfl⟩ := hF
    refine ⟨by simp, ?_⟩
    simp (config := { maxSteps := 4000000, implicitDefEqProofs := false }) only [F_bounded_eq, F_divDown_eq, F_divUp_eq, F_whole_eq, WK0, WK1, WK2, WK3, WK4, WK5, WK6, WK7, WK8, WK9, WK10, WK11, WK12, WK13, WK14, WK15, WK16, WK17, WK18, WK19, WK20, WK21, WK22, WK23, WK24, WK25, WK26, WK27, WK28, look_hit, look_miss, List.map_cons, List.map_nil, Nat.add_zero, max_v, min_v, ↓cnd_t, ↓cnd_f, ↓grd_b, ↓grd_u, startEnv, Option.map_some, List.length_nil, List.length_cons, List.nil_append, List.cons_append, List.getElem?_cons_zero, List.getElem?_cons_succ, List.set_cons_zero, List.set_cons_succ, Bool.not_true, Bool.not_false, reduceIte, Nat.reduceEqDiff, Nat.reduceAdd, Nat.reduceLT, blt_lit, beq_lit, Bool.or_true, Bool.true_or, Bool.or_false, Bool.false_or, Bool.and_true, Bool.true_and, Bool.and_self, cond_true, cond_false, List.append_nil, Iv.eta, Option.map_none, idxO_l0, idxO_l1, decide_true, decide_false, reqs_true, Int.zero_sub, wrap_lit, wrapu_lit, Int.reduceLE, Int.reduceLT, Int.reduceAdd, Int.reduceSub, Int.reduceMul, Int.reduceNeg, Int.reduceEq, Option.bind_some, bin_shr_u64, bin_shl_u64, bin_shr_i64, bin_shl_i64, and_m32', Int.reduceToNat, Int.reducePow, Int.reduceMod, Int.reduceDiv, wrap_u64s, true_or, or_true, true_and, and_true, Option.isSome_none, Option.isSome_some, Nat.reduceLeDiff, Nat.reduceMul, Int.toNat_natCast, Int.cast_ofNat_Int, Int.natCast_zero, Int.natCast_one, List.isEmpty_nil, List.isEmpty_cons, List.replicate_zero, List.replicate_succ, T1, T2, T3, T4, T5, T6, T9, T10, T11, T12, T21, T22, T23, T24, T26, T27, T28, T29, T30, T31, T32, T33, T34, T35, T37, T38, T39, T40, T42, T43, T44, T45, T46, T47, T48, T50, T52, T54, T55, T56, T57, T58, T59, T60, T61, T62, T63, T64, T65, T66, T67, T68, T69, T70, T71, T72, T73, T75, T77, T78, T79, T80, T82, T83, T84, T85, T87, T89, T90, T91, T92, T95, T97, T103, T104, T105, T106, T107, T109, T110]
    try simp (config := { maxSteps := 4000000, implicitDefEqProofs := false }) only [F_bounded_eq, F_divDown_eq, F_divUp_eq, F_whole_eq, WK0, WK1, WK2, WK3, WK4, WK5, WK6, WK7, WK8, WK9, WK10, WK11, WK12, WK13, WK14, WK15, WK16, WK17, WK18, WK19, WK20, WK21, WK22, WK23, WK24, WK25, WK26, WK27, WK28, look_hit, look_miss, List.map_cons, List.map_nil, Nat.add_zero, max_v, min_v, ↓cnd_t, ↓cnd_f, ↓grd_b, ↓grd_u, startEnv, Option.map_some, List.length_nil, List.length_cons, List.nil_append, List.cons_append, List.getElem?_cons_zero, List.getElem?_cons_succ, List.set_cons_zero, List.set_cons_succ, Bool.not_true, Bool.not_false, reduceIte, Nat.reduceEqDiff, Nat.reduceAdd, Nat.reduceLT, blt_lit, beq_lit, Bool.or_true, Bool.true_or, Bool.or_false, Bool.false_or, Bool.and_true, Bool.true_and, Bool.and_self, cond_true, cond_false, List.append_nil, Iv.eta, Option.map_none, idxO_l0, idxO_l1, decide_true, decide_false, reqs_true, Int.zero_sub, wrap_lit, wrapu_lit, Int.reduceLE, Int.reduceLT, Int.reduceAdd, Int.reduceSub, Int.reduceMul, Int.reduceNeg, Int.reduceEq, Option.bind_some, bin_shr_u64, bin_shl_u64, bin_shr_i64, bin_shl_i64, and_m32', Int.reduceToNat, Int.reducePow, Int.reduceMod, Int.reduceDiv, wrap_u64s, true_or, or_true, true_and, and_true, Option.isSome_none, Option.isSome_some, Nat.reduceLeDiff, Nat.reduceMul, Int.toNat_natCast, Int.cast_ofNat_Int, Int.natCast_zero, Int.natCast_one, List.isEmpty_nil, List.isEmpty_cons, List.replicate_zero, List.replicate_succ, T1, T2, T3, T4, T5, T6, T9, T10, T11, T12, T21, T22, T23, T24, T26, T27, T28, T29, T30, T31, T32, T33, T34, T35, T37, T38, T39, T40, T42, T43, T44, T45, T46, T47, T48, T50, T52, T54, T55, T56, T57, T58, T59, T60, T61, T62, T63, T64, T65, T66, T67, T68, T69, T70, T71, T72, T73, T75, T77, T78, T79, T80, T82, T83, T84, T85, T87, T89, T90, T91, T92, T95, T97, T103, T104, T105, T106, T107, T109, T110, go_turn_eq, again_n, again_r, again_e]
    repeat' (first | with_reducible refine cnd_split (fun hc => ?_) (fun hc => ?_) | with_reducible refine Reqs.mk ?_ ?_)
    all_goals (refine endS_v (t := (comb divDown divUp (Iv.mk a1 a2) (Iv.mk b1 b2))) hr ?_; simp_all [comb, Int.min_self, Int.max_self])
  · cases hF

-- impl.DivI
theorem impl_DivI_divI_ok : Fn Tryz.prog 74 F_divI := by
  refine fn_of_go (O := orc [⟨71, F_whole, .inl impl_Whole_whole_ok⟩, ⟨121, F_areOk, .inl impl_areBounded_areOk_ok⟩, ⟨122, F_hasI, .inl impl_HasI_hasI_ok⟩, ⟨137, F_combD, .inl impl_combine_combD_ok⟩, ⟨138, F_divDown, .inl impl_DivDown_divDown_ok⟩, ⟨139, F_divUp, .inl impl_DivUp_divUp_ok⟩]) mixed T_ok (orc_sound _) Tryz.func74 (by kernel_rfl) rfl Tryz.ntmps74 (by kernel_rfl) Tryz.results74 ?_
  intro args g pre r new hF hpre
  unfold F_divI at hF
  split at hF
  · rename_i a1 a2 b1 b2
    simp only [Option.some.injEq, Prod.mk.injEq] at hF
    obtain ⟨rfl, hr, rfl⟩ := hF
    refine ⟨by simp, ?_⟩
    simp (config := { maxSteps := 4000000, implicitDefEqProofs := false }) only [F_areOk_eq, F_combD_eq, F_divDown_eq, F_divUp_eq, F_hasI_eq, F_whole_eq, WK0, WK1, WK2, WK3, WK4, WK5, WK6, WK7, WK8, WK9, WK10, WK11, WK12, WK13, WK14, WK15, WK16, WK17, WK18, WK19, WK20, WK21, WK22, WK23, WK24, WK25, WK26, WK27, WK28, look_hit, look_miss, List.map_cons, List.map_nil, Nat.add_zero, max_v, min_v, ↓cnd_t, ↓cnd_f, ↓grd_b, ↓grd_u, startEnv, Option.map_some, List.length_nil, List.length_cons, List.nil_append, List.cons_append, List.getElem?_cons_zero, List.getElem?_cons_succ, List.set_cons_zero, List.set_cons_succ, Bool.not_true, Bool.not_false, reduceIte, Nat.reduceEqDiff, Nat.reduceAdd, Nat.reduceLT, blt_lit, beq_lit, Bool.or_true, Bool.true_or, Bool.or_false, Bool.false_or, Bool.and_true, Bool.true_and, Bool.and_self, cond_true, cond_false, List.append_nil, Iv.eta, Option.map_none, idxO_l0, idxO_l1, decide_true, decide_false, reqs_true, Int.zero_sub, wrap_lit, wrapu_lit, Int.reduceLE, Int.reduceLT, Int.reduceAdd, Int.reduceSub, Int.reduceMul, Int.reduceNeg, Int.reduceEq, Option.bind_some, bin_shr_u64, bin_shl_u64, bin_shr_i64, bin_shl_i64, and_m32', Int.reduceToNat, Int.reducePow, Int.reduceMod, Int.reduceDiv, wrap_u64s, true_or, or_true, true_and, and_true, Option.isSome_none, Option.isSome_some, Nat.reduceLeDiff, Nat.reduceMul, Int.toNat_natCast, Int.cast_ofNat_Int, Int.natCast_zero, Int.natCast_one, List.isEmpty_nil, List.isEmpty_cons, List.replicate_zero, List.replicate_succ, T1, T2, T3, T4, T5, T6, T9, T10, T11, T12, T21, T22, T23, T24, T26, T27, T28, T29, T30, T31, T32, T33, T34, T35, T37, T38, T39, T40, T42, T43, T44, T45, T46, T47, T48, T50, T52, T54, T55, T56, T57, T58, T59, T60, T61, T62, T63, T64, T65, T66, T67, T68, T69, T70, T71, T72, T73, T75, T77, T78, T79, T80, T82, T83, T84, T85, T87, T89, T90, T91, T92, T95, T97, T103, T104, T105, T106, T107, T109, T110]
    repeat' (first | with_reducible refine cnd_split (fun hc => ?_) (fun hc => ?_) | with_reducible refine Reqs.mk ?_ ?_)
    all_goals (refine endS_v (t := (divI (Iv.mk a1 a2) (Iv.mk b1 b2))) hr ?_; simp_all [divI])
  · cases hF

-- spec.DivI
theorem spec_DivI_divI_ok : Fn Tryz.prog 20 F_divI := by
  refine fn_of_go (O := orc [⟨61, F_okI, .inl spec_l04Ok_okI_ok⟩, ⟨62, F_whole, .inl spec_l04Whole_whole_ok⟩, ⟨63, F_mkI, .inl spec_l04Make_mkI_ok⟩, ⟨67, F_has, .inl spec_l04Has_has_ok⟩, ⟨75, F_divDown, .inl spec_l03DivDown_divDown_ok⟩, ⟨76, F_divUp, .inl spec_l03DivUp_divUp_ok⟩, ⟨77, F_min2, .inl spec_l00Min_min2_ok⟩, ⟨78, F_max2, .inl spec_l00Max_max2_ok⟩]) mixed T_ok (orc_sound _) Tryz.func20 (by kernel_rfl) rfl Tryz.ntmps20 (by kernel_rfl) Tryz.results20 ?_
  intro args g pre r new hF hpre
  unfold F_divI at hF
  split at hF
  · rename_i a1 a2 b1 b2
    simp only [Option.some.injEq, Prod.mk.injEq] at hF
    obtain ⟨rfl, hr, rfl⟩ := hF
    refine ⟨by simp, ?_⟩
    simp (config := { maxSteps := 4000000, implicitDefEqProofs := false }) only [F_divDown_eq, F_divUp_eq, F_has_eq, F_max2_eq, F_min2_eq, F_mkI_eq, F_okI_eq, F_whole_eq, WK0, WK1, WK2, WK3, WK4, WK5, WK6, WK7, WK8, WK9, WK10, WK11, WK12, WK13, WK14, WK15, WK16, WK17, WK18, WK19, WK20, WK21, WK22, WK23, WK24, WK25, WK26, WK27, WK28, look_hit, look_miss, List.map_cons, List.map_nil, Nat.add_zero, max_v, min_v, ↓cnd_t, ↓cnd_f, ↓grd_b, ↓grd_u, startEnv, Option.map_some, List.length_nil, List.length_cons, List.nil_append, List.cons_append, List.getElem?_cons_zero, List.getElem?_cons_succ, List.set_cons_zero, List.set_cons_succ, Bool.not_true, Bool.not_false, reduceIte, Nat.reduceEqDiff, Nat.reduceAdd, Nat.reduceLT, blt_lit, beq_lit, Bool.or_true, Bool.true_or, Bool.or_false, Bool.false_or, Bool.and_true, Bool.true_and, Bool.and_self, cond_true, cond_false, List.append_nil, Iv.eta, Option.map_none, idxO_l0, idxO_l1, decide_true, decide_false, reqs_true, Int.zero_sub, wrap_lit, wrapu_lit, Int.reduceLE, Int.reduceLT, Int.reduceAdd, Int.reduceSub, Int.reduceMul, Int.reduceNeg, Int.reduceEq, Option.bind_some, bin_shr_u64, bin_shl_u64, bin_shr_i64, bin_shl_i64, and_m32', Int.reduceToNat, Int.reducePow, Int.reduceMod, Int.reduceDiv, wrap_u64s, true_or, or_true, true_and, and_true, Option.isSome_none, Option.isSome_some, Nat.reduceLeDiff, Nat.reduceMul, Int.toNat_natCast, Int.cast_ofNat_Int, Int.natCast_zero, Int.natCast_one, List.isEmpty_nil, List.isEmpty_cons, List.replicate_zero, List.replicate_succ, T1, T2, T3, T4, T5, T6, T9, T10, T11, T12, T21, T22, T23, T24, T26, T27, T28, T29, T30, T31, T32, T33, T34, T35, T37, T38, T39, T40, T42, T43, T44, T45, T46, T47, T48, T50, T52, T54, T55, T56, T57, T58, T59, T60, T61, T62, T63, T64, T65, T66, T67, T68, T69, T70, T71, T72, T73, T75, T77, T78, T79, T80, T82, T83, T84, T85, T87, T89, T90, T91, T92, T95, T97, T103, T104, T105, T106, T107, T109, T110]
    try simp (config := { maxSteps := 4000000, implicitDefEqProofs := false }) only [F_divDown_eq, F_divUp_eq, F_has_eq, F_max2_eq, F_min2_eq, F_mkI_eq, F_okI_eq, F_whole_eq, WK0, WK1, WK2, WK3, WK4, WK5, WK6, WK7, WK8, WK9, WK10, WK11, WK12, WK13, WK14, WK15, WK16, WK17, WK18, WK19, WK20, WK21, WK22, WK23, WK24, WK25, WK26, WK27, WK28, look_hit, look_miss, List.map_cons, List.map_nil, Nat.add_zero, max_v, min_v, ↓cnd_t, ↓cnd_f, ↓grd_b, ↓grd_u, startEnv, Option.map_some, List.length_nil, List.length_cons, List.nil_append, List.cons_append, List.getElem?_cons_zero, List.getElem?_cons_succ, List.set_cons_zero, List.set_cons_succ, Bool.not_true, Bool.not_false, reduceIte, Nat.reduceEqDiff, Nat.reduceAdd, Nat.reduceLT, blt_lit, beq_lit, Bool.or_true, Bool.true_or, Bool.or_false, Bool.false_or, Bool.and_true, Bool.true_and, Bool.and_self, cond_true, cond_false, List.append_nil, Iv.eta, Option.map_none, idxO_l0, idxO_l1, decide_true, decide_false, reqs_true, Int.zero_sub, wrap_lit, wrapu_lit, Int.reduceLE, Int.reduceLT, Int.reduceAdd, Int.reduceSub, Int.reduceMul, Int.reduceNeg, Int.reduceEq, Option.bind_some, bin_shr_u64, bin_shl_u64, bin_shr_i64, bin_shl_i64, and_m32', Int.reduceToNat, Int.reducePow, Int.reduceMod, Int.reduceDiv, wrap_u64s, true_or, or_true, true_and, and_true, Option.isSome_none, Option.isSome_some, Nat.reduceLeDiff, Nat.reduceMul, Int.toNat_natCast, Int.cast_ofNat_Int, Int.natCast_zero, Int.natCast_one, List.isEmpty_nil, List.isEmpty_cons, List.replicate_zero, List.replicate_succ, T1, T2, T3, T4, T5, T6, T9, T10, T11, T12, T21, T22, T23, T24, T26, T27, T28, T29, T30, T31, T32, T33, T34, T35, T37, T38, T39, T40, T42, T43, T44, T45, T46, T47, T48, T50, T52, T54, T55, T56, T57, T58, T59, T60, T61, T62, T63, T64, T65, T66, T67, T68, T69, T70, T71, T72, T73, T75, T77, T78, T79, T80, T82, T83, T84, T85, T87, T89, T90, T91, T92, T95, T97, T103, T104, T105, T106, T107, T109, T110, go_turn_eq, again_n, again_r, again_e]
    repeat' (first | with_reducible refine cnd_split (fun hc => ?_) (fun hc => ?_) | with_reducible refine Reqs.mk ?_ ?_)
    all_goals (refine endS_v (t := (divI (Iv.mk a1 a2) (Iv.mk b1 b2))) hr ?_; simp_all [divI, comb, minV, maxV])
  · cases hF

-- quotient
def quotP (n d : Int) : Iv := if (fixFloor n d).2 && (fixCeil n d).2 then mkI (fixFloor n d).1 (fixCeil n d).1 else whole
def quotI (n d : Int) : Iv := if d < 0 then (if n = -9223372036854775808 ∨ d = -9223372036854775808 then whole else quotP (-n) (-d)) else quotP n d
def F_quotI : FT
  | [.c (.p (.int .i64 n)), .c (.p (.int .i64 d))], _ => some (inR n ∧ inR d, .v (.agg [.int .i64 ((quotI n d)).lo, .int .i64 ((quotI n d)).hi]), [])
  | _, _ => none
theorem F_quotI_eq {n : Int} {d : Int} {g : List PC} : F_quotI [.c (.p (.int .i64 n)), .c (.p (.int .i64 d))] g = some (inR n ∧ inR d, .v (.agg [.int .i64 ((quotI n d)).lo, .int .i64 ((quotI n d)).hi]), []) := rfl

theorem quotI_neg {n d : Int} (h : d < 0) (h1 : n ≠ -9223372036854775808) (h2 : d ≠ -9223372036854775808) : quotI n d = if (fixFloor (-n) (-d)).2 && (fixCeil (-n) (-d)).2 then mkI (fixFloor (-n) (-d)).1 (fixCeil (-n) (-d)).1 else whole := by
  unfold quotI
  rw [if_pos h, if_neg (by omega)]; rfl
theorem quotI_pos {n d : Int} (h : ¬ d < 0) : quotI n d = if (fixFloor n d).2 && (fixCeil n d).2 then mkI (fixFloor n d).1 (fixCeil n d).1 else whole := by
  unfold quotI
  rw [if_neg h]; rfl
theorem quotI_edge {n d : Int} (h : d < 0) (h1 : n = -9223372036854775808 ∨ d = -9223372036854775808) : quotI n d = whole := by
  unfold quotI
  rw [if_pos h, if_pos h1]

-- impl.Quotient
theorem impl_Quotient_quotI_ok : Fn Tryz.prog 104 F_quotI := by
  refine fn_of_go (O := orc [⟨71, F_whole, .inl impl_Whole_whole_ok⟩, ⟨141, F_bounded, .inl impl_bounded_bounded_ok⟩, ⟨148, F_fixFloor, .inl impl_FixFloor_fixFloor_ok⟩, ⟨149, F_fixCeil, .inl impl_FixCeil_fixCeil_ok⟩]) mixed T_ok (orc_sound _) Tryz.func104 (by kernel_rfl) rfl Tryz.ntmps104 (by kernel_rfl) Tryz.results104 ?_
  intro args g pre r new hF hpre
  unfold F_quotI at hF
  split at hF
  · rename_i n d
    simp only [Option.some.injEq, Prod.mk.injEq] at hF
    obtain ⟨rfl, hr, rfl⟩ := hF
    refine ⟨by simp, ?_⟩
    simp (config := { maxSteps := 4000000, implicitDefEqProofs := false }) only [F_bounded_eq, F_fixCeil_eq, F_fixFloor_eq, F_whole_eq, WK0, WK1, WK2, WK3, WK4, WK5, WK6, WK7, WK8, WK9, WK10, WK11, WK12, WK13, WK14, WK15, WK16, WK17, WK18, WK19, WK20, WK21, WK22, WK23, WK24, WK25, WK26, WK27, WK28, look_hit, look_miss, List.map_cons, List.map_nil, Nat.add_zero, max_v, min_v, ↓cnd_t, ↓cnd_f, ↓grd_b, ↓grd_u, startEnv, Option.map_some, List.length_nil, List.length_cons, List.nil_append, List.cons_append, List.getElem?_cons_zero, List.getElem?_cons_succ, List.set_cons_zero, List.set_cons_succ, Bool.not_true, Bool.not_false, reduceIte, Nat.reduceEqDiff, Nat.reduceAdd, Nat.reduceLT, blt_lit, beq_lit, Bool.or_true, Bool.true_or, Bool.or_false, Bool.false_or, Bool.and_true, Bool.true_and, Bool.and_self, cond_true, cond_false, List.append_nil, Iv.eta, Option.map_none, idxO_l0, idxO_l1, decide_true, decide_false, reqs_true, Int.zero_sub, wrap_lit, wrapu_lit, Int.reduceLE, Int.reduceLT, Int.reduceAdd, Int.reduceSub, Int.reduceMul, Int.reduceNeg, Int.reduceEq, Option.bind_some, bin_shr_u64, bin_shl_u64, bin_shr_i64, bin_shl_i64, and_m32', Int.reduceToNat, Int.reducePow, Int.reduceMod, Int.reduceDiv, wrap_u64s, true_or, or_true, true_and, and_true, Option.isSome_none, Option.isSome_some, Nat.reduceLeDiff, Nat.reduceMul, Int.toNat_natCast, Int.cast_ofNat_Int, Int.natCast_zero, Int.natCast_one, List.isEmpty_nil, List.isEmpty_cons, List.replicate_zero, List.replicate_succ, T1, T2, T3, T4, T5, T6, T9, T10, T11, T12, T21, T22, T23, T24, T26, T27, T28, T29, T30, T31, T32, T33, T34, T35, T37, T38, T39, T40, T42, T43, T44, T45, T46, T47, T48, T50, T52, T54, T55, T56, T57, T58, T59, T60, T61, T62, T63, T64, T65, T66, T67, T68, T69, T70, T71, T72, T73, T75, T77, T78, T79, T80, T82, T83, T84, T85, T87, T89, T90, T91, T92, T95, T97, T103, T104, T105, T106, T107, T109, T110]
    obtain ⟨hn, hd⟩ := hpre
    unfold inR at hn hd
    repeat' (first | with_reducible refine cnd_split (fun hc => ?_) (fun hc => ?_) | with_reducible refine Reqs.mk ?_ ?_)
    all_goals (try simp only [decide_eq_true_eq, decide_eq_false_iff_not, IntKind.wrap_i64] at *)
    all_goals first
      | (unfold inR; omega)
      | skip
    all_goals (refine endS_v (t := (quotI n d)) hr ?_)
    all_goals first
      | (rw [quotI_edge (by assumption) (by omega)]; done)
      | (have e1 : (-n + 9223372036854775808) % 18446744073709551616 - 9223372036854775808 = -n := by omega
         have e2 : (-d + 9223372036854775808) % 18446744073709551616 - 9223372036854775808 = -d := by omega
         rw [quotI_neg (by assumption) (by omega) (by omega)]
         simp only [e1, e2] at *
         simp_all; done)
      | (rw [quotI_pos (by assumption)]; simp_all; done)
  · cases hF

end Go.Proofs.YtcnapkdccjibpaaGreat.Eng
