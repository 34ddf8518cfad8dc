/- What functions of the program compute, and that the program computes it: part 5. -/
import Derived.Test.YtcnapkdccjibpaaGreatDoorTab
import Derived.Test.YtcnapkdccjibpaaGreatDoorEng16
import Derived.Laws.BitsLemmas
import Derived.Laws.Bits64
import Derived.Laws.Bits64b
import Derived.Lib.Mul64
import Derived.Lib.BitFns
import Derived.Laws.Externs
import Derived.Test.YtcnapkdccjibpaaGreatDoorL1
import Derived.Test.YtcnapkdccjibpaaGreatDoorL2
import Derived.Test.YtcnapkdccjibpaaGreatDoorL4
namespace Go.Proofs.YtcnapkdccjibpaaGreatDoor.Eng
open Go Go.RowKit
set_option linter.unusedVariables false
set_option linter.unusedSimpArgs false
set_option maxRecDepth 100000
set_option maxHeartbeats 1000000
-- fix
def fixOk (n : Int) : Bool := within n (-1152921504606846976) 1152921504606846976
def F_fixOk : FT
  | [.c (.p (.int .i64 n))], _ => some (True, .v (.c (.p (.bool (fixOk n)))), [])
  | _, _ => none
theorem F_fixOk_eq {n : Int} {g : List PC} : F_fixOk [.c (.p (.int .i64 n))] g = some (True, .v (.c (.p (.bool (fixOk n)))), []) := rfl
theorem fixOk_iff {n : Int} : fixOk n = true ↔ -1152921504606846976 ≤ n ∧ n ≤ 1152921504606846976 := within_iff
def fixed (n : Int) (ok : Bool) : Int × Bool := if ok && fixOk n then (n, true) else (0, false)
def F_fixed : FT
  | [.c (.p (.int .i64 n)), .c (.p (.bool ok))], _ => some (True, .tup [.c (.p (.int .i64 ((fixed n ok).1))), .c (.p (.bool ((fixed n ok).2)))], [])
  | _, _ => none
theorem F_fixed_eq {n : Int} {ok : Bool} {g : List PC} : F_fixed [.c (.p (.int .i64 n)), .c (.p (.bool ok))] g = some (True, .tup [.c (.p (.int .i64 ((fixed n ok).1))), .c (.p (.bool ((fixed n ok).2)))], []) := rfl

-- impl.ValidFix
theorem impl_ValidFix_fixOk_ok : Fn Tryz.prog 76 F_fixOk := by
  refine fn_of_go (O := orc [⟨48, F_within, .inl impl_within_within_ok⟩]) mixed T_ok (orc_sound _) Tryz.func76 (by kernel_rfl) rfl Tryz.ntmps76 (by kernel_rfl) Tryz.results76 ?_
  intro args g pre r new hF hpre
  unfold F_fixOk at hF
  split at hF
  · rename_i n
    simp only [Option.some.injEq, Prod.mk.injEq] at hF
    obtain ⟨rfl, hr, rfl⟩ := hF
    refine ⟨by simp, ?_⟩
    simp (config := { maxSteps := 4000000, implicitDefEqProofs := false }) only [F_within_eq, WK0, WK1, WK2, WK3, WK4, WK5, WK6, WK7, WK8, WK9, WK10, WK11, WK12, WK13, WK14, WK15, WK16, WK17, WK18, WK19, WK20, WK21, WK22, WK23, WK24, WK25, WK26, WK27, WK28, WK29, WK30, look_hit, look_miss, List.map_cons, List.map_nil, Nat.add_zero, max_v, min_v, ↓cnd_t, ↓cnd_f, ↓grd_b, ↓grd_u, startEnv, Option.map_some, List.length_nil, List.length_cons, List.nil_append, List.cons_append, List.getElem?_cons_zero, List.getElem?_cons_succ, List.set_cons_zero, List.set_cons_succ, Bool.not_true, Bool.not_false, reduceIte, Nat.reduceEqDiff, Nat.reduceAdd, Nat.reduceLT, blt_lit, beq_lit, Bool.or_true, Bool.true_or, Bool.or_false, Bool.false_or, Bool.and_true, Bool.true_and, Bool.and_self, cond_true, cond_false, List.append_nil, Iv.eta, Option.map_none, idxO_l0, idxO_l1, decide_true, decide_false, reqs_true, Int.zero_sub, wrap_lit, wrapu_lit, Int.reduceLE, Int.reduceLT, Int.reduceAdd, Int.reduceSub, Int.reduceMul, Int.reduceNeg, Int.reduceEq, Option.bind_some, bin_shr_u64, bin_shl_u64, bin_shr_i64, bin_shl_i64, and_m32', Int.reduceToNat, Int.reducePow, Int.reduceMod, Int.reduceDiv, wrap_u64s, true_or, or_true, true_and, and_true, Option.isSome_none, Option.isSome_some, Nat.reduceLeDiff, Nat.reduceMul, Int.toNat_natCast, Int.cast_ofNat_Int, Int.natCast_zero, Int.natCast_one, List.isEmpty_nil, List.isEmpty_cons, List.replicate_zero, List.replicate_succ, T1, T2, T3, T4, T5, T6, T9, T10, T11, T12, T21, T22, T23, T25, T26, T27, T28, T29, T30, T32, T33, T34, T35, T36, T37, T38, T39, T40, T41, T42, T43, T44, T46, T48, T50, T52, T53, T54, T55, T56, T57, T58, T59, T61, T62, T63, T64, T65, T66, T67, T68, T69, T70, T71, T72, T73, T74, T75, T76, T77, T78, T79, T80, T81, T82, T83, T84, T85, T87, T89, T91, T92, T93, T95, T96, T97, T98, T102, T103, T105, T107, T108, T109, T110, T112, T116, T120, T121, T122, T123, T124, T125, T126, T128, T130, T131, T132, T134, T135, T136, T137, T138, T140, T142, T143, T145, T146, T148, T149, T150, T152, T153, T154, T155, T156, T163, T164, T165, T166, T167]
    repeat' (first | with_reducible refine cnd_split (fun hc => ?_) (fun hc => ?_) | with_reducible refine Reqs.mk ?_ ?_)
    exact endS_b (t := (fixOk n)) hr rfl
  · cases hF

-- impl.fixed
theorem impl_fixed_fixed_ok : Fn Tryz.prog 77 F_fixed := by
  refine fn_of_go (O := orc [⟨76, F_fixOk, .inl impl_ValidFix_fixOk_ok⟩]) mixed T_ok (orc_sound _) Tryz.func77 (by kernel_rfl) rfl Tryz.ntmps77 (by kernel_rfl) Tryz.results77 ?_
  intro args g pre r new hF hpre
  unfold F_fixed at hF
  split at hF
  · rename_i n ok
    simp only [Option.some.injEq, Prod.mk.injEq] at hF
    obtain ⟨rfl, hr, rfl⟩ := hF
    refine ⟨by simp, ?_⟩
    simp (config := { maxSteps := 4000000, implicitDefEqProofs := false }) only [F_fixOk_eq, WK0, WK1, WK2, WK3, WK4, WK5, WK6, WK7, WK8, WK9, WK10, WK11, WK12, WK13, WK14, WK15, WK16, WK17, WK18, WK19, WK20, WK21, WK22, WK23, WK24, WK25, WK26, WK27, WK28, WK29, WK30, look_hit, look_miss, List.map_cons, List.map_nil, Nat.add_zero, max_v, min_v, ↓cnd_t, ↓cnd_f, ↓grd_b, ↓grd_u, startEnv, Option.map_some, List.length_nil, List.length_cons, List.nil_append, List.cons_append, List.getElem?_cons_zero, List.getElem?_cons_succ, List.set_cons_zero, List.set_cons_succ, Bool.not_true, Bool.not_false, reduceIte, Nat.reduceEqDiff, Nat.reduceAdd, Nat.reduceLT, blt_lit, beq_lit, Bool.or_true, Bool.true_or, Bool.or_false, Bool.false_or, Bool.and_true, Bool.true_and, Bool.and_self, cond_true, cond_false, List.append_nil, Iv.eta, Option.map_none, idxO_l0, idxO_l1, decide_true, decide_false, reqs_true, Int.zero_sub, wrap_lit, wrapu_lit, Int.reduceLE, Int.reduceLT, Int.reduceAdd, Int.reduceSub, Int.reduceMul, Int.reduceNeg, Int.reduceEq, Option.bind_some, bin_shr_u64, bin_shl_u64, bin_shr_i64, bin_shl_i64, and_m32', Int.reduceToNat, Int.reducePow, Int.reduceMod, Int.reduceDiv, wrap_u64s, true_or, or_true, true_and, and_true, Option.isSome_none, Option.isSome_some, Nat.reduceLeDiff, Nat.reduceMul, Int.toNat_natCast, Int.cast_ofNat_Int, Int.natCast_zero, Int.natCast_one, List.isEmpty_nil, List.isEmpty_cons, List.replicate_zero, List.replicate_succ, T1, T2, T3, T4, T5, T6, T9, T10, T11, T12, T21, T22, T23, T25, T26, T27, T28, T29, T30, T32, T33, T34, T35, T36, T37, T38, T39, T40, T41, T42, T43, T44, T46, T48, T50, T52, T53, T54, T55, T56, T57, T58, T59, T61, T62, T63, T64, T65, T66, T67, T68, T69, T70, T71, T72, T73, T74, T75, T76, T77, T78, T79, T80, T81, T82, T83, T84, T85, T87, T89, T91, T92, T93, T95, T96, T97, T98, T102, T103, T105, T107, T108, T109, T110, T112, T116, T120, T121, T122, T123, T124, T125, T126, T128, T130, T131, T132, T134, T135, T136, T137, T138, T140, T142, T143, T145, T146, T148, T149, T150, T152, T153, T154, T155, T156, T163, T164, T165, T166, T167]
    repeat' (first | with_reducible refine cnd_split (fun hc => ?_) (fun hc => ?_) | with_reducible refine Reqs.mk ?_ ?_)
    all_goals (first | trivial | (refine endS_ib (t := (fixed n ok)) hr ?_; try simp_all [fixed]))
    all_goals (try simp only [okI_mk, within_iff] at *)
    all_goals (try simp (disch := omega) only [wrap_om, wrapu_om, mkI_lin])
    all_goals (try simp_all [fixed])
    all_goals (try omega)
  · cases hF

-- mulDown
def mulDown (a b : Int) : Int × Bool := if fixOk a && fixOk b then fixed (mulFloor a b 32).1 (mulFloor a b 32).2 else (0, false)
def F_mulDown : FT
  | [.c (.p (.int .i64 a)), .c (.p (.int .i64 b))], _ => some (True, .tup [.c (.p (.int .i64 ((mulDown a b).1))), .c (.p (.bool ((mulDown a b).2)))], [])
  | _, _ => none
theorem F_mulDown_eq {a : Int} {b : Int} {g : List PC} : F_mulDown [.c (.p (.int .i64 a)), .c (.p (.int .i64 b))] g = some (True, .tup [.c (.p (.int .i64 ((mulDown a b).1))), .c (.p (.bool ((mulDown a b).2)))], []) := rfl
theorem fixed_bd (n : Int) (ok : Bool) : -1152921504606846976 ≤ (fixed n ok).1 ∧ (fixed n ok).1 ≤ 1152921504606846976 := by
  unfold fixed
  split
  · rename_i h
    simp only [Bool.and_eq_true, fixOk_iff] at h
    simp only; omega
  · simp only; omega
theorem mulDown_bd (a b : Int) : -1152921504606846976 ≤ (mulDown a b).1 ∧ (mulDown a b).1 ≤ 1152921504606846976 := by
  unfold mulDown
  split
  · exact fixed_bd _ _
  · simp only; omega
theorem fix_in {n : Int} (h : fixOk n = true) : inR n := by rw [fixOk_iff] at h; unfold inR; omega

-- impl.MulDown
theorem impl_MulDown_mulDown_ok : Fn Tryz.prog 51 F_mulDown := by
  refine fn_of_go (O := orc [⟨76, F_fixOk, .inl impl_ValidFix_fixOk_ok⟩, ⟨77, F_fixed, .inl impl_fixed_fixed_ok⟩, ⟨78, F_mulFloor, .inl impl_MulFloor_mulFloor_ok⟩]) mixed T_ok (orc_sound _) Tryz.func51 (by kernel_rfl) rfl Tryz.ntmps51 (by kernel_rfl) Tryz.results51 ?_
  intro args g pre r new hF hpre
  unfold F_mulDown at hF
  split at hF
  · rename_i a b
    simp only [Option.some.injEq, Prod.mk.injEq] at hF
    obtain ⟨rfl, hr, rfl⟩ := hF
    refine ⟨by simp, ?_⟩
    simp (config := { maxSteps := 4000000, implicitDefEqProofs := false }) only [F_fixOk_eq, F_fixed_eq, F_mulFloor_eq, WK0, WK1, WK2, WK3, WK4, WK5, WK6, WK7, WK8, WK9, WK10, WK11, WK12, WK13, WK14, WK15, WK16, WK17, WK18, WK19, WK20, WK21, WK22, WK23, WK24, WK25, WK26, WK27, WK28, WK29, WK30, look_hit, look_miss, List.map_cons, List.map_nil, Nat.add_zero, max_v, min_v, ↓cnd_t, ↓cnd_f, ↓grd_b, ↓grd_u, startEnv, Option.map_some, List.length_nil, List.length_cons, List.nil_append, List.cons_append, List.getElem?_cons_zero, List.getElem?_cons_succ, List.set_cons_zero, List.set_cons_succ, Bool.not_true, Bool.not_false, reduceIte, Nat.reduceEqDiff, Nat.reduceAdd, Nat.reduceLT, blt_lit, beq_lit, Bool.or_true, Bool.true_or, Bool.or_false, Bool.false_or, Bool.and_true, Bool.true_and, Bool.and_self, cond_true, cond_false, List.append_nil, Iv.eta, Option.map_none, idxO_l0, idxO_l1, decide_true, decide_false, reqs_true, Int.zero_sub, wrap_lit, wrapu_lit, Int.reduceLE, Int.reduceLT, Int.reduceAdd, Int.reduceSub, Int.reduceMul, Int.reduceNeg, Int.reduceEq, Option.bind_some, bin_shr_u64, bin_shl_u64, bin_shr_i64, bin_shl_i64, and_m32', Int.reduceToNat, Int.reducePow, Int.reduceMod, Int.reduceDiv, wrap_u64s, true_or, or_true, true_and, and_true, Option.isSome_none, Option.isSome_some, Nat.reduceLeDiff, Nat.reduceMul, Int.toNat_natCast, Int.cast_ofNat_Int, Int.natCast_zero, Int.natCast_one, List.isEmpty_nil, List.isEmpty_cons, List.replicate_zero, List.replicate_succ, T1, T2, T3, T4, T5, T6, T9, T10, T11, T12, T21, T22, T23, T25, T26, T27, T28, T29, T30, T32, T33, T34, T35, T36, T37, T38, T39, T40, T41, T42, T43, T44, T46, T48, T50, T52, T53, T54, T55, T56, T57, T58, T59, T61, T62, T63, T64, T65, T66, T67, T68, T69, T70, T71, T72, T73, T74, T75, T76, T77, T78, T79, T80, T81, T82, T83, T84, T85, T87, T89, T91, T92, T93, T95, T96, T97, T98, T102, T103, T105, T107, T108, T109, T110, T112, T116, T120, T121, T122, T123, T124, T125, T126, T128, T130, T131, T132, T134, T135, T136, T137, T138, T140, T142, T143, T145, T146, T148, T149, T150, T152, T153, T154, T155, T156, T163, T164, T165, T166, T167]
    repeat' (first | with_reducible refine cnd_split (fun hc => ?_) (fun hc => ?_) | with_reducible refine Reqs.mk ?_ ?_)
    all_goals first
      | exact ⟨fix_in (by assumption), fix_in (by assumption)⟩
      | (refine endS_ib (t := (mulDown a b)) hr ?_; simp_all [mulDown])
  · cases hF

-- mulUp
def mulUp (a b : Int) : Int × Bool := if fixOk a && fixOk b then (-(mulDown (-a) b).1, (mulDown (-a) b).2) else (0, false)
def F_mulUp : FT
  | [.c (.p (.int .i64 a)), .c (.p (.int .i64 b))], _ => some (inR a, .tup [.c (.p (.int .i64 ((mulUp a b).1))), .c (.p (.bool ((mulUp a b).2)))], [])
  | _, _ => none
theorem F_mulUp_eq {a : Int} {b : Int} {g : List PC} : F_mulUp [.c (.p (.int .i64 a)), .c (.p (.int .i64 b))] g = some (inR a, .tup [.c (.p (.int .i64 ((mulUp a b).1))), .c (.p (.bool ((mulUp a b).2)))], []) := rfl
theorem mulDown_f {a b : Int} (h : fixOk b = false) : mulDown a b = (0, false) := by simp [mulDown, h]
theorem mulDown_n {a b : Int} (h : (mulDown a b).2 = false) : (mulDown a b).1 = 0 := by
  unfold mulDown fixed at *
  split
  · rename_i h1
    rw [if_pos h1] at h
    split
    · rename_i h2; rw [if_pos h2] at h; cases h
    · rfl
  · rfl
theorem wneg {a : Int} (h : fixOk a = true) : IntKind.i64.wrap (-a) = -a := by
  rw [fixOk_iff] at h; exact wrap_om (by omega) (by omega)
theorem wnegD {a b : Int} : IntKind.i64.wrap (-(mulDown a b).1) = -(mulDown a b).1 := by
  have := mulDown_bd a b; exact wrap_om (by omega) (by omega)
theorem mulUp_bd (a b : Int) : -1152921504606846976 ≤ (mulUp a b).1 ∧ (mulUp a b).1 ≤ 1152921504606846976 := by
  unfold mulUp
  have := mulDown_bd (-a) b
  split <;> simp only <;> omega

-- impl.MulUp
theorem impl_MulUp_mulUp_ok : Fn Tryz.prog 52 F_mulUp := by
  refine fn_of_go (O := orc [⟨51, F_mulDown, .inl impl_MulDown_mulDown_ok⟩, ⟨76, F_fixOk, .inl impl_ValidFix_fixOk_ok⟩]) mixed T_ok (orc_sound _) Tryz.func52 (by kernel_rfl) rfl Tryz.ntmps52 (by kernel_rfl) Tryz.results52 ?_
  intro args g pre r new hF hpre
  unfold F_mulUp at hF
  split at hF
  · rename_i a b
    simp only [Option.some.injEq, Prod.mk.injEq] at hF
    obtain ⟨rfl, hr, rfl⟩ := hF
    refine ⟨by simp, ?_⟩
    simp (config := { maxSteps := 4000000, implicitDefEqProofs := false }) only [F_fixOk_eq, F_mulDown_eq, WK0, WK1, WK2, WK3, WK4, WK5, WK6, WK7, WK8, WK9, WK10, WK11, WK12, WK13, WK14, WK15, WK16, WK17, WK18, WK19, WK20, WK21, WK22, WK23, WK24, WK25, WK26, WK27, WK28, WK29, WK30, look_hit, look_miss, List.map_cons, List.map_nil, Nat.add_zero, max_v, min_v, ↓cnd_t, ↓cnd_f, ↓grd_b, ↓grd_u, startEnv, Option.map_some, List.length_nil, List.length_cons, List.nil_append, List.cons_append, List.getElem?_cons_zero, List.getElem?_cons_succ, List.set_cons_zero, List.set_cons_succ, Bool.not_true, Bool.not_false, reduceIte, Nat.reduceEqDiff, Nat.reduceAdd, Nat.reduceLT, blt_lit, beq_lit, Bool.or_true, Bool.true_or, Bool.or_false, Bool.false_or, Bool.and_true, Bool.true_and, Bool.and_self, cond_true, cond_false, List.append_nil, Iv.eta, Option.map_none, idxO_l0, idxO_l1, decide_true, decide_false, reqs_true, Int.zero_sub, wrap_lit, wrapu_lit, Int.reduceLE, Int.reduceLT, Int.reduceAdd, Int.reduceSub, Int.reduceMul, Int.reduceNeg, Int.reduceEq, Option.bind_some, bin_shr_u64, bin_shl_u64, bin_shr_i64, bin_shl_i64, and_m32', Int.reduceToNat, Int.reducePow, Int.reduceMod, Int.reduceDiv, wrap_u64s, true_or, or_true, true_and, and_true, Option.isSome_none, Option.isSome_some, Nat.reduceLeDiff, Nat.reduceMul, Int.toNat_natCast, Int.cast_ofNat_Int, Int.natCast_zero, Int.natCast_one, List.isEmpty_nil, List.isEmpty_cons, List.replicate_zero, List.replicate_succ, T1, T2, T3, T4, T5, T6, T9, T10, T11, T12, T21, T22, T23, T25, T26, T27, T28, T29, T30, T32, T33, T34, T35, T36, T37, T38, T39, T40, T41, T42, T43, T44, T46, T48, T50, T52, T53, T54, T55, T56, T57, T58, T59, T61, T62, T63, T64, T65, T66, T67, T68, T69, T70, T71, T72, T73, T74, T75, T76, T77, T78, T79, T80, T81, T82, T83, T84, T85, T87, T89, T91, T92, T93, T95, T96, T97, T98, T102, T103, T105, T107, T108, T109, T110, T112, T116, T120, T121, T122, T123, T124, T125, T126, T128, T130, T131, T132, T134, T135, T136, T137, T138, T140, T142, T143, T145, T146, T148, T149, T150, T152, T153, T154, T155, T156, T163, T164, T165, T166, T167]
    repeat' (first | with_reducible refine cnd_split (fun hc => ?_) (fun hc => ?_) | with_reducible refine Reqs.mk ?_ ?_)
    all_goals (refine endS_ib (t := (mulUp a b)) hr ?_; first | (simp_all [mulUp]; done) | skip)
    rw [wnegD, wneg (by assumption)]
    simp_all [mulUp]
  · cases hF

-- mulI
def comb (d u : Int → Int → Int × Bool) (a b : Iv) : Iv :=
  if (d a.lo b.lo).2 && (u a.lo b.lo).2 && (d a.lo b.hi).2 && (u a.lo b.hi).2 && (d a.hi b.lo).2 && (u a.hi b.lo).2 && (d a.hi b.hi).2 && (u a.hi b.hi).2 then
    mkI (min (min (min (d a.lo b.lo).1 (d a.lo b.hi).1) (d a.hi b.lo).1) (d a.hi b.hi).1) (max (max (max (u a.lo b.lo).1 (u a.lo b.hi).1) (u a.hi b.lo).1) (u a.hi b.hi).1)
  else whole
def mulI (a b : Iv) : Iv := if okI a && okI b then comb mulDown mulUp a b else whole
def F_combM : FT
  | [.agg [.int .i64 a1, .int .i64 a2], .agg [.int .i64 b1, .int .i64 b2], .c (.p (.fn 51)), .c (.p (.fn 52))], _ => some (inR a1 ∧ inR a2 ∧ inR b1 ∧ inR b2, .v (.agg [.int .i64 ((comb mulDown mulUp (Iv.mk a1 a2) (Iv.mk b1 b2))).lo, .int .i64 ((comb mulDown mulUp (Iv.mk a1 a2) (Iv.mk b1 b2))).hi]), [])
  | _, _ => none
theorem F_combM_eq {a1 : Int} {a2 : Int} {b1 : Int} {b2 : Int} {g : List PC} : F_combM [.agg [.int .i64 a1, .int .i64 a2], .agg [.int .i64 b1, .int .i64 b2], .c (.p (.fn 51)), .c (.p (.fn 52))] g = some (inR a1 ∧ inR a2 ∧ inR b1 ∧ inR b2, .v (.agg [.int .i64 ((comb mulDown mulUp (Iv.mk a1 a2) (Iv.mk b1 b2))).lo, .int .i64 ((comb mulDown mulUp (Iv.mk a1 a2) (Iv.mk b1 b2))).hi]), []) := rfl
def F_mulI : FT
  | [.agg [.int .i64 a1, .int .i64 a2], .agg [.int .i64 b1, .int .i64 b2]], _ => some (True, .v (.agg [.int .i64 ((mulI (Iv.mk a1 a2) (Iv.mk b1 b2))).lo, .int .i64 ((mulI (Iv.mk a1 a2) (Iv.mk b1 b2))).hi]), [])
  | _, _ => none
theorem F_mulI_eq {a1 : Int} {a2 : Int} {b1 : Int} {b2 : Int} {g : List PC} : F_mulI [.agg [.int .i64 a1, .int .i64 a2], .agg [.int .i64 b1, .int .i64 b2]] g = some (True, .v (.agg [.int .i64 ((mulI (Iv.mk a1 a2) (Iv.mk b1 b2))).lo, .int .i64 ((mulI (Iv.mk a1 a2) (Iv.mk b1 b2))).hi]), []) := rfl

theorem minD {a b : Int} : min 1152921504606846976 (mulDown a b).1 = (mulDown a b).1 := by
  have := mulDown_bd a b; omega
theorem maxU {a b : Int} : max (-1152921504606846976) (mulUp a b).1 = (mulUp a b).1 := by
  have := mulUp_bd a b; omega

-- impl.combine
theorem impl_combine_combM_ok : Fn Tryz.prog 50 F_combM := by
  refine fn_of_go (O := orc [⟨36, F_whole, .inl impl_Whole_whole_ok⟩, ⟨51, F_mulDown, .inl impl_MulDown_mulDown_ok⟩, ⟨52, F_mulUp, .inl impl_MulUp_mulUp_ok⟩, ⟨57, F_bounded, .inl impl_bounded_bounded_ok⟩]) mixed T_ok (orc_sound _) Tryz.func50 (by kernel_rfl) rfl Tryz.ntmps50 (by kernel_rfl) Tryz.results50 ?_
  intro args g pre r new hF hpre
  unfold F_combM at hF
  split at hF
  · rename_i a1 a2 b1 b2
    simp only [Option.some.injEq, Prod.mk.injEq] at hF
    obtain ⟨rfl, hr, rfl⟩ := hF
    refine ⟨by simp, ?_⟩
    simp (config := { maxSteps := 4000000, implicitDefEqProofs := false }) only [F_bounded_eq, F_mulDown_eq, F_mulUp_eq, F_whole_eq, WK0, WK1, WK2, WK3, WK4, WK5, WK6, WK7, WK8, WK9, WK10, WK11, WK12, WK13, WK14, WK15, WK16, WK17, WK18, WK19, WK20, WK21, WK22, WK23, WK24, WK25, WK26, WK27, WK28, WK29, WK30, look_hit, look_miss, List.map_cons, List.map_nil, Nat.add_zero, max_v, min_v, ↓cnd_t, ↓cnd_f, ↓grd_b, ↓grd_u, startEnv, Option.map_some, List.length_nil, List.length_cons, List.nil_append, List.cons_append, List.getElem?_cons_zero, List.getElem?_cons_succ, List.set_cons_zero, List.set_cons_succ, Bool.not_true, Bool.not_false, reduceIte, Nat.reduceEqDiff, Nat.reduceAdd, Nat.reduceLT, blt_lit, beq_lit, Bool.or_true, Bool.true_or, Bool.or_false, Bool.false_or, Bool.and_true, Bool.true_and, Bool.and_self, cond_true, cond_false, List.append_nil, Iv.eta, Option.map_none, idxO_l0, idxO_l1, decide_true, decide_false, reqs_true, Int.zero_sub, wrap_lit, wrapu_lit, Int.reduceLE, Int.reduceLT, Int.reduceAdd, Int.reduceSub, Int.reduceMul, Int.reduceNeg, Int.reduceEq, Option.bind_some, bin_shr_u64, bin_shl_u64, bin_shr_i64, bin_shl_i64, and_m32', Int.reduceToNat, Int.reducePow, Int.reduceMod, Int.reduceDiv, wrap_u64s, true_or, or_true, true_and, and_true, Option.isSome_none, Option.isSome_some, Nat.reduceLeDiff, Nat.reduceMul, Int.toNat_natCast, Int.cast_ofNat_Int, Int.natCast_zero, Int.natCast_one, List.isEmpty_nil, List.isEmpty_cons, List.replicate_zero, List.replicate_succ, T1, T2, T3, T4, T5, T6, T9, T10, T11, T12, T21, T22, T23, T25, T26, T27, T28, T29, T30, T32, T33, T34, T35, T36, T37, T38, T39, T40, T41, T42, T43, T44, T46, T48, T50, T52, T53, T54, T55, T56, T57, T58, T59, T61, T62, T63, T64, T65, T66, T67, T68, T69, T70, T71, T72, T73, T74, T75, T76, T77, T78, T79, T80, T81, T82, T83, T84, T85, T87, T89, T91, T92, T93, T95, T96, T97, T98, T102, T103, T105, T107, T108, T109, T110, T112, T116, T120, T121, T122, T123, T124, T125, T126, T128, T130, T131, T132, T134, T135, T136, T137, T138, T140, T142, T143, T145, T146, T148, T149, T150, T152, T153, T154, T155, T156, T163, T164, T165, T166, T167]
    try simp (config := { maxSteps := 4000000, implicitDefEqProofs := false }) only [F_bounded_eq, F_mulDown_eq, F_mulUp_eq, F_whole_eq, WK0, WK1, WK2, WK3, WK4, WK5, WK6, WK7, WK8, WK9, WK10, WK11, WK12, WK13, WK14, WK15, WK16, WK17, WK18, WK19, WK20, WK21, WK22, WK23, WK24, WK25, WK26, WK27, WK28, WK29, WK30, look_hit, look_miss, List.map_cons, List.map_nil, Nat.add_zero, max_v, min_v, ↓cnd_t, ↓cnd_f, ↓grd_b, ↓grd_u, startEnv, Option.map_some, List.length_nil, List.length_cons, List.nil_append, List.cons_append, List.getElem?_cons_zero, List.getElem?_cons_succ, List.set_cons_zero, List.set_cons_succ, Bool.not_true, Bool.not_false, reduceIte, Nat.reduceEqDiff, Nat.reduceAdd, Nat.reduceLT, blt_lit, beq_lit, Bool.or_true, Bool.true_or, Bool.or_false, Bool.false_or, Bool.and_true, Bool.true_and, Bool.and_self, cond_true, cond_false, List.append_nil, Iv.eta, Option.map_none, idxO_l0, idxO_l1, decide_true, decide_false, reqs_true, Int.zero_sub, wrap_lit, wrapu_lit, Int.reduceLE, Int.reduceLT, Int.reduceAdd, Int.reduceSub, Int.reduceMul, Int.reduceNeg, Int.reduceEq, Option.bind_some, bin_shr_u64, bin_shl_u64, bin_shr_i64, bin_shl_i64, and_m32', Int.reduceToNat, Int.reducePow, Int.reduceMod, Int.reduceDiv, wrap_u64s, true_or, or_true, true_and, and_true, Option.isSome_none, Option.isSome_some, Nat.reduceLeDiff, Nat.reduceMul, Int.toNat_natCast, Int.cast_ofNat_Int, Int.natCast_zero, Int.natCast_one, List.isEmpty_nil, List.isEmpty_cons, List.replicate_zero, List.replicate_succ, T1, T2, T3, T4, T5, T6, T9, T10, T11, T12, T21, T22, T23, T25, T26, T27, T28, T29, T30, T32, T33, T34, T35, T36, T37, T38, T39, T40, T41, T42, T43, T44, T46, T48, T50, T52, T53, T54, T55, T56, T57, T58, T59, T61, T62, T63, T64, T65, T66, T67, T68, T69, T70, T71, T72, T73, T74, T75, T76, T77, T78, T79, T80, T81, T82, T83, T84, T85, T87, T89, T91, T92, T93, T95, T96, T97, T98, T102, T103, T105, T107, T108, T109, T110, T112, T116, T120, T121, T122, T123, T124, T125, T126, T128, T130, T131, T132, T134, T135, T136, T137, T138, T140, T142, T143, T145, T146, T148, T149, T150, T152, T153, T154, T155, T156, T163, T164, T165, T166, T167, go_turn_eq, again_n, again_r, again_e]
    repeat' (first | with_reducible refine cnd_split (fun hc => ?_) (fun hc => ?_) | with_reducible refine Reqs.mk ?_ ?_)
    all_goals first
      | exact hpre.1
      | exact hpre.2.1
      | (refine endS_v (t := (comb mulDown mulUp (Iv.mk a1 a2) (Iv.mk b1 b2))) hr ?_; simp_all [comb, Int.min_self, Int.max_self])
  · cases hF

-- impl.MulI
theorem impl_MulI_mulI_ok : Fn Tryz.prog 13 F_mulI := by
  refine fn_of_go (O := orc [⟨36, F_whole, .inl impl_Whole_whole_ok⟩, ⟨49, F_areOk, .inl impl_areBounded_areOk_ok⟩, ⟨50, F_combM, .inl impl_combine_combM_ok⟩, ⟨51, F_mulDown, .inl impl_MulDown_mulDown_ok⟩, ⟨52, F_mulUp, .inl impl_MulUp_mulUp_ok⟩]) mixed T_ok (orc_sound _) Tryz.func13 (by kernel_rfl) rfl Tryz.ntmps13 (by kernel_rfl) Tryz.results13 ?_
  intro args g pre r new hF hpre
  unfold F_mulI at hF
  split at hF
  · rename_i a1 a2 b1 b2
    simp only [Option.some.injEq, Prod.mk.injEq] at hF
    obtain ⟨rfl, hr, rfl⟩ := hF
    refine ⟨by simp, ?_⟩
    simp (config := { maxSteps := 4000000, implicitDefEqProofs := false }) only [F_areOk_eq, F_combM_eq, F_mulDown_eq, F_mulUp_eq, F_whole_eq, WK0, WK1, WK2, WK3, WK4, WK5, WK6, WK7, WK8, WK9, WK10, WK11, WK12, WK13, WK14, WK15, WK16, WK17, WK18, WK19, WK20, WK21, WK22, WK23, WK24, WK25, WK26, WK27, WK28, WK29, WK30, look_hit, look_miss, List.map_cons, List.map_nil, Nat.add_zero, max_v, min_v, ↓cnd_t, ↓cnd_f, ↓grd_b, ↓grd_u, startEnv, Option.map_some, List.length_nil, List.length_cons, List.nil_append, List.cons_append, List.getElem?_cons_zero, List.getElem?_cons_succ, List.set_cons_zero, List.set_cons_succ, Bool.not_true, Bool.not_false, reduceIte, Nat.reduceEqDiff, Nat.reduceAdd, Nat.reduceLT, blt_lit, beq_lit, Bool.or_true, Bool.true_or, Bool.or_false, Bool.false_or, Bool.and_true, Bool.true_and, Bool.and_self, cond_true, cond_false, List.append_nil, Iv.eta, Option.map_none, idxO_l0, idxO_l1, decide_true, decide_false, reqs_true, Int.zero_sub, wrap_lit, wrapu_lit, Int.reduceLE, Int.reduceLT, Int.reduceAdd, Int.reduceSub, Int.reduceMul, Int.reduceNeg, Int.reduceEq, Option.bind_some, bin_shr_u64, bin_shl_u64, bin_shr_i64, bin_shl_i64, and_m32', Int.reduceToNat, Int.reducePow, Int.reduceMod, Int.reduceDiv, wrap_u64s, true_or, or_true, true_and, and_true, Option.isSome_none, Option.isSome_some, Nat.reduceLeDiff, Nat.reduceMul, Int.toNat_natCast, Int.cast_ofNat_Int, Int.natCast_zero, Int.natCast_one, List.isEmpty_nil, List.isEmpty_cons, List.replicate_zero, List.replicate_succ, T1, T2, T3, T4, T5, T6, T9, T10, T11, T12, T21, T22, T23, T25, T26, T27, T28, T29, T30, T32, T33, T34, T35, T36, T37, T38, T39, T40, T41, T42, T43, T44, T46, T48, T50, T52, T53, T54, T55, T56, T57, T58, T59, T61, T62, T63, T64, T65, T66, T67, T68, T69, T70, T71, T72, T73, T74, T75, T76, T77, T78, T79, T80, T81, T82, T83, T84, T85, T87, T89, T91, T92, T93, T95, T96, T97, T98, T102, T103, T105, T107, T108, T109, T110, T112, T116, T120, T121, T122, T123, T124, T125, T126, T128, T130, T131, T132, T134, T135, T136, T137, T138, T140, T142, T143, T145, T146, T148, T149, T150, T152, T153, T154, T155, T156, T163, T164, T165, T166, T167]
    repeat' (first | with_reducible refine cnd_split (fun hc => ?_) (fun hc => ?_) | with_reducible refine Reqs.mk ?_ ?_)
    all_goals (have hk := hc; first | rw [Bool.and_eq_true, okI_mk, okI_mk] at hk | skip)
    all_goals first
      | (unfold inR; omega)
      | (refine endS_v (t := (mulI (Iv.mk a1 a2) (Iv.mk b1 b2))) hr ?_; simp_all [mulI])
  · cases hF

-- sqrI
def sqrI (a : Iv) : Iv := if okI a then (if (mulDown (absI a).lo (absI a).lo).2 && (mulUp (absI a).hi (absI a).hi).2 then mkI (mulDown (absI a).lo (absI a).lo).1 (mulUp (absI a).hi (absI a).hi).1 else whole) else whole
def F_sqrI : FT
  | [.agg [.int .i64 a1, .int .i64 a2]], _ => some (True, .v (.agg [.int .i64 ((sqrI (Iv.mk a1 a2))).lo, .int .i64 ((sqrI (Iv.mk a1 a2))).hi]), [])
  | _, _ => none
theorem F_sqrI_eq {a1 : Int} {a2 : Int} {g : List PC} : F_sqrI [.agg [.int .i64 a1, .int .i64 a2]] g = some (True, .v (.agg [.int .i64 ((sqrI (Iv.mk a1 a2))).lo, .int .i64 ((sqrI (Iv.mk a1 a2))).hi]), []) := rfl
theorem absI_in {a : Iv} : inR (absI a).hi := by
  unfold absI
  cases h : okI a with
  | false => simp only [Bool.false_eq_true, if_false, whole]; unfold inR; omega
  | true =>
    rw [okI_iff] at h
    simp only [if_true, farI, absZ, inR]
    repeat' split
    all_goals omega

-- impl.SqrI
theorem impl_SqrI_sqrI_ok : Fn Tryz.prog 16 F_sqrI := by
  refine fn_of_go (O := orc [⟨17, F_absI, .inl impl_AbsI_absI_ok⟩, ⟨36, F_whole, .inl impl_Whole_whole_ok⟩, ⟨47, F_notOk, .inl impl_IsWhole_notOk_ok⟩, ⟨51, F_mulDown, .inl impl_MulDown_mulDown_ok⟩, ⟨52, F_mulUp, .inl impl_MulUp_mulUp_ok⟩, ⟨57, F_bounded, .inl impl_bounded_bounded_ok⟩]) mixed T_ok (orc_sound _) Tryz.func16 (by kernel_rfl) rfl Tryz.ntmps16 (by kernel_rfl) Tryz.results16 ?_
  intro args g pre r new hF hpre
  unfold F_sqrI at hF
  split at hF
  · rename_i a1 a2
    simp only [Option.some.injEq, Prod.mk.injEq] at hF
    obtain ⟨rfl, hr, rfl⟩ := hF
    refine ⟨by simp, ?_⟩
    simp (config := { maxSteps := 4000000, implicitDefEqProofs := false }) only [F_absI_eq, F_bounded_eq, F_mulDown_eq, F_mulUp_eq, F_notOk_eq, F_whole_eq, WK0, WK1, WK2, WK3, WK4, WK5, WK6, WK7, WK8, WK9, WK10, WK11, WK12, WK13, WK14, WK15, WK16, WK17, WK18, WK19, WK20, WK21, WK22, WK23, WK24, WK25, WK26, WK27, WK28, WK29, WK30, look_hit, look_miss, List.map_cons, List.map_nil, Nat.add_zero, max_v, min_v, ↓cnd_t, ↓cnd_f, ↓grd_b, ↓grd_u, startEnv, Option.map_some, List.length_nil, List.length_cons, List.nil_append, List.cons_append, List.getElem?_cons_zero, List.getElem?_cons_succ, List.set_cons_zero, List.set_cons_succ, Bool.not_true, Bool.not_false, reduceIte, Nat.reduceEqDiff, Nat.reduceAdd, Nat.reduceLT, blt_lit, beq_lit, Bool.or_true, Bool.true_or, Bool.or_false, Bool.false_or, Bool.and_true, Bool.true_and, Bool.and_self, cond_true, cond_false, List.append_nil, Iv.eta, Option.map_none, idxO_l0, idxO_l1, decide_true, decide_false, reqs_true, Int.zero_sub, wrap_lit, wrapu_lit, Int.reduceLE, Int.reduceLT, Int.reduceAdd, Int.reduceSub, Int.reduceMul, Int.reduceNeg, Int.reduceEq, Option.bind_some, bin_shr_u64, bin_shl_u64, bin_shr_i64, bin_shl_i64, and_m32', Int.reduceToNat, Int.reducePow, Int.reduceMod, Int.reduceDiv, wrap_u64s, true_or, or_true, true_and, and_true, Option.isSome_none, Option.isSome_some, Nat.reduceLeDiff, Nat.reduceMul, Int.toNat_natCast, Int.cast_ofNat_Int, Int.natCast_zero, Int.natCast_one, List.isEmpty_nil, List.isEmpty_cons, List.replicate_zero, List.replicate_succ, T1, T2, T3, T4, T5, T6, T9, T10, T11, T12, T21, T22, T23, T25, T26, T27, T28, T29, T30, T32, T33, T34, T35, T36, T37, T38, T39, T40, T41, T42, T43, T44, T46, T48, T50, T52, T53, T54, T55, T56, T57, T58, T59, T61, T62, T63, T64, T65, T66, T67, T68, T69, T70, T71, T72, T73, T74, T75, T76, T77, T78, T79, T80, T81, T82, T83, T84, T85, T87, T89, T91, T92, T93, T95, T96, T97, T98, T102, T103, T105, T107, T108, T109, T110, T112, T116, T120, T121, T122, T123, T124, T125, T126, T128, T130, T131, T132, T134, T135, T136, T137, T138, T140, T142, T143, T145, T146, T148, T149, T150, T152, T153, T154, T155, T156, T163, T164, T165, T166, T167]
    repeat' (first | with_reducible refine cnd_split (fun hc => ?_) (fun hc => ?_) | with_reducible refine Reqs.mk ?_ ?_)
    all_goals first
      | exact absI_in
      | (refine endS_v (t := (sqrI (Iv.mk a1 a2))) hr ?_; simp_all [sqrI])
  · cases hF

end Go.Proofs.YtcnapkdccjibpaaGreatDoor.Eng
