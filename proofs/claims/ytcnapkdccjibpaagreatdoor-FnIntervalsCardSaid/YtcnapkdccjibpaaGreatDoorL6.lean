/- What functions of the program compute, and that the program computes it: part 6. -/
import Derived.Test.YtcnapkdccjibpaaGreatDoorTab
import Derived.Test.YtcnapkdccjibpaaGreatDoorEng16
import Derived.Laws.BitsLemmas
import Derived.Laws.Bits64
import Derived.Laws.Bits64b
import Derived.Lib.Mul64
import Derived.Lib.BitFns
import Derived.Laws.Externs
import Derived.Test.YtcnapkdccjibpaaGreatDoorL1
import Derived.Test.YtcnapkdccjibpaaGreatDoorL2
import Derived.Test.YtcnapkdccjibpaaGreatDoorL4
import Derived.Test.YtcnapkdccjibpaaGreatDoorL5
namespace Go.Proofs.YtcnapkdccjibpaaGreatDoor.Eng
open Go Go.RowKit
set_option linter.unusedVariables false
set_option linter.unusedSimpArgs false
set_option maxRecDepth 100000
set_option maxHeartbeats 1000000
-- sqrtDown
def sqrtDown (a : Int) : Int × Bool := if within a 0 1152921504606846976 then (rootW (a * 4294967296), true) else (0, false)
def F_sqrtDown : FT
  | [.c (.p (.int .i64 a))], _ => some (True, .tup [.c (.p (.int .i64 ((sqrtDown a).1))), .c (.p (.bool ((sqrtDown a).2)))], [])
  | _, _ => none
theorem F_sqrtDown_eq {a : Int} {g : List PC} : F_sqrtDown [.c (.p (.int .i64 a))] g = some (True, .tup [.c (.p (.int .i64 ((sqrtDown a).1))), .c (.p (.bool ((sqrtDown a).2)))], []) := rfl
theorem root_bd {a : Int} (h0 : 0 ≤ a) (h1 : a ≤ 1152921504606846976) : 0 ≤ rootW (a * 4294967296) ∧ rootW (a * 4294967296) ≤ 70368744177664 := by
  refine ⟨rootW_nonneg _, ?_⟩
  have hs := rootW_spec (w := a * 4294967296) (by omega) (by omega)
  apply Int.le_of_not_gt
  intro hgt
  have := Int.mul_le_mul (a := 70368744177665) (b := 70368744177665) (c := rootW (a * 4294967296)) (d := rootW (a * 4294967296)) (by omega) (by omega) (by omega) (by omega)
  omega
theorem sqrtDown_f {a : Int} (h : fixOk a = true) : fixed (sqrtFloor a 4294967296).1 (sqrtFloor a 4294967296).2 = sqrtDown a := by
  rw [fixOk_iff] at h
  unfold sqrtFloor sqrtDown
  by_cases h0 : 0 ≤ a
  · have hb := root_bd h0 h.2
    have hw : within a 0 1152921504606846976 = true := by rw [within_iff]; omega
    rw [if_neg (by omega), if_pos hw]
    have : fixOk (rootW (a * 4294967296)) = true := by rw [fixOk_iff]; omega
    simp [fixed, this]
  · have hw : ¬ within a 0 1152921504606846976 = true := by rw [within_iff]; omega
    rw [if_pos (by omega), if_neg hw]
    simp [fixed]
theorem sqrtFloor_f {a : Int} (h : within a 0 1152921504606846976 = true) : sqrtFloor a 4294967296 = sqrtDown a := by
  unfold sqrtFloor sqrtDown
  rw [if_pos h]
  rw [within_iff] at h
  rw [if_neg (by omega)]

-- impl.SqrtDown
theorem impl_SqrtDown_sqrtDown_ok : Fn Tryz.prog 55 F_sqrtDown := by
  refine fn_of_go (O := orc [⟨76, F_fixOk, .inl impl_ValidFix_fixOk_ok⟩, ⟨77, F_fixed, .inl impl_fixed_fixed_ok⟩, ⟨80, F_sqrtFloor, .inl impl_SqrtFloor_sqrtFloor_ok⟩]) mixed T_ok (orc_sound _) Tryz.func55 (by kernel_rfl) rfl Tryz.ntmps55 (by kernel_rfl) Tryz.results55 ?_
  intro args g pre r new hF hpre
  unfold F_sqrtDown at hF
  split at hF
  · rename_i a
    simp only [Option.some.injEq, Prod.mk.injEq] at hF
    obtain ⟨rfl, hr, rfl⟩ := hF
    refine ⟨by simp, ?_⟩
    simp (config := { maxSteps := 4000000, implicitDefEqProofs := false }) only [F_fixOk_eq, F_fixed_eq, F_sqrtFloor_eq, WK0, WK1, WK2, WK3, WK4, WK5, WK6, WK7, WK8, WK9, WK10, WK11, WK12, WK13, WK14, WK15, WK16, WK17, WK18, WK19, WK20, WK21, WK22, WK23, WK24, WK25, WK26, WK27, WK28, WK29, WK30, look_hit, look_miss, List.map_cons, List.map_nil, Nat.add_zero, max_v, min_v, ↓cnd_t, ↓cnd_f, ↓grd_b, ↓grd_u, startEnv, Option.map_some, List.length_nil, List.length_cons, List.nil_append, List.cons_append, List.getElem?_cons_zero, List.getElem?_cons_succ, List.set_cons_zero, List.set_cons_succ, Bool.not_true, Bool.not_false, reduceIte, Nat.reduceEqDiff, Nat.reduceAdd, Nat.reduceLT, blt_lit, beq_lit, Bool.or_true, Bool.true_or, Bool.or_false, Bool.false_or, Bool.and_true, Bool.true_and, Bool.and_self, cond_true, cond_false, List.append_nil, Iv.eta, Option.map_none, idxO_l0, idxO_l1, decide_true, decide_false, reqs_true, Int.zero_sub, wrap_lit, wrapu_lit, Int.reduceLE, Int.reduceLT, Int.reduceAdd, Int.reduceSub, Int.reduceMul, Int.reduceNeg, Int.reduceEq, Option.bind_some, bin_shr_u64, bin_shl_u64, bin_shr_i64, bin_shl_i64, and_m32', Int.reduceToNat, Int.reducePow, Int.reduceMod, Int.reduceDiv, wrap_u64s, true_or, or_true, true_and, and_true, Option.isSome_none, Option.isSome_some, Nat.reduceLeDiff, Nat.reduceMul, Int.toNat_natCast, Int.cast_ofNat_Int, Int.natCast_zero, Int.natCast_one, List.isEmpty_nil, List.isEmpty_cons, List.replicate_zero, List.replicate_succ, T1, T2, T3, T4, T5, T6, T9, T10, T11, T12, T21, T22, T23, T25, T26, T27, T28, T29, T30, T32, T33, T34, T35, T36, T37, T38, T39, T40, T41, T42, T43, T44, T46, T48, T50, T52, T53, T54, T55, T56, T57, T58, T59, T61, T62, T63, T64, T65, T66, T67, T68, T69, T70, T71, T72, T73, T74, T75, T76, T77, T78, T79, T80, T81, T82, T83, T84, T85, T87, T89, T91, T92, T93, T95, T96, T97, T98, T102, T103, T105, T107, T108, T109, T110, T112, T116, T120, T121, T122, T123, T124, T125, T126, T128, T130, T131, T132, T134, T135, T136, T137, T138, T140, T142, T143, T145, T146, T148, T149, T150, T152, T153, T154, T155, T156, T163, T164, T165, T166, T167]
    repeat' (first | with_reducible refine cnd_split (fun hc => ?_) (fun hc => ?_) | with_reducible refine Reqs.mk ?_ ?_)
    all_goals first
      | (refine ⟨fix_in (by assumption), ?_⟩; unfold inR; omega)
      | (refine endS_ib (t := (sqrtDown a)) hr ?_; rw [← sqrtDown_f (by assumption)])
      | (refine endS_ib (t := (sqrtDown a)) hr ?_
         have h := hc
         have hw : ¬ within a 0 1152921504606846976 = true := by
           rw [within_iff]; intro hh
           have : fixOk a = true := by rw [fixOk_iff]; omega
           simp_all
         rw [sqrtDown, if_neg hw])
  · cases hF

-- sqrtUp
def sqrtUp (a : Int) : Int × Bool := if within a 0 1152921504606846976 then (if rootW (a * 4294967296) * rootW (a * 4294967296) = a * 4294967296 then (rootW (a * 4294967296), true) else (rootW (a * 4294967296) + 1, true)) else (0, false)
def F_sqrtUp : FT
  | [.c (.p (.int .i64 a))], _ => some (True, .tup [.c (.p (.int .i64 ((sqrtUp a).1))), .c (.p (.bool ((sqrtUp a).2)))], [])
  | _, _ => none
theorem F_sqrtUp_eq {a : Int} {g : List PC} : F_sqrtUp [.c (.p (.int .i64 a))] g = some (True, .tup [.c (.p (.int .i64 ((sqrtUp a).1))), .c (.p (.bool ((sqrtUp a).2)))], []) := rfl
theorem wide_eq {x y : Int} : (decide (whi x = whi y) && decide (wlo x = wlo y)) = decide (x = y) := by
  rw [Bool.eq_iff_iff]
  simp only [Bool.and_eq_true, decide_eq_true_eq]
  unfold whi wlo
  omega
theorem and_m32i {a : Int} : IntKind.i64.wrap ((BitVec.ofInt IntKind.i64.bits a &&& BitVec.ofInt IntKind.i64.bits 4294967295).toNat : Nat) = a % 4294967296 := by
  have := @and_m32' a
  rw [bits_u64] at this
  rw [bits_i64, this, IntKind.wrap_i64]; omega
theorem sqrtDown_t {a : Int} (h : (sqrtDown a).2 = true) : (0 ≤ a ∧ a ≤ 1152921504606846976) ∧ (sqrtDown a).1 = rootW (a * 4294967296) ∧ 0 ≤ rootW (a * 4294967296) ∧ rootW (a * 4294967296) ≤ 70368744177664 := by
  unfold sqrtDown at h ⊢
  split at h
  · rename_i hw
    rw [if_pos hw]
    rw [within_iff] at hw
    exact ⟨hw, rfl, root_bd hw.1 hw.2⟩
  · cases h
theorem sqrtDown_n {a : Int} (h : (sqrtDown a).2 = false) : (sqrtDown a).1 = 0 ∧ sqrtUp a = (0, false) := by
  unfold sqrtDown at h ⊢
  unfold sqrtUp
  split at h
  · cases h
  · rename_i hw
    rw [if_neg hw, if_neg hw]; exact ⟨rfl, rfl⟩
theorem sqrtUp_t {a : Int} (h : 0 ≤ a ∧ a ≤ 1152921504606846976) : sqrtUp a = (if rootW (a * 4294967296) * rootW (a * 4294967296) = a * 4294967296 then (rootW (a * 4294967296), true) else (rootW (a * 4294967296) + 1, true)) := by
  unfold sqrtUp
  rw [if_pos (within_iff.2 h)]
theorem sqrtUp_bd (a : Int) : 0 ≤ (sqrtUp a).1 ∧ (sqrtUp a).1 ≤ 70368744177665 := by
  unfold sqrtUp
  split
  · rename_i hw
    rw [within_iff] at hw
    have := root_bd hw.1 hw.2
    split <;> simp only <;> omega
  · simp only; omega
theorem sqrtDown_bd (a : Int) : 0 ≤ (sqrtDown a).1 ∧ (sqrtDown a).1 ≤ 70368744177664 := by
  unfold sqrtDown
  split
  · rename_i hw
    rw [within_iff] at hw
    have := root_bd hw.1 hw.2
    simp only; omega
  · simp only; omega

-- impl.SqrtUp
theorem impl_SqrtUp_sqrtUp_ok : Fn Tryz.prog 56 F_sqrtUp := by
  refine fn_of_go (O := orc [⟨55, F_sqrtDown, .inl impl_SqrtDown_sqrtDown_ok⟩, ⟨77, F_fixed, .inl impl_fixed_fixed_ok⟩, ⟨81, F_wideMul, .inl impl_WideMul_wideMul_ok⟩]) mixed T_ok (orc_sound _) Tryz.func56 (by kernel_rfl) rfl Tryz.ntmps56 (by kernel_rfl) Tryz.results56 ?_
  intro args g pre r new hF hpre
  unfold F_sqrtUp at hF
  split at hF
  · rename_i a
    simp only [Option.some.injEq, Prod.mk.injEq] at hF
    obtain ⟨rfl, hr, rfl⟩ := hF
    refine ⟨by simp, ?_⟩
    simp (config := { maxSteps := 4000000, implicitDefEqProofs := false }) only [F_fixed_eq, F_sqrtDown_eq, F_wideMul_eq, WK0, WK1, WK2, WK3, WK4, WK5, WK6, WK7, WK8, WK9, WK10, WK11, WK12, WK13, WK14, WK15, WK16, WK17, WK18, WK19, WK20, WK21, WK22, WK23, WK24, WK25, WK26, WK27, WK28, WK29, WK30, look_hit, look_miss, List.map_cons, List.map_nil, Nat.add_zero, max_v, min_v, ↓cnd_t, ↓cnd_f, ↓grd_b, ↓grd_u, startEnv, Option.map_some, List.length_nil, List.length_cons, List.nil_append, List.cons_append, List.getElem?_cons_zero, List.getElem?_cons_succ, List.set_cons_zero, List.set_cons_succ, Bool.not_true, Bool.not_false, reduceIte, Nat.reduceEqDiff, Nat.reduceAdd, Nat.reduceLT, blt_lit, beq_lit, Bool.or_true, Bool.true_or, Bool.or_false, Bool.false_or, Bool.and_true, Bool.true_and, Bool.and_self, cond_true, cond_false, List.append_nil, Iv.eta, Option.map_none, idxO_l0, idxO_l1, decide_true, decide_false, reqs_true, Int.zero_sub, wrap_lit, wrapu_lit, Int.reduceLE, Int.reduceLT, Int.reduceAdd, Int.reduceSub, Int.reduceMul, Int.reduceNeg, Int.reduceEq, Option.bind_some, bin_shr_u64, bin_shl_u64, bin_shr_i64, bin_shl_i64, and_m32', Int.reduceToNat, Int.reducePow, Int.reduceMod, Int.reduceDiv, wrap_u64s, true_or, or_true, true_and, and_true, Option.isSome_none, Option.isSome_some, Nat.reduceLeDiff, Nat.reduceMul, Int.toNat_natCast, Int.cast_ofNat_Int, Int.natCast_zero, Int.natCast_one, List.isEmpty_nil, List.isEmpty_cons, List.replicate_zero, List.replicate_succ, T1, T2, T3, T4, T5, T6, T9, T10, T11, T12, T21, T22, T23, T25, T26, T27, T28, T29, T30, T32, T33, T34, T35, T36, T37, T38, T39, T40, T41, T42, T43, T44, T46, T48, T50, T52, T53, T54, T55, T56, T57, T58, T59, T61, T62, T63, T64, T65, T66, T67, T68, T69, T70, T71, T72, T73, T74, T75, T76, T77, T78, T79, T80, T81, T82, T83, T84, T85, T87, T89, T91, T92, T93, T95, T96, T97, T98, T102, T103, T105, T107, T108, T109, T110, T112, T116, T120, T121, T122, T123, T124, T125, T126, T128, T130, T131, T132, T134, T135, T136, T137, T138, T140, T142, T143, T145, T146, T148, T149, T150, T152, T153, T154, T155, T156, T163, T164, T165, T166, T167, wide_eq]
    repeat' (first | with_reducible refine cnd_split (fun hc => ?_) (fun hc => ?_) | with_reducible refine Reqs.mk ?_ ?_)
    all_goals first
      | (have h := sqrtDown_t (by assumption); rw [h.2.1]; unfold inR; omega)
      | (have h := sqrtDown_t (by assumption); unfold inR; omega)
      | (have h := sqrtDown_n (by assumption); refine endS_ib (t := (sqrtUp a)) hr ?_; simp_all [fixed]; done)
      | (have h := sqrtDown_t (by assumption : (sqrtDown a).2 = true)
         have h9 : fixOk (rootW (a * 4294967296)) = true := by rw [fixOk_iff]; omega
         have h8 : fixOk (rootW (a * 4294967296) + 1) = true := by rw [fixOk_iff]; omega
         have h7 : IntKind.i64.wrap (rootW (a * 4294967296) + 1) = rootW (a * 4294967296) + 1 := wrap_om (by omega) (by omega)
         refine endS_ib (t := (sqrtUp a)) hr ?_
         rw [sqrtUp_t h.1]
         simp_all [fixed])
  · cases hF

-- sqrtI
def sqrtI (a : Iv) : Iv := if okI a && decide (0 ≤ a.lo) then mkI (sqrtDown a.lo).1 (sqrtUp a.hi).1 else whole
def F_sqrtI : FT
  | [.agg [.int .i64 a1, .int .i64 a2]], _ => some (True, .v (.agg [.int .i64 ((sqrtI (Iv.mk a1 a2))).lo, .int .i64 ((sqrtI (Iv.mk a1 a2))).hi]), [])
  | _, _ => none
theorem F_sqrtI_eq {a1 : Int} {a2 : Int} {g : List PC} : F_sqrtI [.agg [.int .i64 a1, .int .i64 a2]] g = some (True, .v (.agg [.int .i64 ((sqrtI (Iv.mk a1 a2))).lo, .int .i64 ((sqrtI (Iv.mk a1 a2))).hi]), []) := rfl
theorem sqrt_ok2 {a b : Int} (h : okI ⟨a, b⟩ = true) (h0 : 0 ≤ a) : (sqrtDown a).2 = true ∧ (sqrtUp b).2 = true := by
  rw [okI_mk] at h
  have h1 : within a 0 1152921504606846976 = true := by rw [within_iff]; omega
  have h2 : within b 0 1152921504606846976 = true := by rw [within_iff]; omega
  refine ⟨by simp [sqrtDown, h1], ?_⟩
  unfold sqrtUp
  rw [if_pos h2]
  split <;> rfl

-- impl.SqrtI
theorem impl_SqrtI_sqrtI_ok : Fn Tryz.prog 15 F_sqrtI := by
  refine fn_of_go (O := orc [⟨36, F_whole, .inl impl_Whole_whole_ok⟩, ⟨47, F_notOk, .inl impl_IsWhole_notOk_ok⟩, ⟨55, F_sqrtDown, .inl impl_SqrtDown_sqrtDown_ok⟩, ⟨56, F_sqrtUp, .inl impl_SqrtUp_sqrtUp_ok⟩, ⟨57, F_bounded, .inl impl_bounded_bounded_ok⟩]) mixed T_ok (orc_sound _) Tryz.func15 (by kernel_rfl) rfl Tryz.ntmps15 (by kernel_rfl) Tryz.results15 ?_
  intro args g pre r new hF hpre
  unfold F_sqrtI at hF
  split at hF
  · rename_i a1 a2
    simp only [Option.some.injEq, Prod.mk.injEq] at hF
    obtain ⟨rfl, hr, rfl⟩ := hF
    refine ⟨by simp, ?_⟩
    simp (config := { maxSteps := 4000000, implicitDefEqProofs := false }) only [F_bounded_eq, F_notOk_eq, F_sqrtDown_eq, F_sqrtUp_eq, F_whole_eq, WK0, WK1, WK2, WK3, WK4, WK5, WK6, WK7, WK8, WK9, WK10, WK11, WK12, WK13, WK14, WK15, WK16, WK17, WK18, WK19, WK20, WK21, WK22, WK23, WK24, WK25, WK26, WK27, WK28, WK29, WK30, look_hit, look_miss, List.map_cons, List.map_nil, Nat.add_zero, max_v, min_v, ↓cnd_t, ↓cnd_f, ↓grd_b, ↓grd_u, startEnv, Option.map_some, List.length_nil, List.length_cons, List.nil_append, List.cons_append, List.getElem?_cons_zero, List.getElem?_cons_succ, List.set_cons_zero, List.set_cons_succ, Bool.not_true, Bool.not_false, reduceIte, Nat.reduceEqDiff, Nat.reduceAdd, Nat.reduceLT, blt_lit, beq_lit, Bool.or_true, Bool.true_or, Bool.or_false, Bool.false_or, Bool.and_true, Bool.true_and, Bool.and_self, cond_true, cond_false, List.append_nil, Iv.eta, Option.map_none, idxO_l0, idxO_l1, decide_true, decide_false, reqs_true, Int.zero_sub, wrap_lit, wrapu_lit, Int.reduceLE, Int.reduceLT, Int.reduceAdd, Int.reduceSub, Int.reduceMul, Int.reduceNeg, Int.reduceEq, Option.bind_some, bin_shr_u64, bin_shl_u64, bin_shr_i64, bin_shl_i64, and_m32', Int.reduceToNat, Int.reducePow, Int.reduceMod, Int.reduceDiv, wrap_u64s, true_or, or_true, true_and, and_true, Option.isSome_none, Option.isSome_some, Nat.reduceLeDiff, Nat.reduceMul, Int.toNat_natCast, Int.cast_ofNat_Int, Int.natCast_zero, Int.natCast_one, List.isEmpty_nil, List.isEmpty_cons, List.replicate_zero, List.replicate_succ, T1, T2, T3, T4, T5, T6, T9, T10, T11, T12, T21, T22, T23, T25, T26, T27, T28, T29, T30, T32, T33, T34, T35, T36, T37, T38, T39, T40, T41, T42, T43, T44, T46, T48, T50, T52, T53, T54, T55, T56, T57, T58, T59, T61, T62, T63, T64, T65, T66, T67, T68, T69, T70, T71, T72, T73, T74, T75, T76, T77, T78, T79, T80, T81, T82, T83, T84, T85, T87, T89, T91, T92, T93, T95, T96, T97, T98, T102, T103, T105, T107, T108, T109, T110, T112, T116, T120, T121, T122, T123, T124, T125, T126, T128, T130, T131, T132, T134, T135, T136, T137, T138, T140, T142, T143, T145, T146, T148, T149, T150, T152, T153, T154, T155, T156, T163, T164, T165, T166, T167]
    repeat' (first | with_reducible refine cnd_split (fun hc => ?_) (fun hc => ?_) | with_reducible refine Reqs.mk ?_ ?_)
    all_goals (try simp only [decide_eq_true_eq, decide_eq_false_iff_not] at *)
    all_goals first
      | (refine endS_v (t := (sqrtI (Iv.mk a1 a2))) hr ?_; rw [sqrtI]; simp_all; done)
      | (refine endS_v (t := (sqrtI (Iv.mk a1 a2))) hr ?_
         have h0 : 0 ≤ a1 := by omega
         have h := sqrt_ok2 (by assumption) h0
         simp_all [sqrtI])
      | (refine endS_v (t := (sqrtI (Iv.mk a1 a2))) hr ?_
         have h0 : decide (0 ≤ a1) = false := by simp only [decide_eq_false_iff_not]; omega
         rw [sqrtI]
         simp only [h0, Bool.and_false, Bool.false_eq_true, if_false])
  · cases hF

end Go.Proofs.YtcnapkdccjibpaaGreatDoor.Eng
