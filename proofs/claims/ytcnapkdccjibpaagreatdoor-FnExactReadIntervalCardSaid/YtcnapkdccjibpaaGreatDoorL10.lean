/- What functions of the program compute, and that the program computes it: part 10. -/
import Derived.Test.YtcnapkdccjibpaaGreatDoorTab
import Derived.Test.YtcnapkdccjibpaaGreatDoorEng16
import Derived.Laws.BitsLemmas
import Derived.Laws.Bits64
import Derived.Laws.Bits64b
import Derived.Lib.Mul64
import Derived.Lib.BitFns
import Derived.Laws.Externs
import Derived.Test.YtcnapkdccjibpaaGreatDoorL1
import Derived.Test.YtcnapkdccjibpaaGreatDoorL2
import Derived.Test.YtcnapkdccjibpaaGreatDoorL3
import Derived.Test.YtcnapkdccjibpaaGreatDoorL4
import Derived.Test.YtcnapkdccjibpaaGreatDoorL9
namespace Go.Proofs.YtcnapkdccjibpaaGreatDoor.Eng
open Go Go.RowKit
set_option linter.unusedVariables false
set_option linter.unusedSimpArgs false
set_option maxRecDepth 100000
set_option maxHeartbeats 1000000
-- impl.mulDivCeil
theorem impl_mulDivCeil_mulDivUp_ok : Fn Tryz.prog 92 F_mulDivUp := by
  refine fn_of_go (O := orc [⟨81, F_wideMul, .inl impl_WideMul_wideMul_ok⟩, ⟨94, F_wideInt, .inl impl_WideInt_wideInt_ok⟩, ⟨96, F_wideDiv, .inl impl_WideDiv_wideDiv_ok⟩]) mixed T_ok (orc_sound _) Tryz.func92 (by kernel_rfl) rfl Tryz.ntmps92 (by kernel_rfl) Tryz.results92 ?_
  intro args g pre r new hF hpre
  unfold F_mulDivUp at hF
  split at hF
  · rename_i a b d
    simp only [Option.some.injEq, Prod.mk.injEq] at hF
    obtain ⟨rfl, hr, rfl⟩ := hF
    refine ⟨by simp, ?_⟩
    simp (config := { maxSteps := 4000000, implicitDefEqProofs := false }) only [F_wideDiv_eq, F_wideInt_eq, F_wideMul_eq, WK0, WK1, WK2, WK3, WK4, WK5, WK6, WK7, WK8, WK9, WK10, WK11, WK12, WK13, WK14, WK15, WK16, WK17, WK18, WK19, WK20, WK21, WK22, WK23, WK24, WK25, WK26, WK27, WK28, WK29, WK30, look_hit, look_miss, List.map_cons, List.map_nil, Nat.add_zero, max_v, min_v, ↓cnd_t, ↓cnd_f, ↓grd_b, ↓grd_u, startEnv, Option.map_some, List.length_nil, List.length_cons, List.nil_append, List.cons_append, List.getElem?_cons_zero, List.getElem?_cons_succ, List.set_cons_zero, List.set_cons_succ, Bool.not_true, Bool.not_false, reduceIte, Nat.reduceEqDiff, Nat.reduceAdd, Nat.reduceLT, blt_lit, beq_lit, Bool.or_true, Bool.true_or, Bool.or_false, Bool.false_or, Bool.and_true, Bool.true_and, Bool.and_self, cond_true, cond_false, List.append_nil, Iv.eta, Option.map_none, idxO_l0, idxO_l1, decide_true, decide_false, reqs_true, Int.zero_sub, wrap_lit, wrapu_lit, Int.reduceLE, Int.reduceLT, Int.reduceAdd, Int.reduceSub, Int.reduceMul, Int.reduceNeg, Int.reduceEq, Option.bind_some, bin_shr_u64, bin_shl_u64, bin_shr_i64, bin_shl_i64, and_m32', Int.reduceToNat, Int.reducePow, Int.reduceMod, Int.reduceDiv, wrap_u64s, true_or, or_true, true_and, and_true, Option.isSome_none, Option.isSome_some, Nat.reduceLeDiff, Nat.reduceMul, Int.toNat_natCast, Int.cast_ofNat_Int, Int.natCast_zero, Int.natCast_one, List.isEmpty_nil, List.isEmpty_cons, List.replicate_zero, List.replicate_succ, T1, T2, T3, T4, T5, T6, T9, T10, T11, T12, T21, T22, T23, T25, T26, T27, T28, T29, T30, T32, T33, T34, T35, T36, T37, T38, T39, T40, T41, T42, T43, T44, T46, T48, T50, T52, T53, T54, T55, T56, T57, T58, T59, T61, T62, T63, T64, T65, T66, T67, T68, T69, T70, T71, T72, T73, T74, T75, T76, T77, T78, T79, T80, T81, T82, T83, T84, T85, T87, T89, T91, T92, T93, T95, T96, T97, T98, T102, T103, T105, T107, T108, T109, T110, T112, T116, T120, T121, T122, T123, T124, T125, T126, T128, T130, T131, T132, T134, T135, T136, T137, T138, T140, T142, T143, T145, T146, T148, T149, T150, T152, T153, T154, T155, T156, T163, T164, T165, T166, T167]
    have hab := mul_bd hpre.1 hpre.2.1
    obtain ⟨ha, hb, hd⟩ := hpre
    have h1 := prod_in ha hb
    rw [wv_eta]
    repeat' (first | with_reducible refine cnd_split (fun hc => ?_) (fun hc => ?_) | with_reducible refine Reqs.mk ?_ ?_)
    all_goals (try simp only [decide_eq_true_eq, decide_eq_false_iff_not] at *)
    all_goals first
      | exact ⟨ha, hb⟩
      | exact ⟨h1, hd, hab⟩
      | (have h0 : 0 < d := by assumption
         have hm0 := Int.emod_nonneg (a * b) (show d ≠ 0 by omega)
         have hin := wideInt_in (a * b / d)
         simp only [if_pos h0, wv_eta] at *
         first
         | exact prod_bd ha hb h0
         | (refine endS_ib (t := (mulDivUp a b d)) hr ?_; rw [mulDivUp, if_pos h0]
            unfold inR at hin
            first
            | (have hf := wideInt_f (by assumption); simp_all; done)
            | (rw [if_pos (by assumption), if_neg (by omega), if_pos (by assumption)]; done)
            | (rw [if_pos (by assumption), if_neg (by omega), if_neg (by assumption), wrap_om (by omega) (by omega)]; done)
            | (rw [if_pos (by assumption), if_pos (by omega)]
               have ht := (by assumption : (wideInt (a * b / d)).2 = true)
               exact Prod.ext rfl ht.symm)
            | (simp_all; done)))
      | (refine endS_ib (t := (mulDivUp a b d)) hr ?_; rw [mulDivUp, if_neg (by assumption)])
  · cases hF

-- fixFloor
def fixFloor (a d : Int) : Int × Bool := fixed (mulDiv a 4294967296 d).1 (mulDiv a 4294967296 d).2
def fixCeil (a d : Int) : Int × Bool := fixed (mulDivUp a 4294967296 d).1 (mulDivUp a 4294967296 d).2
def F_fixFloor : FT
  | [.c (.p (.int .i64 a)), .c (.p (.int .i64 d))], _ => some (inR a ∧ inR d, .tup [.c (.p (.int .i64 ((fixFloor a d).1))), .c (.p (.bool ((fixFloor a d).2)))], [])
  | _, _ => none
theorem F_fixFloor_eq {a : Int} {d : Int} {g : List PC} : F_fixFloor [.c (.p (.int .i64 a)), .c (.p (.int .i64 d))] g = some (inR a ∧ inR d, .tup [.c (.p (.int .i64 ((fixFloor a d).1))), .c (.p (.bool ((fixFloor a d).2)))], []) := rfl
def F_fixCeil : FT
  | [.c (.p (.int .i64 a)), .c (.p (.int .i64 d))], _ => some (inR a ∧ inR d, .tup [.c (.p (.int .i64 ((fixCeil a d).1))), .c (.p (.bool ((fixCeil a d).2)))], [])
  | _, _ => none
theorem F_fixCeil_eq {a : Int} {d : Int} {g : List PC} : F_fixCeil [.c (.p (.int .i64 a)), .c (.p (.int .i64 d))] g = some (inR a ∧ inR d, .tup [.c (.p (.int .i64 ((fixCeil a d).1))), .c (.p (.bool ((fixCeil a d).2)))], []) := rfl

-- impl.FixFloor
theorem impl_FixFloor_fixFloor_ok : Fn Tryz.prog 70 F_fixFloor := by
  refine fn_of_go (O := orc [⟨77, F_fixed, .inl impl_fixed_fixed_ok⟩, ⟨79, F_mulDiv, .inl impl_MulDivFloor_mulDiv_ok⟩]) mixed T_ok (orc_sound _) Tryz.func70 (by kernel_rfl) rfl Tryz.ntmps70 (by kernel_rfl) Tryz.results70 ?_
  intro args g pre r new hF hpre
  unfold F_fixFloor at hF
  split at hF
  · rename_i a d
    simp only [Option.some.injEq, Prod.mk.injEq] at hF
    obtain ⟨rfl, hr, rfl⟩ := hF
    refine ⟨by simp, ?_⟩
    simp (config := { maxSteps := 4000000, implicitDefEqProofs := false }) only [F_fixed_eq, F_mulDiv_eq, WK0, WK1, WK2, WK3, WK4, WK5, WK6, WK7, WK8, WK9, WK10, WK11, WK12, WK13, WK14, WK15, WK16, WK17, WK18, WK19, WK20, WK21, WK22, WK23, WK24, WK25, WK26, WK27, WK28, WK29, WK30, look_hit, look_miss, List.map_cons, List.map_nil, Nat.add_zero, max_v, min_v, ↓cnd_t, ↓cnd_f, ↓grd_b, ↓grd_u, startEnv, Option.map_some, List.length_nil, List.length_cons, List.nil_append, List.cons_append, List.getElem?_cons_zero, List.getElem?_cons_succ, List.set_cons_zero, List.set_cons_succ, Bool.not_true, Bool.not_false, reduceIte, Nat.reduceEqDiff, Nat.reduceAdd, Nat.reduceLT, blt_lit, beq_lit, Bool.or_true, Bool.true_or, Bool.or_false, Bool.false_or, Bool.and_true, Bool.true_and, Bool.and_self, cond_true, cond_false, List.append_nil, Iv.eta, Option.map_none, idxO_l0, idxO_l1, decide_true, decide_false, reqs_true, Int.zero_sub, wrap_lit, wrapu_lit, Int.reduceLE, Int.reduceLT, Int.reduceAdd, Int.reduceSub, Int.reduceMul, Int.reduceNeg, Int.reduceEq, Option.bind_some, bin_shr_u64, bin_shl_u64, bin_shr_i64, bin_shl_i64, and_m32', Int.reduceToNat, Int.reducePow, Int.reduceMod, Int.reduceDiv, wrap_u64s, true_or, or_true, true_and, and_true, Option.isSome_none, Option.isSome_some, Nat.reduceLeDiff, Nat.reduceMul, Int.toNat_natCast, Int.cast_ofNat_Int, Int.natCast_zero, Int.natCast_one, List.isEmpty_nil, List.isEmpty_cons, List.replicate_zero, List.replicate_succ, T1, T2, T3, T4, T5, T6, T9, T10, T11, T12, T21, T22, T23, T25, T26, T27, T28, T29, T30, T32, T33, T34, T35, T36, T37, T38, T39, T40, T41, T42, T43, T44, T46, T48, T50, T52, T53, T54, T55, T56, T57, T58, T59, T61, T62, T63, T64, T65, T66, T67, T68, T69, T70, T71, T72, T73, T74, T75, T76, T77, T78, T79, T80, T81, T82, T83, T84, T85, T87, T89, T91, T92, T93, T95, T96, T97, T98, T102, T103, T105, T107, T108, T109, T110, T112, T116, T120, T121, T122, T123, T124, T125, T126, T128, T130, T131, T132, T134, T135, T136, T137, T138, T140, T142, T143, T145, T146, T148, T149, T150, T152, T153, T154, T155, T156, T163, T164, T165, T166, T167]
    repeat' (first | with_reducible refine cnd_split (fun hc => ?_) (fun hc => ?_) | with_reducible refine Reqs.mk ?_ ?_)
    all_goals first
      | (refine ⟨hpre.1, ?_, hpre.2⟩; unfold inR; omega)
      | exact endS_ib (t := (fixFloor a d)) hr rfl
  · cases hF

-- impl.FixCeil
theorem impl_FixCeil_fixCeil_ok : Fn Tryz.prog 72 F_fixCeil := by
  refine fn_of_go (O := orc [⟨77, F_fixed, .inl impl_fixed_fixed_ok⟩, ⟨92, F_mulDivUp, .inl impl_mulDivCeil_mulDivUp_ok⟩]) mixed T_ok (orc_sound _) Tryz.func72 (by kernel_rfl) rfl Tryz.ntmps72 (by kernel_rfl) Tryz.results72 ?_
  intro args g pre r new hF hpre
  unfold F_fixCeil at hF
  split at hF
  · rename_i a d
    simp only [Option.some.injEq, Prod.mk.injEq] at hF
    obtain ⟨rfl, hr, rfl⟩ := hF
    refine ⟨by simp, ?_⟩
    simp (config := { maxSteps := 4000000, implicitDefEqProofs := false }) only [F_fixed_eq, F_mulDivUp_eq, WK0, WK1, WK2, WK3, WK4, WK5, WK6, WK7, WK8, WK9, WK10, WK11, WK12, WK13, WK14, WK15, WK16, WK17, WK18, WK19, WK20, WK21, WK22, WK23, WK24, WK25, WK26, WK27, WK28, WK29, WK30, look_hit, look_miss, List.map_cons, List.map_nil, Nat.add_zero, max_v, min_v, ↓cnd_t, ↓cnd_f, ↓grd_b, ↓grd_u, startEnv, Option.map_some, List.length_nil, List.length_cons, List.nil_append, List.cons_append, List.getElem?_cons_zero, List.getElem?_cons_succ, List.set_cons_zero, List.set_cons_succ, Bool.not_true, Bool.not_false, reduceIte, Nat.reduceEqDiff, Nat.reduceAdd, Nat.reduceLT, blt_lit, beq_lit, Bool.or_true, Bool.true_or, Bool.or_false, Bool.false_or, Bool.and_true, Bool.true_and, Bool.and_self, cond_true, cond_false, List.append_nil, Iv.eta, Option.map_none, idxO_l0, idxO_l1, decide_true, decide_false, reqs_true, Int.zero_sub, wrap_lit, wrapu_lit, Int.reduceLE, Int.reduceLT, Int.reduceAdd, Int.reduceSub, Int.reduceMul, Int.reduceNeg, Int.reduceEq, Option.bind_some, bin_shr_u64, bin_shl_u64, bin_shr_i64, bin_shl_i64, and_m32', Int.reduceToNat, Int.reducePow, Int.reduceMod, Int.reduceDiv, wrap_u64s, true_or, or_true, true_and, and_true, Option.isSome_none, Option.isSome_some, Nat.reduceLeDiff, Nat.reduceMul, Int.toNat_natCast, Int.cast_ofNat_Int, Int.natCast_zero, Int.natCast_one, List.isEmpty_nil, List.isEmpty_cons, List.replicate_zero, List.replicate_succ, T1, T2, T3, T4, T5, T6, T9, T10, T11, T12, T21, T22, T23, T25, T26, T27, T28, T29, T30, T32, T33, T34, T35, T36, T37, T38, T39, T40, T41, T42, T43, T44, T46, T48, T50, T52, T53, T54, T55, T56, T57, T58, T59, T61, T62, T63, T64, T65, T66, T67, T68, T69, T70, T71, T72, T73, T74, T75, T76, T77, T78, T79, T80, T81, T82, T83, T84, T85, T87, T89, T91, T92, T93, T95, T96, T97, T98, T102, T103, T105, T107, T108, T109, T110, T112, T116, T120, T121, T122, T123, T124, T125, T126, T128, T130, T131, T132, T134, T135, T136, T137, T138, T140, T142, T143, T145, T146, T148, T149, T150, T152, T153, T154, T155, T156, T163, T164, T165, T166, T167]
    repeat' (first | with_reducible refine cnd_split (fun hc => ?_) (fun hc => ?_) | with_reducible refine Reqs.mk ?_ ?_)
    all_goals first
      | (refine ⟨hpre.1, ?_, hpre.2⟩; unfold inR; omega)
      | exact endS_ib (t := (fixCeil a d)) hr rfl
  · cases hF

-- spec.l03Floor
theorem spec_l03Floor_fixFloor_ok : Fn Tryz.prog 63 F_fixFloor := by
  refine fn_of_go (O := orc [⟨85, F_mulDiv, .inl spec_MulDivFloor_mulDiv_ok⟩, ⟨86, F_fixed, .inl spec_l03End_fixed_ok⟩]) mixed T_ok (orc_sound _) Tryz.func63 (by kernel_rfl) rfl Tryz.ntmps63 (by kernel_rfl) Tryz.results63 ?_
  intro args g pre r new hF hpre
  unfold F_fixFloor at hF
  split at hF
  · rename_i a d
    simp only [Option.some.injEq, Prod.mk.injEq] at hF
    obtain ⟨rfl, hr, rfl⟩ := hF
    refine ⟨by simp, ?_⟩
    simp (config := { maxSteps := 4000000, implicitDefEqProofs := false }) only [F_fixed_eq, F_mulDiv_eq, WK0, WK1, WK2, WK3, WK4, WK5, WK6, WK7, WK8, WK9, WK10, WK11, WK12, WK13, WK14, WK15, WK16, WK17, WK18, WK19, WK20, WK21, WK22, WK23, WK24, WK25, WK26, WK27, WK28, WK29, WK30, look_hit, look_miss, List.map_cons, List.map_nil, Nat.add_zero, max_v, min_v, ↓cnd_t, ↓cnd_f, ↓grd_b, ↓grd_u, startEnv, Option.map_some, List.length_nil, List.length_cons, List.nil_append, List.cons_append, List.getElem?_cons_zero, List.getElem?_cons_succ, List.set_cons_zero, List.set_cons_succ, Bool.not_true, Bool.not_false, reduceIte, Nat.reduceEqDiff, Nat.reduceAdd, Nat.reduceLT, blt_lit, beq_lit, Bool.or_true, Bool.true_or, Bool.or_false, Bool.false_or, Bool.and_true, Bool.true_and, Bool.and_self, cond_true, cond_false, List.append_nil, Iv.eta, Option.map_none, idxO_l0, idxO_l1, decide_true, decide_false, reqs_true, Int.zero_sub, wrap_lit, wrapu_lit, Int.reduceLE, Int.reduceLT, Int.reduceAdd, Int.reduceSub, Int.reduceMul, Int.reduceNeg, Int.reduceEq, Option.bind_some, bin_shr_u64, bin_shl_u64, bin_shr_i64, bin_shl_i64, and_m32', Int.reduceToNat, Int.reducePow, Int.reduceMod, Int.reduceDiv, wrap_u64s, true_or, or_true, true_and, and_true, Option.isSome_none, Option.isSome_some, Nat.reduceLeDiff, Nat.reduceMul, Int.toNat_natCast, Int.cast_ofNat_Int, Int.natCast_zero, Int.natCast_one, List.isEmpty_nil, List.isEmpty_cons, List.replicate_zero, List.replicate_succ, T1, T2, T3, T4, T5, T6, T9, T10, T11, T12, T21, T22, T23, T25, T26, T27, T28, T29, T30, T32, T33, T34, T35, T36, T37, T38, T39, T40, T41, T42, T43, T44, T46, T48, T50, T52, T53, T54, T55, T56, T57, T58, T59, T61, T62, T63, T64, T65, T66, T67, T68, T69, T70, T71, T72, T73, T74, T75, T76, T77, T78, T79, T80, T81, T82, T83, T84, T85, T87, T89, T91, T92, T93, T95, T96, T97, T98, T102, T103, T105, T107, T108, T109, T110, T112, T116, T120, T121, T122, T123, T124, T125, T126, T128, T130, T131, T132, T134, T135, T136, T137, T138, T140, T142, T143, T145, T146, T148, T149, T150, T152, T153, T154, T155, T156, T163, T164, T165, T166, T167]
    repeat' (first | with_reducible refine cnd_split (fun hc => ?_) (fun hc => ?_) | with_reducible refine Reqs.mk ?_ ?_)
    all_goals (try simp only [decide_eq_true_eq, decide_eq_false_iff_not] at *)
    all_goals first
      | (refine ⟨hpre.1, ?_, hpre.2⟩; unfold inR; omega)
      | exact endS_ib (t := (fixFloor a d)) hr rfl
      | (refine endS_ib (t := (fixFloor a d)) hr ?_; rw [fixFloor, mulDiv, if_neg (by omega)]; rfl)
  · cases hF

-- spec.l03Ceil
theorem exact_mod {a d : Int} (hd : 0 < d) (hd2 : d < 9223372036854775808) : (IntKind.i64.wrap (a / d * d) = IntKind.i64.wrap a) ↔ a % d = 0 := by
  have e := Int.ediv_mul_add_emod a d
  have r1 := Int.emod_nonneg a (show d ≠ 0 by omega)
  have r2 := Int.emod_lt_of_pos a hd
  rw [IntKind.wrap_i64, IntKind.wrap_i64]
  generalize a / d * d = x at *
  omega
theorem spec_l03Ceil_fixCeil_ok : Fn Tryz.prog 65 F_fixCeil := by
  refine fn_of_go (O := orc [⟨85, F_mulDiv, .inl spec_MulDivFloor_mulDiv_ok⟩, ⟨86, F_fixed, .inl spec_l03End_fixed_ok⟩]) mixed T_ok (orc_sound _) Tryz.func65 (by kernel_rfl) rfl Tryz.ntmps65 (by kernel_rfl) Tryz.results65 ?_
  intro args g pre r new hF hpre
  unfold F_fixCeil at hF
  split at hF
  · rename_i a d
    simp only [Option.some.injEq, Prod.mk.injEq] at hF
    obtain ⟨rfl, hr, rfl⟩ := hF
    refine ⟨by simp, ?_⟩
    simp (config := { maxSteps := 4000000, implicitDefEqProofs := false }) only [F_fixed_eq, F_mulDiv_eq, WK0, WK1, WK2, WK3, WK4, WK5, WK6, WK7, WK8, WK9, WK10, WK11, WK12, WK13, WK14, WK15, WK16, WK17, WK18, WK19, WK20, WK21, WK22, WK23, WK24, WK25, WK26, WK27, WK28, WK29, WK30, look_hit, look_miss, List.map_cons, List.map_nil, Nat.add_zero, max_v, min_v, ↓cnd_t, ↓cnd_f, ↓grd_b, ↓grd_u, startEnv, Option.map_some, List.length_nil, List.length_cons, List.nil_append, List.cons_append, List.getElem?_cons_zero, List.getElem?_cons_succ, List.set_cons_zero, List.set_cons_succ, Bool.not_true, Bool.not_false, reduceIte, Nat.reduceEqDiff, Nat.reduceAdd, Nat.reduceLT, blt_lit, beq_lit, Bool.or_true, Bool.true_or, Bool.or_false, Bool.false_or, Bool.and_true, Bool.true_and, Bool.and_self, cond_true, cond_false, List.append_nil, Iv.eta, Option.map_none, idxO_l0, idxO_l1, decide_true, decide_false, reqs_true, Int.zero_sub, wrap_lit, wrapu_lit, Int.reduceLE, Int.reduceLT, Int.reduceAdd, Int.reduceSub, Int.reduceMul, Int.reduceNeg, Int.reduceEq, Option.bind_some, bin_shr_u64, bin_shl_u64, bin_shr_i64, bin_shl_i64, and_m32', Int.reduceToNat, Int.reducePow, Int.reduceMod, Int.reduceDiv, wrap_u64s, true_or, or_true, true_and, and_true, Option.isSome_none, Option.isSome_some, Nat.reduceLeDiff, Nat.reduceMul, Int.toNat_natCast, Int.cast_ofNat_Int, Int.natCast_zero, Int.natCast_one, List.isEmpty_nil, List.isEmpty_cons, List.replicate_zero, List.replicate_succ, T1, T2, T3, T4, T5, T6, T9, T10, T11, T12, T21, T22, T23, T25, T26, T27, T28, T29, T30, T32, T33, T34, T35, T36, T37, T38, T39, T40, T41, T42, T43, T44, T46, T48, T50, T52, T53, T54, T55, T56, T57, T58, T59, T61, T62, T63, T64, T65, T66, T67, T68, T69, T70, T71, T72, T73, T74, T75, T76, T77, T78, T79, T80, T81, T82, T83, T84, T85, T87, T89, T91, T92, T93, T95, T96, T97, T98, T102, T103, T105, T107, T108, T109, T110, T112, T116, T120, T121, T122, T123, T124, T125, T126, T128, T130, T131, T132, T134, T135, T136, T137, T138, T140, T142, T143, T145, T146, T148, T149, T150, T152, T153, T154, T155, T156, T163, T164, T165, T166, T167]
    obtain ⟨ha, hd⟩ := hpre
    repeat' (first | with_reducible refine cnd_split (fun hc => ?_) (fun hc => ?_) | with_reducible refine Reqs.mk ?_ ?_)
    all_goals (try simp only [decide_eq_true_eq, decide_eq_false_iff_not, Int.not_le] at *)
    all_goals first
      | (refine ⟨ha, ?_, hd⟩; unfold inR; omega)
      | (have h0 : d ≤ 0 := by assumption
         refine endS_ib (t := (fixCeil a d)) hr ?_; rw [fixCeil, mulDivUp, if_neg (by omega)]; rfl)
      | (have h0 : 0 < d := by assumption
         unfold inR at hd
         have hx := @exact_mod (a * 4294967296) d h0 (by omega)
         refine endS_ib (t := (fixCeil a d)) hr ?_
         rw [fixCeil, mulDivUp, if_pos h0]
         simp only [mulDiv, if_pos h0] at *
         first
         | (have hf := wideInt_f (by assumption); rw [hf]; rfl)
         | (have ht := wideInt_t (by assumption)
            have hk := (by assumption : (wideInt (a * 4294967296 / d)).2 = true)
            have hin := ht.2
            unfold inR at hin
            rw [ht.1] at hc
            rw [if_pos hk]
            by_cases he : a * 4294967296 % d = 0
            · first
                | exact absurd (hx.2 he) hc
                | (rw [if_pos he]; simp only [ht.1, hk])
            · first
                | exact absurd (hx.1 hc) he
                | (rw [if_neg he, ht.1]
                   by_cases hmax : a * 4294967296 / d = 9223372036854775807
                   · rw [if_pos hmax, hmax]; rfl
                   · rw [if_neg hmax, wrap_om (by omega) (by omega)])))
  · cases hF

-- divDown
def divDown (a b : Int) : Int × Bool := if fixOk a && fixOk b then (if b < 0 then fixed (mulDiv (-a) 4294967296 (-b)).1 (mulDiv (-a) 4294967296 (-b)).2 else fixed (mulDiv a 4294967296 b).1 (mulDiv a 4294967296 b).2) else (0, false)
def divUp (a b : Int) : Int × Bool := if fixOk a && fixOk b then (-(divDown (-a) b).1, (divDown (-a) b).2) else (0, false)
def F_divDown : FT
  | [.c (.p (.int .i64 a)), .c (.p (.int .i64 b))], _ => some (True, .tup [.c (.p (.int .i64 ((divDown a b).1))), .c (.p (.bool ((divDown a b).2)))], [])
  | _, _ => none
theorem F_divDown_eq {a : Int} {b : Int} {g : List PC} : F_divDown [.c (.p (.int .i64 a)), .c (.p (.int .i64 b))] g = some (True, .tup [.c (.p (.int .i64 ((divDown a b).1))), .c (.p (.bool ((divDown a b).2)))], []) := rfl
def F_divUp : FT
  | [.c (.p (.int .i64 a)), .c (.p (.int .i64 b))], _ => some (True, .tup [.c (.p (.int .i64 ((divUp a b).1))), .c (.p (.bool ((divUp a b).2)))], [])
  | _, _ => none
theorem F_divUp_eq {a : Int} {b : Int} {g : List PC} : F_divUp [.c (.p (.int .i64 a)), .c (.p (.int .i64 b))] g = some (True, .tup [.c (.p (.int .i64 ((divUp a b).1))), .c (.p (.bool ((divUp a b).2)))], []) := rfl
theorem divDown_bd (a b : Int) : -1152921504606846976 ≤ (divDown a b).1 ∧ (divDown a b).1 ≤ 1152921504606846976 := by
  unfold divDown
  split
  · split <;> exact fixed_bd _ _
  · simp only; omega
theorem divUp_bd (a b : Int) : -1152921504606846976 ≤ (divUp a b).1 ∧ (divUp a b).1 ≤ 1152921504606846976 := by
  unfold divUp
  have := divDown_bd (-a) b
  split <;> simp only <;> omega
theorem wnegV {a b : Int} : IntKind.i64.wrap (-(divDown a b).1) = -(divDown a b).1 := by
  have := divDown_bd a b; exact wrap_om (by omega) (by omega)
theorem divDown_f {a b : Int} (h : fixOk b = false) : divDown a b = (0, false) := by simp [divDown, h]
theorem divDown_0 {a : Int} : divDown a 0 = (0, false) := by
  unfold divDown
  split
  · rw [if_neg (by omega)]
    simp [mulDiv, fixed]
  · rfl
theorem fix_in2 {n : Int} (h : fixOk n = true) : inR n ∧ inR (-n) ∧ IntKind.i64.wrap (-n) = -n := by
  have h1 := wneg h
  rw [fixOk_iff] at h; unfold inR; omega

-- divI
def divI (a b : Iv) : Iv := if okI a && okI b && !within 0 b.lo b.hi then comb divDown divUp a b else whole
def F_combD : FT
  | [.agg [.int .i64 a1, .int .i64 a2], .agg [.int .i64 b1, .int .i64 b2], .c (.p (.fn 53)), .c (.p (.fn 54))], _ => some (True, .v (.agg [.int .i64 ((comb divDown divUp (Iv.mk a1 a2) (Iv.mk b1 b2))).lo, .int .i64 ((comb divDown divUp (Iv.mk a1 a2) (Iv.mk b1 b2))).hi]), [])
  | _, _ => none
theorem F_combD_eq {a1 : Int} {a2 : Int} {b1 : Int} {b2 : Int} {g : List PC} : F_combD [.agg [.int .i64 a1, .int .i64 a2], .agg [.int .i64 b1, .int .i64 b2], .c (.p (.fn 53)), .c (.p (.fn 54))] g = some (True, .v (.agg [.int .i64 ((comb divDown divUp (Iv.mk a1 a2) (Iv.mk b1 b2))).lo, .int .i64 ((comb divDown divUp (Iv.mk a1 a2) (Iv.mk b1 b2))).hi]), []) := rfl
def F_divI : FT
  | [.agg [.int .i64 a1, .int .i64 a2], .agg [.int .i64 b1, .int .i64 b2]], _ => some (True, .v (.agg [.int .i64 ((divI (Iv.mk a1 a2) (Iv.mk b1 b2))).lo, .int .i64 ((divI (Iv.mk a1 a2) (Iv.mk b1 b2))).hi]), [])
  | _, _ => none
theorem F_divI_eq {a1 : Int} {a2 : Int} {b1 : Int} {b2 : Int} {g : List PC} : F_divI [.agg [.int .i64 a1, .int .i64 a2], .agg [.int .i64 b1, .int .i64 b2]] g = some (True, .v (.agg [.int .i64 ((divI (Iv.mk a1 a2) (Iv.mk b1 b2))).lo, .int .i64 ((divI (Iv.mk a1 a2) (Iv.mk b1 b2))).hi]), []) := rfl
theorem minV {a b : Int} : min 1152921504606846976 (divDown a b).1 = (divDown a b).1 := by
  have := divDown_bd a b; omega
theorem maxV {a b : Int} : max (-1152921504606846976) (divUp a b).1 = (divUp a b).1 := by
  have := divUp_bd a b; omega

-- quotient
def quotP (n d : Int) : Iv := if (fixFloor n d).2 && (fixCeil n d).2 then mkI (fixFloor n d).1 (fixCeil n d).1 else whole
def quotI (n d : Int) : Iv := if d < 0 then (if n = -9223372036854775808 ∨ d = -9223372036854775808 then whole else quotP (-n) (-d)) else quotP n d
def F_quotI : FT
  | [.c (.p (.int .i64 n)), .c (.p (.int .i64 d))], _ => some (inR n ∧ inR d, .v (.agg [.int .i64 ((quotI n d)).lo, .int .i64 ((quotI n d)).hi]), [])
  | _, _ => none
theorem F_quotI_eq {n : Int} {d : Int} {g : List PC} : F_quotI [.c (.p (.int .i64 n)), .c (.p (.int .i64 d))] g = some (inR n ∧ inR d, .v (.agg [.int .i64 ((quotI n d)).lo, .int .i64 ((quotI n d)).hi]), []) := rfl

theorem quotI_neg {n d : Int} (h : d < 0) (h1 : n ≠ -9223372036854775808) (h2 : d ≠ -9223372036854775808) : quotI n d = if (fixFloor (-n) (-d)).2 && (fixCeil (-n) (-d)).2 then mkI (fixFloor (-n) (-d)).1 (fixCeil (-n) (-d)).1 else whole := by
  unfold quotI
  rw [if_pos h, if_neg (by omega)]; rfl
theorem quotI_pos {n d : Int} (h : ¬ d < 0) : quotI n d = if (fixFloor n d).2 && (fixCeil n d).2 then mkI (fixFloor n d).1 (fixCeil n d).1 else whole := by
  unfold quotI
  rw [if_neg h]; rfl
theorem quotI_edge {n d : Int} (h : d < 0) (h1 : n = -9223372036854775808 ∨ d = -9223372036854775808) : quotI n d = whole := by
  unfold quotI
  rw [if_pos h, if_pos h1]

end Go.Proofs.YtcnapkdccjibpaaGreatDoor.Eng
