/- What functions of the program compute, and that the program computes it: part 16. -/
import Derived.Test.YtcnapkdccjibpaaTab
import Derived.Test.YtcnapkdccjibpaaEng16
import Derived.Laws.BitsLemmas
import Derived.Laws.Bits64
import Derived.Laws.Bits64b
import Derived.Lib.Mul64
import Derived.Lib.BitFns
import Derived.Laws.Externs
import Derived.Test.YtcnapkdccjibpaaL1
import Derived.Test.YtcnapkdccjibpaaL2
import Derived.Test.YtcnapkdccjibpaaL4
import Derived.Test.YtcnapkdccjibpaaL12
import Derived.Test.YtcnapkdccjibpaaL14
import Derived.Test.YtcnapkdccjibpaaL15
namespace Go.Proofs.Ytcnapkdccjibpaa.Eng
open Go Go.RowKit
set_option linter.unusedVariables false
set_option linter.unusedSimpArgs false
set_option maxRecDepth 100000
set_option maxHeartbeats 1000000
-- impl.PolyAt
theorem impl_PolyAt_pv_ok : Mn Try.prog 19 M_pv := by
  refine mn_of_go (O := orcM [⟨36, F_notOk, .inl impl_IsWhole_notOk_ok⟩, ⟨39, F_addI, .inl impl_AddI_addI_ok⟩, ⟨44, F_whole, .inl impl_Whole_whole_ok⟩, ⟨45, F_mulI, .inl impl_MulI_mulI_ok⟩] [⟨11, M_pok, true, fun _ => one_pok, impl_ValidPoly_pok_ok⟩]) mixed T_ok (orcM_sound _ _) Try.func19 (by kernel_rfl) rfl Try.ntmps19 (by kernel_rfl) Try.results19 ?_
  intro m args hp pre r h' hM hpre
  unfold M_pv at hM
  split at hM
  · rename_i sl a b
    cases hs : rowOf hp sl with
    | none => rw [hs] at hM; cases hM
    | some L =>
      rw [hs, pvO_some] at hM
      simp only [Option.some.injEq, Prod.mk.injEq] at hM
      obtain ⟨rfl, hr, hh⟩ := hM
      subst hr hh
      refine ⟨by simp, ?_⟩
      cases hp1 : pok L with
      | false =>
        have hv : polyV L ⟨a, b⟩ = whole := by unfold polyV; rw [hp1]; rfl
        rw [hv]
        rcases rowOf_out hs with ⟨i, rfl, hi, hL0, hL1⟩ | ⟨rfl, i, o, rfl⟩ | ⟨rfl, rfl⟩
        · obtain ⟨q1, q2, q3, q4⟩ := bq_i (get_lt hi)
          simp (config := { maxSteps := 4000000, implicitDefEqProofs := false }) only [F_addI_eq, F_mulI_eq, F_notOk_eq, F_whole_eq, WK0, WK1, WK2, WK3, WK4, WK5, WK6, WK7, WK8, WK9, WK10, WK11, WK12, WK13, WK14, WK15, WK16, WK17, WK18, WK19, WK20, WK21, WK22, WK23, WK24, WK25, WK26, WK27, WK28, WK29, WK30, look_hit, look_miss, List.map_cons, List.map_nil, Nat.add_zero, max_v, min_v, ↓cnd_t, ↓cnd_f, ↓grd_b, ↓grd_u, startEnv, Option.map_some, List.length_nil, List.length_cons, List.nil_append, List.cons_append, List.getElem?_cons_zero, List.getElem?_cons_succ, List.set_cons_zero, List.set_cons_succ, Bool.not_true, Bool.not_false, reduceIte, Nat.reduceEqDiff, Nat.reduceAdd, Nat.reduceLT, blt_lit, beq_lit, Bool.or_true, Bool.true_or, Bool.or_false, Bool.false_or, Bool.and_true, Bool.true_and, Bool.and_self, cond_true, cond_false, List.append_nil, Iv.eta, Option.map_none, idxO_l0, idxO_l1, decide_true, decide_false, reqs_true, Int.zero_sub, wrap_lit, wrapu_lit, Int.reduceLE, Int.reduceLT, Int.reduceAdd, Int.reduceSub, Int.reduceMul, Int.reduceNeg, Int.reduceEq, Option.bind_some, bin_shr_u64, bin_shl_u64, bin_shr_i64, bin_shl_i64, and_m32', Int.reduceToNat, Int.reducePow, Int.reduceMod, Int.reduceDiv, wrap_u64s, true_or, or_true, true_and, and_true, Option.isSome_none, Option.isSome_some, Nat.reduceLeDiff, Nat.reduceMul, Int.toNat_natCast, Int.cast_ofNat_Int, Int.natCast_zero, Int.natCast_one, List.isEmpty_nil, List.isEmpty_cons, List.replicate_zero, List.replicate_succ, T1, T2, T3, T4, T5, T6, T9, T10, T11, T12, T21, T22, T23, T24, T25, T26, T27, T28, T30, T31, T32, T33, T34, T35, T36, T37, T38, T39, T40, T41, T42, T44, T45, T46, T47, T48, T49, T50, T51, T52, T53, T55, T56, T57, T58, T59, T60, T61, T63, T64, T66, T67, T68, T69, T70, T71, T72, T73, T74, T75, T76, T77, T78, T79, T80, T81, T82, T83, T84, T86, T87, T88, T89, T91, T93, T94, T95, T98, T100, T106, T107, T108, T109, T110, T112, T113, M_pok_eq, hs, boolO_some, rowOf_app hs, hp1, bx_get, bx_get0, bx_set, bx_set0, List.append_assoc, List.length_append, q1, q2, q3, q4, bq_aa, bq_0l, bq_0r, Iv.eta]
          repeat' (first | with_reducible refine cnd_split (fun hc => ?_) (fun hc => ?_) | with_reducible refine Reqs.mk ?_ ?_)
          all_goals first | trivial | exact endM_ak
        · simp (config := { maxSteps := 4000000, implicitDefEqProofs := false }) only [F_addI_eq, F_mulI_eq, F_notOk_eq, F_whole_eq, WK0, WK1, WK2, WK3, WK4, WK5, WK6, WK7, WK8, WK9, WK10, WK11, WK12, WK13, WK14, WK15, WK16, WK17, WK18, WK19, WK20, WK21, WK22, WK23, WK24, WK25, WK26, WK27, WK28, WK29, WK30, look_hit, look_miss, List.map_cons, List.map_nil, Nat.add_zero, max_v, min_v, ↓cnd_t, ↓cnd_f, ↓grd_b, ↓grd_u, startEnv, Option.map_some, List.length_nil, List.length_cons, List.nil_append, List.cons_append, List.getElem?_cons_zero, List.getElem?_cons_succ, List.set_cons_zero, List.set_cons_succ, Bool.not_true, Bool.not_false, reduceIte, Nat.reduceEqDiff, Nat.reduceAdd, Nat.reduceLT, blt_lit, beq_lit, Bool.or_true, Bool.true_or, Bool.or_false, Bool.false_or, Bool.and_true, Bool.true_and, Bool.and_self, cond_true, cond_false, List.append_nil, Iv.eta, Option.map_none, idxO_l0, idxO_l1, decide_true, decide_false, reqs_true, Int.zero_sub, wrap_lit, wrapu_lit, Int.reduceLE, Int.reduceLT, Int.reduceAdd, Int.reduceSub, Int.reduceMul, Int.reduceNeg, Int.reduceEq, Option.bind_some, bin_shr_u64, bin_shl_u64, bin_shr_i64, bin_shl_i64, and_m32', Int.reduceToNat, Int.reducePow, Int.reduceMod, Int.reduceDiv, wrap_u64s, true_or, or_true, true_and, and_true, Option.isSome_none, Option.isSome_some, Nat.reduceLeDiff, Nat.reduceMul, Int.toNat_natCast, Int.cast_ofNat_Int, Int.natCast_zero, Int.natCast_one, List.isEmpty_nil, List.isEmpty_cons, List.replicate_zero, List.replicate_succ, T1, T2, T3, T4, T5, T6, T9, T10, T11, T12, T21, T22, T23, T24, T25, T26, T27, T28, T30, T31, T32, T33, T34, T35, T36, T37, T38, T39, T40, T41, T42, T44, T45, T46, T47, T48, T49, T50, T51, T52, T53, T55, T56, T57, T58, T59, T60, T61, T63, T64, T66, T67, T68, T69, T70, T71, T72, T73, T74, T75, T76, T77, T78, T79, T80, T81, T82, T83, T84, T86, T87, T88, T89, T91, T93, T94, T95, T98, T100, T106, T107, T108, T109, T110, T112, T113, M_pok_eq, hs, boolO_some, rowOf_app hs, hp1, bx_get, bx_get0, bx_set, bx_set0, List.append_assoc, List.length_append, bq_aa, bq_0l, bq_0r, Iv.eta]
          repeat' (first | with_reducible refine cnd_split (fun hc => ?_) (fun hc => ?_) | with_reducible refine Reqs.mk ?_ ?_)
          all_goals first | trivial | exact endM_ak
        · simp (config := { maxSteps := 4000000, implicitDefEqProofs := false }) only [F_addI_eq, F_mulI_eq, F_notOk_eq, F_whole_eq, WK0, WK1, WK2, WK3, WK4, WK5, WK6, WK7, WK8, WK9, WK10, WK11, WK12, WK13, WK14, WK15, WK16, WK17, WK18, WK19, WK20, WK21, WK22, WK23, WK24, WK25, WK26, WK27, WK28, WK29, WK30, look_hit, look_miss, List.map_cons, List.map_nil, Nat.add_zero, max_v, min_v, ↓cnd_t, ↓cnd_f, ↓grd_b, ↓grd_u, startEnv, Option.map_some, List.length_nil, List.length_cons, List.nil_append, List.cons_append, List.getElem?_cons_zero, List.getElem?_cons_succ, List.set_cons_zero, List.set_cons_succ, Bool.not_true, Bool.not_false, reduceIte, Nat.reduceEqDiff, Nat.reduceAdd, Nat.reduceLT, blt_lit, beq_lit, Bool.or_true, Bool.true_or, Bool.or_false, Bool.false_or, Bool.and_true, Bool.true_and, Bool.and_self, cond_true, cond_false, List.append_nil, Iv.eta, Option.map_none, idxO_l0, idxO_l1, decide_true, decide_false, reqs_true, Int.zero_sub, wrap_lit, wrapu_lit, Int.reduceLE, Int.reduceLT, Int.reduceAdd, Int.reduceSub, Int.reduceMul, Int.reduceNeg, Int.reduceEq, Option.bind_some, bin_shr_u64, bin_shl_u64, bin_shr_i64, bin_shl_i64, and_m32', Int.reduceToNat, Int.reducePow, Int.reduceMod, Int.reduceDiv, wrap_u64s, true_or, or_true, true_and, and_true, Option.isSome_none, Option.isSome_some, Nat.reduceLeDiff, Nat.reduceMul, Int.toNat_natCast, Int.cast_ofNat_Int, Int.natCast_zero, Int.natCast_one, List.isEmpty_nil, List.isEmpty_cons, List.replicate_zero, List.replicate_succ, T1, T2, T3, T4, T5, T6, T9, T10, T11, T12, T21, T22, T23, T24, T25, T26, T27, T28, T30, T31, T32, T33, T34, T35, T36, T37, T38, T39, T40, T41, T42, T44, T45, T46, T47, T48, T49, T50, T51, T52, T53, T55, T56, T57, T58, T59, T60, T61, T63, T64, T66, T67, T68, T69, T70, T71, T72, T73, T74, T75, T76, T77, T78, T79, T80, T81, T82, T83, T84, T86, T87, T88, T89, T91, T93, T94, T95, T98, T100, T106, T107, T108, T109, T110, T112, T113, M_pok_eq, hs, boolO_some, rowOf_app hs, hp1, bx_get, bx_get0, bx_set, bx_set0, List.append_assoc, List.length_append, bq_aa, bq_0l, bq_0r, Iv.eta]
          repeat' (first | with_reducible refine cnd_split (fun hc => ?_) (fun hc => ?_) | with_reducible refine Reqs.mk ?_ ?_)
          all_goals first | trivial | exact endM_ak
      | true =>
        have h0 := pok_pos hp1
        rcases rowOf_out hs with ⟨i, rfl, hi, hL0, hL1⟩ | ⟨rfl, i, o, rfl⟩ | ⟨rfl, rfl⟩
        · have hlt := get_lt hi
          obtain ⟨q1, q2, q3, q4⟩ := bq_i hlt
          have hgB := setB_get hi
          cases ho : okI ⟨a, b⟩ with
          | false =>
            have hv : polyV L ⟨a, b⟩ = whole := by unfold polyV; rw [hp1, ho]; rfl
            rw [hv]
            simp (config := { maxSteps := 4000000, implicitDefEqProofs := false }) only [F_addI_eq, F_mulI_eq, F_notOk_eq, F_whole_eq, WK0, WK1, WK2, WK3, WK4, WK5, WK6, WK7, WK8, WK9, WK10, WK11, WK12, WK13, WK14, WK15, WK16, WK17, WK18, WK19, WK20, WK21, WK22, WK23, WK24, WK25, WK26, WK27, WK28, WK29, WK30, look_hit, look_miss, List.map_cons, List.map_nil, Nat.add_zero, max_v, min_v, ↓cnd_t, ↓cnd_f, ↓grd_b, ↓grd_u, startEnv, Option.map_some, List.length_nil, List.length_cons, List.nil_append, List.cons_append, List.getElem?_cons_zero, List.getElem?_cons_succ, List.set_cons_zero, List.set_cons_succ, Bool.not_true, Bool.not_false, reduceIte, Nat.reduceEqDiff, Nat.reduceAdd, Nat.reduceLT, blt_lit, beq_lit, Bool.or_true, Bool.true_or, Bool.or_false, Bool.false_or, Bool.and_true, Bool.true_and, Bool.and_self, cond_true, cond_false, List.append_nil, Iv.eta, Option.map_none, idxO_l0, idxO_l1, decide_true, decide_false, reqs_true, Int.zero_sub, wrap_lit, wrapu_lit, Int.reduceLE, Int.reduceLT, Int.reduceAdd, Int.reduceSub, Int.reduceMul, Int.reduceNeg, Int.reduceEq, Option.bind_some, bin_shr_u64, bin_shl_u64, bin_shr_i64, bin_shl_i64, and_m32', Int.reduceToNat, Int.reducePow, Int.reduceMod, Int.reduceDiv, wrap_u64s, true_or, or_true, true_and, and_true, Option.isSome_none, Option.isSome_some, Nat.reduceLeDiff, Nat.reduceMul, Int.toNat_natCast, Int.cast_ofNat_Int, Int.natCast_zero, Int.natCast_one, List.isEmpty_nil, List.isEmpty_cons, List.replicate_zero, List.replicate_succ, T1, T2, T3, T4, T5, T6, T9, T10, T11, T12, T21, T22, T23, T24, T25, T26, T27, T28, T30, T31, T32, T33, T34, T35, T36, T37, T38, T39, T40, T41, T42, T44, T45, T46, T47, T48, T49, T50, T51, T52, T53, T55, T56, T57, T58, T59, T60, T61, T63, T64, T66, T67, T68, T69, T70, T71, T72, T73, T74, T75, T76, T77, T78, T79, T80, T81, T82, T83, T84, T86, T87, T88, T89, T91, T93, T94, T95, T98, T100, T106, T107, T108, T109, T110, T112, T113, M_pok_eq, hs, boolO_some, rowOf_app hs, hp1, ho, bx_get, bx_get0, bx_set, bx_set0, List.append_assoc, List.length_append, q1, q2, q3, q4, bq_aa, bq_0l, bq_0r, Iv.eta]
            repeat' (first | with_reducible refine cnd_split (fun hc => ?_) (fun hc => ?_) | with_reducible refine Reqs.mk ?_ ?_)
            all_goals first | trivial | exact endM_ak
          | true =>
            have hv : polyV L ⟨a, b⟩ = polyH L ⟨a, b⟩ := by unfold polyV; rw [hp1, ho]; rfl
            rw [hv]
            obtain ⟨N, hN⟩ : ∃ N : Int, ((L.length : Nat) : Int) = N := ⟨_, rfl⟩
            have w1 : IntKind.i64.wrap (N - 1) = N - 1 := wrap_om (by omega) (by omega)
            have w2 : IntKind.i64.wrap (N - 2) = N - 2 := wrap_om (by omega) (by omega)
            obtain ⟨v, hv⟩ : ∃ v, L[L.length - 1]? = some v := ⟨_, List.getElem?_eq_getElem (by omega)⟩
            have i1 := fun h => @row_iad h i L.length (N - 1) (by omega) (by omega)
            have hNn : (N - 1).toNat = L.length - 1 := by omega
            rw [hNn] at i1
            have hd := loadC_at hv
            simp (config := { maxSteps := 4000000, implicitDefEqProofs := false }) only [F_addI_eq, F_mulI_eq, F_notOk_eq, F_whole_eq, WK0, WK1, WK2, WK3, WK4, WK5, WK6, WK7, WK8, WK9, WK10, WK11, WK12, WK13, WK14, WK15, WK16, WK17, WK18, WK19, WK20, WK21, WK22, WK23, WK24, WK25, WK26, WK27, WK28, WK29, WK30, look_hit, look_miss, List.map_cons, List.map_nil, Nat.add_zero, max_v, min_v, ↓cnd_t, ↓cnd_f, ↓grd_b, ↓grd_u, startEnv, Option.map_some, List.length_nil, List.length_cons, List.nil_append, List.cons_append, List.getElem?_cons_zero, List.getElem?_cons_succ, List.set_cons_zero, List.set_cons_succ, Bool.not_true, Bool.not_false, reduceIte, Nat.reduceEqDiff, Nat.reduceAdd, Nat.reduceLT, blt_lit, beq_lit, Bool.or_true, Bool.true_or, Bool.or_false, Bool.false_or, Bool.and_true, Bool.true_and, Bool.and_self, cond_true, cond_false, List.append_nil, Iv.eta, Option.map_none, idxO_l0, idxO_l1, decide_true, decide_false, reqs_true, Int.zero_sub, wrap_lit, wrapu_lit, Int.reduceLE, Int.reduceLT, Int.reduceAdd, Int.reduceSub, Int.reduceMul, Int.reduceNeg, Int.reduceEq, Option.bind_some, bin_shr_u64, bin_shl_u64, bin_shr_i64, bin_shl_i64, and_m32', Int.reduceToNat, Int.reducePow, Int.reduceMod, Int.reduceDiv, wrap_u64s, true_or, or_true, true_and, and_true, Option.isSome_none, Option.isSome_some, Nat.reduceLeDiff, Nat.reduceMul, Int.toNat_natCast, Int.cast_ofNat_Int, Int.natCast_zero, Int.natCast_one, List.isEmpty_nil, List.isEmpty_cons, List.replicate_zero, List.replicate_succ, T1, T2, T3, T4, T5, T6, T9, T10, T11, T12, T21, T22, T23, T24, T25, T26, T27, T28, T30, T31, T32, T33, T34, T35, T36, T37, T38, T39, T40, T41, T42, T44, T45, T46, T47, T48, T49, T50, T51, T52, T53, T55, T56, T57, T58, T59, T60, T61, T63, T64, T66, T67, T68, T69, T70, T71, T72, T73, T74, T75, T76, T77, T78, T79, T80, T81, T82, T83, T84, T86, T87, T88, T89, T91, T93, T94, T95, T98, T100, T106, T107, T108, T109, T110, T112, T113, M_pok_eq, hs, boolO_some, rowOf_app hs, hp1, ho, hN, w1, w2, i1, hi, hd, hgB, bx_get, bx_get0, bx_set, bx_set0, List.append_assoc, List.length_append, q1, q2, q3, q4, bq_aa, bq_0l, bq_0r, Iv.eta]
            repeat' (first | with_reducible refine cnd_split (fun hc => ?_) (fun hc => ?_) | with_reducible refine Reqs.mk ?_ ?_)
            all_goals first | trivial | skip
            refine go_loop (α := Nat) (fun s => s) (fun s e h => h = hp ++ [[.int .i64 a, .int .i64 b], [.int .i64 0, .int .i64 0], [.int .i64 (polyH (L.drop s) ⟨a, b⟩).lo, .int .i64 (polyH (L.drop s) ⟨a, b⟩).hi]] ∧ look e 0 = some (.v (.c (.row i 0 L.length 2))) ∧ look e 3 = some (.v (.c (.ptr (.own hp.length 0)))) ∧ look e 4 = some (.v (.c (.ptr (.own (hp.length + 1) 0)))) ∧ look e 5 = some (.v (.c (.ptr (.own (hp.length + 2) 0)))) ∧ look e 6 = some (.v (.c (.p (.int .i64 ((s : Int) - 1))))) ∧ s < L.length) (L.length - 1) ⟨?_, rfl, rfl, rfl, rfl, ?_, by omega⟩ ?_
            · rw [polyH_last hv (by omega)]
            · have : ((L.length - 1 : Nat) : Int) - 1 = N - 2 := by omega
              rw [this]; rfl
            rintro X k e h ⟨rfl, l0, l3, l4, l5, l6, hk⟩ hX
            cases k with
            | zero =>
              have e6 : ((0 : Nat) : Int) - 1 = -1 := rfl
              rw [e6] at l6
              have c0 : decide ((0 : Int) ≤ -1) = false := by decide
              rw [List.drop_zero]
              simp (config := { maxSteps := 4000000, implicitDefEqProofs := false }) only [F_addI_eq, F_mulI_eq, F_notOk_eq, F_whole_eq, WK0, WK1, WK2, WK3, WK4, WK5, WK6, WK7, WK8, WK9, WK10, WK11, WK12, WK13, WK14, WK15, WK16, WK17, WK18, WK19, WK20, WK21, WK22, WK23, WK24, WK25, WK26, WK27, WK28, WK29, WK30, look_hit, look_miss, List.map_cons, List.map_nil, Nat.add_zero, max_v, min_v, ↓cnd_t, ↓cnd_f, ↓grd_b, ↓grd_u, startEnv, Option.map_some, List.length_nil, List.length_cons, List.nil_append, List.cons_append, List.getElem?_cons_zero, List.getElem?_cons_succ, List.set_cons_zero, List.set_cons_succ, Bool.not_true, Bool.not_false, reduceIte, Nat.reduceEqDiff, Nat.reduceAdd, Nat.reduceLT, blt_lit, beq_lit, Bool.or_true, Bool.true_or, Bool.or_false, Bool.false_or, Bool.and_true, Bool.true_and, Bool.and_self, cond_true, cond_false, List.append_nil, Iv.eta, Option.map_none, idxO_l0, idxO_l1, decide_true, decide_false, reqs_true, Int.zero_sub, wrap_lit, wrapu_lit, Int.reduceLE, Int.reduceLT, Int.reduceAdd, Int.reduceSub, Int.reduceMul, Int.reduceNeg, Int.reduceEq, Option.bind_some, bin_shr_u64, bin_shl_u64, bin_shr_i64, bin_shl_i64, and_m32', Int.reduceToNat, Int.reducePow, Int.reduceMod, Int.reduceDiv, wrap_u64s, true_or, or_true, true_and, and_true, Option.isSome_none, Option.isSome_some, Nat.reduceLeDiff, Nat.reduceMul, Int.toNat_natCast, Int.cast_ofNat_Int, Int.natCast_zero, Int.natCast_one, List.isEmpty_nil, List.isEmpty_cons, List.replicate_zero, List.replicate_succ, T1, T2, T3, T4, T5, T6, T9, T10, T11, T12, T21, T22, T23, T24, T25, T26, T27, T28, T30, T31, T32, T33, T34, T35, T36, T37, T38, T39, T40, T41, T42, T44, T45, T46, T47, T48, T49, T50, T51, T52, T53, T55, T56, T57, T58, T59, T60, T61, T63, T64, T66, T67, T68, T69, T70, T71, T72, T73, T74, T75, T76, T77, T78, T79, T80, T81, T82, T83, T84, T86, T87, T88, T89, T91, T93, T94, T95, T98, T100, T106, T107, T108, T109, T110, T112, T113, l0, l3, l4, l5, l6, c0, bx_get, bx_get0, bx_set, bx_set0, q1, q2, q3, q4, bq_aa, bq_0l, bq_0r]
              exact endM_ak
            | succ k =>
              have e6 : ((k + 1 : Nat) : Int) - 1 = (k : Int) := by omega
              rw [e6] at l6
              obtain ⟨K, hK⟩ : ∃ K : Int, (k : Int) = K := ⟨_, rfl⟩
              rw [hK] at l6
              have c0 : decide (0 ≤ K) = true := by simp only [decide_eq_true_eq]; omega
              obtain ⟨u, hu⟩ : ∃ u, L[k]? = some u := ⟨_, List.getElem?_eq_getElem (by omega)⟩
              have i2 := fun h => @row_iad h i L.length K (by omega) (by omega)
              have hKn : K.toNat = k := by omega
              rw [hKn] at i2
              have hd2 := loadC_at hu
              have w3 : IntKind.i64.wrap (K - 1) = K - 1 := wrap_om (by omega) (by omega)
              have hst := polyH_step (x := ⟨a, b⟩) hu hk
              simp (config := { maxSteps := 4000000, implicitDefEqProofs := false }) only [F_addI_eq, F_mulI_eq, F_notOk_eq, F_whole_eq, WK0, WK1, WK2, WK3, WK4, WK5, WK6, WK7, WK8, WK9, WK10, WK11, WK12, WK13, WK14, WK15, WK16, WK17, WK18, WK19, WK20, WK21, WK22, WK23, WK24, WK25, WK26, WK27, WK28, WK29, WK30, look_hit, look_miss, List.map_cons, List.map_nil, Nat.add_zero, max_v, min_v, ↓cnd_t, ↓cnd_f, ↓grd_b, ↓grd_u, startEnv, Option.map_some, List.length_nil, List.length_cons, List.nil_append, List.cons_append, List.getElem?_cons_zero, List.getElem?_cons_succ, List.set_cons_zero, List.set_cons_succ, Bool.not_true, Bool.not_false, reduceIte, Nat.reduceEqDiff, Nat.reduceAdd, Nat.reduceLT, blt_lit, beq_lit, Bool.or_true, Bool.true_or, Bool.or_false, Bool.false_or, Bool.and_true, Bool.true_and, Bool.and_self, cond_true, cond_false, List.append_nil, Iv.eta, Option.map_none, idxO_l0, idxO_l1, decide_true, decide_false, reqs_true, Int.zero_sub, wrap_lit, wrapu_lit, Int.reduceLE, Int.reduceLT, Int.reduceAdd, Int.reduceSub, Int.reduceMul, Int.reduceNeg, Int.reduceEq, Option.bind_some, bin_shr_u64, bin_shl_u64, bin_shr_i64, bin_shl_i64, and_m32', Int.reduceToNat, Int.reducePow, Int.reduceMod, Int.reduceDiv, wrap_u64s, true_or, or_true, true_and, and_true, Option.isSome_none, Option.isSome_some, Nat.reduceLeDiff, Nat.reduceMul, Int.toNat_natCast, Int.cast_ofNat_Int, Int.natCast_zero, Int.natCast_one, List.isEmpty_nil, List.isEmpty_cons, List.replicate_zero, List.replicate_succ, T1, T2, T3, T4, T5, T6, T9, T10, T11, T12, T21, T22, T23, T24, T25, T26, T27, T28, T30, T31, T32, T33, T34, T35, T36, T37, T38, T39, T40, T41, T42, T44, T45, T46, T47, T48, T49, T50, T51, T52, T53, T55, T56, T57, T58, T59, T60, T61, T63, T64, T66, T67, T68, T69, T70, T71, T72, T73, T74, T75, T76, T77, T78, T79, T80, T81, T82, T83, T84, T86, T87, T88, T89, T91, T93, T94, T95, T98, T100, T106, T107, T108, T109, T110, T112, T113, l0, l3, l4, l5, l6, c0, i2, hd2, hgB, w3, bx_get, bx_get0, bx_set, bx_set0, q1, q2, q3, q4, bq_aa, bq_0l, bq_0r, Iv.eta]
              refine hX k _ _ (Nat.lt_succ_self _) ⟨?_, ?_, ?_, ?_, ?_, ?_, by omega⟩
              · rw [hst]
              · simp [look, l0]
              · simp [look, l3]
              · simp [look, l4]
              · simp [look, l5]
              · rw [← hK]; rfl
        · simp at h0
        · simp at h0
  · cases hM

-- def FnExactValidPoly
def M_lawValidPoly : MT := fun m args h => match args, h with
  | [.c (.p (.sl a n c))], [] => some (ToldI m a n ∧ (n : Int) ≤ 9223372036854775807, .v (.c (.p (.bool true))), [])
  | _, _ => none
theorem rowQ_at {m : Addr → Option PC} {a : Option Addr} {n : Nat} (h0 : 0 < n) (h1 : n ≤ 1048576) : rowQ n (some (ivsAt m a n)) = some (ivsAt m a n) := rowQ_of ivsAt_len.symm h0 h1
theorem end_true {l : Heap} : endM 0 (.v (.c (.p (.bool true)))) [] l (some [.c (.p (.bool true))]) := endM_same rfl trivial rfl rfl (by simp) rfl

end Go.Proofs.Ytcnapkdccjibpaa.Eng
