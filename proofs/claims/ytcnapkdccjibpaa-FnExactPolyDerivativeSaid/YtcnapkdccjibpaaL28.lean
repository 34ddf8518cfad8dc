/- What functions of the program compute, and that the program computes it: part 28. -/
import Derived.Test.YtcnapkdccjibpaaTab
import Derived.Test.YtcnapkdccjibpaaEng16
import Derived.Laws.BitsLemmas
import Derived.Laws.Bits64
import Derived.Laws.Bits64b
import Derived.Lib.Mul64
import Derived.Lib.BitFns
import Derived.Laws.Externs
import Derived.Test.YtcnapkdccjibpaaL1
import Derived.Test.YtcnapkdccjibpaaL2
import Derived.Test.YtcnapkdccjibpaaL3
import Derived.Test.YtcnapkdccjibpaaL5
import Derived.Test.YtcnapkdccjibpaaL22
import Derived.Test.YtcnapkdccjibpaaL24
import Derived.Test.YtcnapkdccjibpaaL26
import Derived.Test.YtcnapkdccjibpaaL27
namespace Go.Proofs.Ytcnapkdccjibpaa.Eng
open Go Go.RowKit
set_option linter.unusedVariables false
set_option linter.unusedSimpArgs false
set_option maxRecDepth 100000
set_option maxHeartbeats 1000000
-- laws.markIntervalS
theorem laws_markIntervalS_mark_ok : Mn Try.prog 15 M_mark := by
  refine mn_of_go (O := orc []) mixed T_ok (orc_sound _) Try.func15 (by kernel_rfl) rfl Try.ntmps15 (by kernel_rfl) Try.results15 ?_
  intro m args hp pre r h' hM hpre
  unfold M_mark at hM
  split at hM
  · rename_i sl k0
    cases hs : rowOf hp sl with
    | none =>
      rw [hs] at hM
      unfold markO at hM
      split at hM <;> simp_all
    | some L =>
      rw [hs] at hM
      rcases rowOf_out hs with ⟨i, rfl, hi, hL0, hL1⟩ | ⟨rfl, i, o, rfl⟩ | ⟨rfl, rfl⟩
      · rw [markO_row] at hM
        simp only [Option.some.injEq, Prod.mk.injEq] at hM
        obtain ⟨rfl, hr, hh⟩ := hM
        refine ⟨by simp, ?_⟩
        have hg := setAt_get hi
        simp (config := { maxSteps := 4000000, implicitDefEqProofs := false }) only [WK0, WK1, WK2, WK3, WK4, WK5, WK6, WK7, WK8, WK9, WK10, WK11, WK12, WK13, WK14, WK15, WK16, WK17, WK18, WK19, WK20, WK21, WK22, WK23, WK24, WK25, WK26, WK27, WK28, look_hit, look_miss, List.map_cons, List.map_nil, Nat.add_zero, max_v, min_v, ↓cnd_t, ↓cnd_f, ↓grd_b, ↓grd_u, startEnv, Option.map_some, List.length_nil, List.length_cons, List.nil_append, List.cons_append, List.getElem?_cons_zero, List.getElem?_cons_succ, List.set_cons_zero, List.set_cons_succ, Bool.not_true, Bool.not_false, reduceIte, Nat.reduceEqDiff, Nat.reduceAdd, Nat.reduceLT, blt_lit, beq_lit, Bool.or_true, Bool.true_or, Bool.or_false, Bool.false_or, Bool.and_true, Bool.true_and, Bool.and_self, cond_true, cond_false, List.append_nil, Iv.eta, Option.map_none, idxO_l0, idxO_l1, decide_true, decide_false, reqs_true, Int.zero_sub, wrap_lit, wrapu_lit, Int.reduceLE, Int.reduceLT, Int.reduceAdd, Int.reduceSub, Int.reduceMul, Int.reduceNeg, Int.reduceEq, Option.bind_some, bin_shr_u64, bin_shl_u64, bin_shr_i64, bin_shl_i64, and_m32', Int.reduceToNat, Int.reducePow, Int.reduceMod, Int.reduceDiv, wrap_u64s, true_or, or_true, true_and, and_true, Option.isSome_none, Option.isSome_some, Nat.reduceLeDiff, Nat.reduceMul, Int.toNat_natCast, Int.cast_ofNat_Int, Int.natCast_zero, Int.natCast_one, List.isEmpty_nil, List.isEmpty_cons, List.replicate_zero, List.replicate_succ, T1, T2, T3, T4, T5, T6, T9, T10, T11, T12, T21, T22, T23, T24, T25, T26, T27, T28, T30, T31, T32, T33, T34, T35, T36, T37, T38, T39, T40, T41, T42, T44, T45, T46, T47, T48, T49, T50, T51, T52, T53, T55, T56, T57, T58, T59, T60, T61, T63, T64, T66, T67, T68, T69, T70, T71, T72, T73, T74, T75, T76, T77, T78, T79, T80, T81, T82, T83, T84, T86, T87, T88, T89, T91, T93, T94, T95, T98, T100, T106, T107, T108, T109, T110, T112, T113]
        obtain ⟨N, hN⟩ : ∃ N : Int, ((L.length : Nat) : Int) = N := ⟨_, rfl⟩
        refine go_loop (α := Nat × List Iv) (fun s => L.length - s.1) (fun s e h => h = hp.set i (cellsI s.2) ∧ look e 0 = some (.v (.c (.row i 0 L.length 2))) ∧ look e 5 = some (.v (.c (.p (.int .i64 (s.1 : Int))))) ∧ look e 1 = some (.v (.c (.p (.int .i64 (k0 + 2 * s.1))))) ∧ s.1 ≤ L.length ∧ s.2.length = L.length ∧ s.2.take s.1 = markL s.1 k0) (0, L) ⟨(set_same hi).symm, rfl, rfl, by simp [look, startEnv], by simp, rfl, by simp [markL]⟩ ?_
        rintro X ⟨k, V⟩ e h ⟨rfl, l0, l5, l1, hk, hV, ht⟩ hX
        simp only at l5 l1 hk hV ht hX
        obtain ⟨K, hK⟩ : ∃ K : Int, (k : Int) = K := ⟨_, rfl⟩
        rw [hK] at l5 l1
        obtain ⟨q, hq⟩ : ∃ q : Int, k0 + 2 * K = q := ⟨_, rfl⟩
        rw [hq] at l1
        by_cases hkl : k < L.length
        · have c0 : decide (K < N) = true := by simp only [decide_eq_true_eq]; omega
          obtain ⟨v, hv⟩ : ∃ v, V[k]? = some v := ⟨_, List.getElem?_eq_getElem (by omega)⟩
          have hv2 : (V.set k ⟨q, v.hi⟩)[k]? = some ⟨q, v.hi⟩ := List.getElem?_set_self (by omega)
          have s1 := fun h => @storeC_lo h i k V v q hv
          have s2 := fun h => @storeC_hi h i k _ _ (q + 1) hv2
          have w1 : IntKind.i64.wrap (K + 1) = K + 1 := wrap_om (by omega) (by omega)
          have w2 : IntKind.i64.wrap (q + 1) = q + 1 := wrap_om (by omega) (by omega)
          have w3 : IntKind.i64.wrap (q + 1 + 1) = q + 1 + 1 := wrap_om (by omega) (by omega)
          have i1 := fun h => @row_iad h i L.length K (by omega) (by omega)
          have hKn : K.toNat = k := by omega
          rw [hKn] at i1
          simp (config := { maxSteps := 4000000, implicitDefEqProofs := false }) only [WK0, WK1, WK2, WK3, WK4, WK5, WK6, WK7, WK8, WK9, WK10, WK11, WK12, WK13, WK14, WK15, WK16, WK17, WK18, WK19, WK20, WK21, WK22, WK23, WK24, WK25, WK26, WK27, WK28, look_hit, look_miss, List.map_cons, List.map_nil, Nat.add_zero, max_v, min_v, ↓cnd_t, ↓cnd_f, ↓grd_b, ↓grd_u, startEnv, Option.map_some, List.length_nil, List.length_cons, List.nil_append, List.cons_append, List.getElem?_cons_zero, List.getElem?_cons_succ, List.set_cons_zero, List.set_cons_succ, Bool.not_true, Bool.not_false, reduceIte, Nat.reduceEqDiff, Nat.reduceAdd, Nat.reduceLT, blt_lit, beq_lit, Bool.or_true, Bool.true_or, Bool.or_false, Bool.false_or, Bool.and_true, Bool.true_and, Bool.and_self, cond_true, cond_false, List.append_nil, Iv.eta, Option.map_none, idxO_l0, idxO_l1, decide_true, decide_false, reqs_true, Int.zero_sub, wrap_lit, wrapu_lit, Int.reduceLE, Int.reduceLT, Int.reduceAdd, Int.reduceSub, Int.reduceMul, Int.reduceNeg, Int.reduceEq, Option.bind_some, bin_shr_u64, bin_shl_u64, bin_shr_i64, bin_shl_i64, and_m32', Int.reduceToNat, Int.reducePow, Int.reduceMod, Int.reduceDiv, wrap_u64s, true_or, or_true, true_and, and_true, Option.isSome_none, Option.isSome_some, Nat.reduceLeDiff, Nat.reduceMul, Int.toNat_natCast, Int.cast_ofNat_Int, Int.natCast_zero, Int.natCast_one, List.isEmpty_nil, List.isEmpty_cons, List.replicate_zero, List.replicate_succ, T1, T2, T3, T4, T5, T6, T9, T10, T11, T12, T21, T22, T23, T24, T25, T26, T27, T28, T30, T31, T32, T33, T34, T35, T36, T37, T38, T39, T40, T41, T42, T44, T45, T46, T47, T48, T49, T50, T51, T52, T53, T55, T56, T57, T58, T59, T60, T61, T63, T64, T66, T67, T68, T69, T70, T71, T72, T73, T74, T75, T76, T77, T78, T79, T80, T81, T82, T83, T84, T86, T87, T88, T89, T91, T93, T94, T95, T98, T100, T106, T107, T108, T109, T110, T112, T113, l0, l1, l5, hN, c0, i1, hg, s1, s2, List.set_set, faddr_1g, w1, w2, w3]
          refine hX (k + 1, V.set k ⟨q, q + 1⟩) _ _ (by simp only; omega) ⟨?_, ?_, ?_, ?_, by simp only; omega, by simpa using hV, ?_⟩
          · simp [List.set_set]
          · simp [look, l0]
          · rw [← hK]; rfl
          · have : k0 + 2 * ((k + 1 : Nat) : Int) = q + 1 + 1 := by omega
            rw [this]; rfl
          · have e1 : k0 + 2 * (k : Int) = q := by omega
            simp only
            rw [List.take_add_one, List.take_set, ht, List.getElem?_set_self (by omega), List.set_eq_of_length_le (by rw [markL_len]; omega), markL_snoc, e1]
            rfl
        · have c0 : decide (K < N) = false := by simp only [decide_eq_false_iff_not]; omega
          have hVe : V = markL L.length k0 := by
            have e1 : V.take k = V := List.take_of_length_le (by omega)
            have e2 : k = L.length := by omega
            rw [e1, e2] at ht
            exact ht
          have hq' : q = k0 + 2 * (L.length : Int) := by omega
          simp (config := { maxSteps := 4000000, implicitDefEqProofs := false }) only [WK0, WK1, WK2, WK3, WK4, WK5, WK6, WK7, WK8, WK9, WK10, WK11, WK12, WK13, WK14, WK15, WK16, WK17, WK18, WK19, WK20, WK21, WK22, WK23, WK24, WK25, WK26, WK27, WK28, look_hit, look_miss, List.map_cons, List.map_nil, Nat.add_zero, max_v, min_v, ↓cnd_t, ↓cnd_f, ↓grd_b, ↓grd_u, startEnv, Option.map_some, List.length_nil, List.length_cons, List.nil_append, List.cons_append, List.getElem?_cons_zero, List.getElem?_cons_succ, List.set_cons_zero, List.set_cons_succ, Bool.not_true, Bool.not_false, reduceIte, Nat.reduceEqDiff, Nat.reduceAdd, Nat.reduceLT, blt_lit, beq_lit, Bool.or_true, Bool.true_or, Bool.or_false, Bool.false_or, Bool.and_true, Bool.true_and, Bool.and_self, cond_true, cond_false, List.append_nil, Iv.eta, Option.map_none, idxO_l0, idxO_l1, decide_true, decide_false, reqs_true, Int.zero_sub, wrap_lit, wrapu_lit, Int.reduceLE, Int.reduceLT, Int.reduceAdd, Int.reduceSub, Int.reduceMul, Int.reduceNeg, Int.reduceEq, Option.bind_some, bin_shr_u64, bin_shl_u64, bin_shr_i64, bin_shl_i64, and_m32', Int.reduceToNat, Int.reducePow, Int.reduceMod, Int.reduceDiv, wrap_u64s, true_or, or_true, true_and, and_true, Option.isSome_none, Option.isSome_some, Nat.reduceLeDiff, Nat.reduceMul, Int.toNat_natCast, Int.cast_ofNat_Int, Int.natCast_zero, Int.natCast_one, List.isEmpty_nil, List.isEmpty_cons, List.replicate_zero, List.replicate_succ, T1, T2, T3, T4, T5, T6, T9, T10, T11, T12, T21, T22, T23, T24, T25, T26, T27, T28, T30, T31, T32, T33, T34, T35, T36, T37, T38, T39, T40, T41, T42, T44, T45, T46, T47, T48, T49, T50, T51, T52, T53, T55, T56, T57, T58, T59, T60, T61, T63, T64, T66, T67, T68, T69, T70, T71, T72, T73, T74, T75, T76, T77, T78, T79, T80, T81, T82, T83, T84, T86, T87, T88, T89, T91, T93, T94, T95, T98, T100, T106, T107, T108, T109, T110, T112, T113, l0, l1, l5, hN, c0]
          subst hh
          rw [← hr, hVe, hq']
          exact endM_src0
      · rw [markO_emp] at hM
        simp only [Option.some.injEq, Prod.mk.injEq] at hM
        obtain ⟨rfl, hr, hh⟩ := hM
        subst hr hh
        refine ⟨by simp, ?_⟩
        simp (config := { maxSteps := 4000000, implicitDefEqProofs := false }) only [WK0, WK1, WK2, WK3, WK4, WK5, WK6, WK7, WK8, WK9, WK10, WK11, WK12, WK13, WK14, WK15, WK16, WK17, WK18, WK19, WK20, WK21, WK22, WK23, WK24, WK25, WK26, WK27, WK28, look_hit, look_miss, List.map_cons, List.map_nil, Nat.add_zero, max_v, min_v, ↓cnd_t, ↓cnd_f, ↓grd_b, ↓grd_u, startEnv, Option.map_some, List.length_nil, List.length_cons, List.nil_append, List.cons_append, List.getElem?_cons_zero, List.getElem?_cons_succ, List.set_cons_zero, List.set_cons_succ, Bool.not_true, Bool.not_false, reduceIte, Nat.reduceEqDiff, Nat.reduceAdd, Nat.reduceLT, blt_lit, beq_lit, Bool.or_true, Bool.true_or, Bool.or_false, Bool.false_or, Bool.and_true, Bool.true_and, Bool.and_self, cond_true, cond_false, List.append_nil, Iv.eta, Option.map_none, idxO_l0, idxO_l1, decide_true, decide_false, reqs_true, Int.zero_sub, wrap_lit, wrapu_lit, Int.reduceLE, Int.reduceLT, Int.reduceAdd, Int.reduceSub, Int.reduceMul, Int.reduceNeg, Int.reduceEq, Option.bind_some, bin_shr_u64, bin_shl_u64, bin_shr_i64, bin_shl_i64, and_m32', Int.reduceToNat, Int.reducePow, Int.reduceMod, Int.reduceDiv, wrap_u64s, true_or, or_true, true_and, and_true, Option.isSome_none, Option.isSome_some, Nat.reduceLeDiff, Nat.reduceMul, Int.toNat_natCast, Int.cast_ofNat_Int, Int.natCast_zero, Int.natCast_one, List.isEmpty_nil, List.isEmpty_cons, List.replicate_zero, List.replicate_succ, T1, T2, T3, T4, T5, T6, T9, T10, T11, T12, T21, T22, T23, T24, T25, T26, T27, T28, T30, T31, T32, T33, T34, T35, T36, T37, T38, T39, T40, T41, T42, T44, T45, T46, T47, T48, T49, T50, T51, T52, T53, T55, T56, T57, T58, T59, T60, T61, T63, T64, T66, T67, T68, T69, T70, T71, T72, T73, T74, T75, T76, T77, T78, T79, T80, T81, T82, T83, T84, T86, T87, T88, T89, T91, T93, T94, T95, T98, T100, T106, T107, T108, T109, T110, T112, T113, go_turn_eq, again_n, again_r, again_e]
        repeat' (first | with_reducible refine cnd_split (fun hc => ?_) (fun hc => ?_) | with_reducible refine Reqs.mk ?_ ?_)
        all_goals first | trivial | exact endM_pl
      · rw [markO_nil] at hM
        simp only [Option.some.injEq, Prod.mk.injEq] at hM
        obtain ⟨rfl, hr, hh⟩ := hM
        subst hr hh
        refine ⟨by simp, ?_⟩
        simp (config := { maxSteps := 4000000, implicitDefEqProofs := false }) only [WK0, WK1, WK2, WK3, WK4, WK5, WK6, WK7, WK8, WK9, WK10, WK11, WK12, WK13, WK14, WK15, WK16, WK17, WK18, WK19, WK20, WK21, WK22, WK23, WK24, WK25, WK26, WK27, WK28, look_hit, look_miss, List.map_cons, List.map_nil, Nat.add_zero, max_v, min_v, ↓cnd_t, ↓cnd_f, ↓grd_b, ↓grd_u, startEnv, Option.map_some, List.length_nil, List.length_cons, List.nil_append, List.cons_append, List.getElem?_cons_zero, List.getElem?_cons_succ, List.set_cons_zero, List.set_cons_succ, Bool.not_true, Bool.not_false, reduceIte, Nat.reduceEqDiff, Nat.reduceAdd, Nat.reduceLT, blt_lit, beq_lit, Bool.or_true, Bool.true_or, Bool.or_false, Bool.false_or, Bool.and_true, Bool.true_and, Bool.and_self, cond_true, cond_false, List.append_nil, Iv.eta, Option.map_none, idxO_l0, idxO_l1, decide_true, decide_false, reqs_true, Int.zero_sub, wrap_lit, wrapu_lit, Int.reduceLE, Int.reduceLT, Int.reduceAdd, Int.reduceSub, Int.reduceMul, Int.reduceNeg, Int.reduceEq, Option.bind_some, bin_shr_u64, bin_shl_u64, bin_shr_i64, bin_shl_i64, and_m32', Int.reduceToNat, Int.reducePow, Int.reduceMod, Int.reduceDiv, wrap_u64s, true_or, or_true, true_and, and_true, Option.isSome_none, Option.isSome_some, Nat.reduceLeDiff, Nat.reduceMul, Int.toNat_natCast, Int.cast_ofNat_Int, Int.natCast_zero, Int.natCast_one, List.isEmpty_nil, List.isEmpty_cons, List.replicate_zero, List.replicate_succ, T1, T2, T3, T4, T5, T6, T9, T10, T11, T12, T21, T22, T23, T24, T25, T26, T27, T28, T30, T31, T32, T33, T34, T35, T36, T37, T38, T39, T40, T41, T42, T44, T45, T46, T47, T48, T49, T50, T51, T52, T53, T55, T56, T57, T58, T59, T60, T61, T63, T64, T66, T67, T68, T69, T70, T71, T72, T73, T74, T75, T76, T77, T78, T79, T80, T81, T82, T83, T84, T86, T87, T88, T89, T91, T93, T94, T95, T98, T100, T106, T107, T108, T109, T110, T112, T113, go_turn_eq, again_n, again_r, again_e]
        repeat' (first | with_reducible refine cnd_split (fun hc => ?_) (fun hc => ?_) | with_reducible refine Reqs.mk ?_ ?_)
        all_goals first | trivial | exact endM_pl
  · cases hM

-- laws.szIntervalS
def M_szS : MT := fun m args h => match args with
  | [.c (.p (.sl a n c)), .c (.p (.int .i64 k))] => some (0 ≤ k ∧ k ≤ 1048576 ∧ (n : Int) ≤ 9223372036854775807, .v (.c (.p (.int .i64 (if k - n < 0 then -1 else k - n)))), h)
  | _ => none
theorem M_szS_eq {m : Addr → Option PC} {h : Heap} {a : Option Addr} {n c : Nat} {k : Int} : M_szS m [.c (.p (.sl a n c)), .c (.p (.int .i64 k))] h = some (0 ≤ k ∧ k ≤ 1048576 ∧ (n : Int) ≤ 9223372036854775807, .v (.c (.p (.int .i64 (if k - n < 0 then -1 else k - n)))), h) := rfl
theorem laws_szIntervalS_szS_ok : Mn Try.prog 8 M_szS := by
  refine mn_of_go (O := orc []) mixed T_ok (orc_sound _) Try.func8 (by kernel_rfl) rfl Try.ntmps8 (by kernel_rfl) Try.results8 ?_
  intro m args hp pre r h' hM hpre
  unfold M_szS at hM
  split at hM
  · rename_i a n c k
    simp only [Option.some.injEq, Prod.mk.injEq] at hM
    obtain ⟨rfl, hr, hh⟩ := hM
    subst hr hh
    refine ⟨by simp, ?_⟩
    obtain ⟨D, hD⟩ : ∃ D : Int, k - (n : Int) = D := ⟨_, rfl⟩
    have w1 : IntKind.i64.wrap (k - (n : Int)) = D := by rw [wrap_om (by omega) (by omega)]; exact hD
    by_cases c1 : D < 0
    · have e1 : decide (D < 0) = true := by simpa using c1
      simp (config := { maxSteps := 4000000, implicitDefEqProofs := false }) only [WK0, WK1, WK2, WK3, WK4, WK5, WK6, WK7, WK8, WK9, WK10, WK11, WK12, WK13, WK14, WK15, WK16, WK17, WK18, WK19, WK20, WK21, WK22, WK23, WK24, WK25, WK26, WK27, WK28, look_hit, look_miss, List.map_cons, List.map_nil, Nat.add_zero, max_v, min_v, ↓cnd_t, ↓cnd_f, ↓grd_b, ↓grd_u, startEnv, Option.map_some, List.length_nil, List.length_cons, List.nil_append, List.cons_append, List.getElem?_cons_zero, List.getElem?_cons_succ, List.set_cons_zero, List.set_cons_succ, Bool.not_true, Bool.not_false, reduceIte, Nat.reduceEqDiff, Nat.reduceAdd, Nat.reduceLT, blt_lit, beq_lit, Bool.or_true, Bool.true_or, Bool.or_false, Bool.false_or, Bool.and_true, Bool.true_and, Bool.and_self, cond_true, cond_false, List.append_nil, Iv.eta, Option.map_none, idxO_l0, idxO_l1, decide_true, decide_false, reqs_true, Int.zero_sub, wrap_lit, wrapu_lit, Int.reduceLE, Int.reduceLT, Int.reduceAdd, Int.reduceSub, Int.reduceMul, Int.reduceNeg, Int.reduceEq, Option.bind_some, bin_shr_u64, bin_shl_u64, bin_shr_i64, bin_shl_i64, and_m32', Int.reduceToNat, Int.reducePow, Int.reduceMod, Int.reduceDiv, wrap_u64s, true_or, or_true, true_and, and_true, Option.isSome_none, Option.isSome_some, Nat.reduceLeDiff, Nat.reduceMul, Int.toNat_natCast, Int.cast_ofNat_Int, Int.natCast_zero, Int.natCast_one, List.isEmpty_nil, List.isEmpty_cons, List.replicate_zero, List.replicate_succ, T1, T2, T3, T4, T5, T6, T9, T10, T11, T12, T21, T22, T23, T24, T25, T26, T27, T28, T30, T31, T32, T33, T34, T35, T36, T37, T38, T39, T40, T41, T42, T44, T45, T46, T47, T48, T49, T50, T51, T52, T53, T55, T56, T57, T58, T59, T60, T61, T63, T64, T66, T67, T68, T69, T70, T71, T72, T73, T74, T75, T76, T77, T78, T79, T80, T81, T82, T83, T84, T86, T87, T88, T89, T91, T93, T94, T95, T98, T100, T106, T107, T108, T109, T110, T112, T113, w1, e1]
      rw [hD, if_pos c1]
      exact endM_pl
    · have e1 : decide (D < 0) = false := by simpa using c1
      simp (config := { maxSteps := 4000000, implicitDefEqProofs := false }) only [WK0, WK1, WK2, WK3, WK4, WK5, WK6, WK7, WK8, WK9, WK10, WK11, WK12, WK13, WK14, WK15, WK16, WK17, WK18, WK19, WK20, WK21, WK22, WK23, WK24, WK25, WK26, WK27, WK28, look_hit, look_miss, List.map_cons, List.map_nil, Nat.add_zero, max_v, min_v, ↓cnd_t, ↓cnd_f, ↓grd_b, ↓grd_u, startEnv, Option.map_some, List.length_nil, List.length_cons, List.nil_append, List.cons_append, List.getElem?_cons_zero, List.getElem?_cons_succ, List.set_cons_zero, List.set_cons_succ, Bool.not_true, Bool.not_false, reduceIte, Nat.reduceEqDiff, Nat.reduceAdd, Nat.reduceLT, blt_lit, beq_lit, Bool.or_true, Bool.true_or, Bool.or_false, Bool.false_or, Bool.and_true, Bool.true_and, Bool.and_self, cond_true, cond_false, List.append_nil, Iv.eta, Option.map_none, idxO_l0, idxO_l1, decide_true, decide_false, reqs_true, Int.zero_sub, wrap_lit, wrapu_lit, Int.reduceLE, Int.reduceLT, Int.reduceAdd, Int.reduceSub, Int.reduceMul, Int.reduceNeg, Int.reduceEq, Option.bind_some, bin_shr_u64, bin_shl_u64, bin_shr_i64, bin_shl_i64, and_m32', Int.reduceToNat, Int.reducePow, Int.reduceMod, Int.reduceDiv, wrap_u64s, true_or, or_true, true_and, and_true, Option.isSome_none, Option.isSome_some, Nat.reduceLeDiff, Nat.reduceMul, Int.toNat_natCast, Int.cast_ofNat_Int, Int.natCast_zero, Int.natCast_one, List.isEmpty_nil, List.isEmpty_cons, List.replicate_zero, List.replicate_succ, T1, T2, T3, T4, T5, T6, T9, T10, T11, T12, T21, T22, T23, T24, T25, T26, T27, T28, T30, T31, T32, T33, T34, T35, T36, T37, T38, T39, T40, T41, T42, T44, T45, T46, T47, T48, T49, T50, T51, T52, T53, T55, T56, T57, T58, T59, T60, T61, T63, T64, T66, T67, T68, T69, T70, T71, T72, T73, T74, T75, T76, T77, T78, T79, T80, T81, T82, T83, T84, T86, T87, T88, T89, T91, T93, T94, T95, T98, T100, T106, T107, T108, T109, T110, T112, T113, w1, e1]
      rw [hD, if_neg c1]
      exact endM_pl
  · cases hM

-- spec.l09At
/-- The values of a polynomial, from the last coefficient on. -/
def polyH : List Iv → Iv → Iv
  | [], _ => whole
  | [v], _ => v
  | v :: w :: r, x => addI (mulI (polyH (w :: r) x) x) v
theorem polyH_last {L : List Iv} {k : Nat} {v x : Iv} (hv : L[k]? = some v) (hk : k + 1 = L.length) : polyH (L.drop k) x = v := by
  rw [drop_at hv, List.drop_of_length_le (by omega)]; rfl
theorem polyH_step {L : List Iv} {k : Nat} {v x : Iv} (hv : L[k]? = some v) (hk : k + 1 < L.length) : polyH (L.drop k) x = addI (mulI (polyH (L.drop (k + 1)) x) x) v := by
  obtain ⟨w, hw⟩ : ∃ w, L[k + 1]? = some w := ⟨_, List.getElem?_eq_getElem hk⟩
  rw [drop_at hv, drop_at hw]; rfl
def patO (h : Heap) (x : Iv) : Option (List Iv) → Option (Prop × SV × Heap)
  | some L => some (0 < L.length, .v (.agg [.int .i64 (polyH L x).lo, .int .i64 (polyH L x).hi]), h)
  | none => none
theorem patO_some {h : Heap} {x : Iv} {L : List Iv} : patO h x (some L) = some (0 < L.length, .v (.agg [.int .i64 (polyH L x).lo, .int .i64 (polyH L x).hi]), h) := rfl
def M_pat : MT := fun m args h => match args with
  | [.c sl, .agg [.int .i64 a, .int .i64 b]] => patO h ⟨a, b⟩ (rowOf h sl)
  | _ => none
theorem M_pat_eq {m : Addr → Option PC} {h : Heap} {sl : Cl} {a b : Int} : M_pat m [.c sl, .agg [.int .i64 a, .int .i64 b]] h = patO h ⟨a, b⟩ (rowOf h sl) := rfl
theorem nsub {n : Nat} (h : 0 < n) : ((n : Int) - 1).toNat = n - 1 := by omega
theorem spec_l09At_pat_ok : Mn Try.prog 43 M_pat := by
  refine mn_of_go (O := orc [⟨27, F_addI, .inl spec_AddI_addI_ok⟩, ⟨28, F_mulI, .inl spec_MulI_mulI_ok⟩]) mixed T_ok (orc_sound _) Try.func43 (by kernel_rfl) rfl Try.ntmps43 (by kernel_rfl) Try.results43 ?_
  intro m args hp pre r h' hM hpre
  unfold M_pat at hM
  split at hM
  · rename_i sl a b
    cases hs : rowOf hp sl with
    | none => rw [hs] at hM; cases hM
    | some L =>
      rw [hs, patO_some] at hM
      simp only [Option.some.injEq, Prod.mk.injEq] at hM
      obtain ⟨rfl, hr, hh⟩ := hM
      subst hr hh
      refine ⟨by simp, ?_⟩
      rcases rowOf_out hs with ⟨i, rfl, hi, hL0, hL1⟩ | ⟨rfl, i, o, rfl⟩ | ⟨rfl, rfl⟩
      · obtain ⟨N, hN⟩ : ∃ N : Int, ((L.length : Nat) : Int) = N := ⟨_, rfl⟩
        have w1 : IntKind.i64.wrap (N - 1) = N - 1 := wrap_om (by omega) (by omega)
        have w2 : IntKind.i64.wrap (N - 2) = N - 2 := wrap_om (by omega) (by omega)
        obtain ⟨v, hv⟩ : ∃ v, L[L.length - 1]? = some v := ⟨_, List.getElem?_eq_getElem (by omega)⟩
        have i1 := fun h => @row_iad h i L.length (N - 1) (by omega) (by omega)
        have hNn : (N - 1).toNat = L.length - 1 := by omega
        rw [hNn] at i1
        have hd := loadC_at hv
        have hgB := setB_get hi
        have hlt := get_lt hi
        obtain ⟨q1, q2, q3, q4⟩ := bq_i hlt
        simp (config := { maxSteps := 4000000, implicitDefEqProofs := false }) only [F_addI_eq, F_mulI_eq, WK0, WK1, WK2, WK3, WK4, WK5, WK6, WK7, WK8, WK9, WK10, WK11, WK12, WK13, WK14, WK15, WK16, WK17, WK18, WK19, WK20, WK21, WK22, WK23, WK24, WK25, WK26, WK27, WK28, look_hit, look_miss, List.map_cons, List.map_nil, Nat.add_zero, max_v, min_v, ↓cnd_t, ↓cnd_f, ↓grd_b, ↓grd_u, startEnv, Option.map_some, List.length_nil, List.length_cons, List.nil_append, List.cons_append, List.getElem?_cons_zero, List.getElem?_cons_succ, List.set_cons_zero, List.set_cons_succ, Bool.not_true, Bool.not_false, reduceIte, Nat.reduceEqDiff, Nat.reduceAdd, Nat.reduceLT, blt_lit, beq_lit, Bool.or_true, Bool.true_or, Bool.or_false, Bool.false_or, Bool.and_true, Bool.true_and, Bool.and_self, cond_true, cond_false, List.append_nil, Iv.eta, Option.map_none, idxO_l0, idxO_l1, decide_true, decide_false, reqs_true, Int.zero_sub, wrap_lit, wrapu_lit, Int.reduceLE, Int.reduceLT, Int.reduceAdd, Int.reduceSub, Int.reduceMul, Int.reduceNeg, Int.reduceEq, Option.bind_some, bin_shr_u64, bin_shl_u64, bin_shr_i64, bin_shl_i64, and_m32', Int.reduceToNat, Int.reducePow, Int.reduceMod, Int.reduceDiv, wrap_u64s, true_or, or_true, true_and, and_true, Option.isSome_none, Option.isSome_some, Nat.reduceLeDiff, Nat.reduceMul, Int.toNat_natCast, Int.cast_ofNat_Int, Int.natCast_zero, Int.natCast_one, List.isEmpty_nil, List.isEmpty_cons, List.replicate_zero, List.replicate_succ, T1, T2, T3, T4, T5, T6, T9, T10, T11, T12, T21, T22, T23, T24, T25, T26, T27, T28, T30, T31, T32, T33, T34, T35, T36, T37, T38, T39, T40, T41, T42, T44, T45, T46, T47, T48, T49, T50, T51, T52, T53, T55, T56, T57, T58, T59, T60, T61, T63, T64, T66, T67, T68, T69, T70, T71, T72, T73, T74, T75, T76, T77, T78, T79, T80, T81, T82, T83, T84, T86, T87, T88, T89, T91, T93, T94, T95, T98, T100, T106, T107, T108, T109, T110, T112, T113, hN, w1, w2, i1, hi, hd, hgB, bx_get, bx_get0, bx_set, bx_set0, List.append_assoc, List.length_append, q1, q2, q3, q4, bq_aa, bq_0l, bq_0r, Iv.eta]
        refine go_loop (α := Nat) (fun s => s) (fun s e h => h = hp ++ [[.int .i64 a, .int .i64 b], [.int .i64 0, .int .i64 0], [.int .i64 (polyH (L.drop s) ⟨a, b⟩).lo, .int .i64 (polyH (L.drop s) ⟨a, b⟩).hi]] ∧ look e 0 = some (.v (.c (.row i 0 L.length 2))) ∧ look e 3 = some (.v (.c (.ptr (.own hp.length 0)))) ∧ look e 4 = some (.v (.c (.ptr (.own (hp.length + 1) 0)))) ∧ look e 5 = some (.v (.c (.ptr (.own (hp.length + 2) 0)))) ∧ look e 6 = some (.v (.c (.p (.int .i64 ((s : Int) - 1))))) ∧ s < L.length) (L.length - 1) ⟨?_, rfl, rfl, rfl, rfl, ?_, by omega⟩ ?_
        · rw [polyH_last hv (by omega)]
        · have : ((L.length - 1 : Nat) : Int) - 1 = N - 2 := by omega
          rw [this]; rfl
        rintro X k e h ⟨rfl, l0, l3, l4, l5, l6, hk⟩ hX
        cases k with
        | zero =>
          have e6 : ((0 : Nat) : Int) - 1 = -1 := rfl
          rw [e6] at l6
          have c0 : decide ((0 : Int) ≤ -1) = false := by decide
          rw [List.drop_zero]
          simp (config := { maxSteps := 4000000, implicitDefEqProofs := false }) only [F_addI_eq, F_mulI_eq, WK0, WK1, WK2, WK3, WK4, WK5, WK6, WK7, WK8, WK9, WK10, WK11, WK12, WK13, WK14, WK15, WK16, WK17, WK18, WK19, WK20, WK21, WK22, WK23, WK24, WK25, WK26, WK27, WK28, look_hit, look_miss, List.map_cons, List.map_nil, Nat.add_zero, max_v, min_v, ↓cnd_t, ↓cnd_f, ↓grd_b, ↓grd_u, startEnv, Option.map_some, List.length_nil, List.length_cons, List.nil_append, List.cons_append, List.getElem?_cons_zero, List.getElem?_cons_succ, List.set_cons_zero, List.set_cons_succ, Bool.not_true, Bool.not_false, reduceIte, Nat.reduceEqDiff, Nat.reduceAdd, Nat.reduceLT, blt_lit, beq_lit, Bool.or_true, Bool.true_or, Bool.or_false, Bool.false_or, Bool.and_true, Bool.true_and, Bool.and_self, cond_true, cond_false, List.append_nil, Iv.eta, Option.map_none, idxO_l0, idxO_l1, decide_true, decide_false, reqs_true, Int.zero_sub, wrap_lit, wrapu_lit, Int.reduceLE, Int.reduceLT, Int.reduceAdd, Int.reduceSub, Int.reduceMul, Int.reduceNeg, Int.reduceEq, Option.bind_some, bin_shr_u64, bin_shl_u64, bin_shr_i64, bin_shl_i64, and_m32', Int.reduceToNat, Int.reducePow, Int.reduceMod, Int.reduceDiv, wrap_u64s, true_or, or_true, true_and, and_true, Option.isSome_none, Option.isSome_some, Nat.reduceLeDiff, Nat.reduceMul, Int.toNat_natCast, Int.cast_ofNat_Int, Int.natCast_zero, Int.natCast_one, List.isEmpty_nil, List.isEmpty_cons, List.replicate_zero, List.replicate_succ, T1, T2, T3, T4, T5, T6, T9, T10, T11, T12, T21, T22, T23, T24, T25, T26, T27, T28, T30, T31, T32, T33, T34, T35, T36, T37, T38, T39, T40, T41, T42, T44, T45, T46, T47, T48, T49, T50, T51, T52, T53, T55, T56, T57, T58, T59, T60, T61, T63, T64, T66, T67, T68, T69, T70, T71, T72, T73, T74, T75, T76, T77, T78, T79, T80, T81, T82, T83, T84, T86, T87, T88, T89, T91, T93, T94, T95, T98, T100, T106, T107, T108, T109, T110, T112, T113, l0, l3, l4, l5, l6, c0, bx_get, bx_get0, bx_set, bx_set0, q1, q2, q3, q4, bq_aa, bq_0l, bq_0r]
          exact endM_ak
        | succ k =>
          have e6 : ((k + 1 : Nat) : Int) - 1 = (k : Int) := by omega
          rw [e6] at l6
          obtain ⟨K, hK⟩ : ∃ K : Int, (k : Int) = K := ⟨_, rfl⟩
          rw [hK] at l6
          have c0 : decide (0 ≤ K) = true := by simp only [decide_eq_true_eq]; omega
          obtain ⟨u, hu⟩ : ∃ u, L[k]? = some u := ⟨_, List.getElem?_eq_getElem (by omega)⟩
          have i2 := fun h => @row_iad h i L.length K (by omega) (by omega)
          have hKn : K.toNat = k := by omega
          rw [hKn] at i2
          have hd2 := loadC_at hu
          have w3 : IntKind.i64.wrap (K - 1) = K - 1 := wrap_om (by omega) (by omega)
          have hst := polyH_step (x := ⟨a, b⟩) hu hk
          simp (config := { maxSteps := 4000000, implicitDefEqProofs := false }) only [F_addI_eq, F_mulI_eq, WK0, WK1, WK2, WK3, WK4, WK5, WK6, WK7, WK8, WK9, WK10, WK11, WK12, WK13, WK14, WK15, WK16, WK17, WK18, WK19, WK20, WK21, WK22, WK23, WK24, WK25, WK26, WK27, WK28, look_hit, look_miss, List.map_cons, List.map_nil, Nat.add_zero, max_v, min_v, ↓cnd_t, ↓cnd_f, ↓grd_b, ↓grd_u, startEnv, Option.map_some, List.length_nil, List.length_cons, List.nil_append, List.cons_append, List.getElem?_cons_zero, List.getElem?_cons_succ, List.set_cons_zero, List.set_cons_succ, Bool.not_true, Bool.not_false, reduceIte, Nat.reduceEqDiff, Nat.reduceAdd, Nat.reduceLT, blt_lit, beq_lit, Bool.or_true, Bool.true_or, Bool.or_false, Bool.false_or, Bool.and_true, Bool.true_and, Bool.and_self, cond_true, cond_false, List.append_nil, Iv.eta, Option.map_none, idxO_l0, idxO_l1, decide_true, decide_false, reqs_true, Int.zero_sub, wrap_lit, wrapu_lit, Int.reduceLE, Int.reduceLT, Int.reduceAdd, Int.reduceSub, Int.reduceMul, Int.reduceNeg, Int.reduceEq, Option.bind_some, bin_shr_u64, bin_shl_u64, bin_shr_i64, bin_shl_i64, and_m32', Int.reduceToNat, Int.reducePow, Int.reduceMod, Int.reduceDiv, wrap_u64s, true_or, or_true, true_and, and_true, Option.isSome_none, Option.isSome_some, Nat.reduceLeDiff, Nat.reduceMul, Int.toNat_natCast, Int.cast_ofNat_Int, Int.natCast_zero, Int.natCast_one, List.isEmpty_nil, List.isEmpty_cons, List.replicate_zero, List.replicate_succ, T1, T2, T3, T4, T5, T6, T9, T10, T11, T12, T21, T22, T23, T24, T25, T26, T27, T28, T30, T31, T32, T33, T34, T35, T36, T37, T38, T39, T40, T41, T42, T44, T45, T46, T47, T48, T49, T50, T51, T52, T53, T55, T56, T57, T58, T59, T60, T61, T63, T64, T66, T67, T68, T69, T70, T71, T72, T73, T74, T75, T76, T77, T78, T79, T80, T81, T82, T83, T84, T86, T87, T88, T89, T91, T93, T94, T95, T98, T100, T106, T107, T108, T109, T110, T112, T113, l0, l3, l4, l5, l6, c0, i2, hd2, hgB, w3, bx_get, bx_get0, bx_set, bx_set0, q1, q2, q3, q4, bq_aa, bq_0l, bq_0r, Iv.eta]
          refine hX k _ _ (Nat.lt_succ_self _) ⟨?_, ?_, ?_, ?_, ?_, ?_, by omega⟩
          · rw [hst]
          · simp [look, l0]
          · simp [look, l3]
          · simp [look, l4]
          · simp [look, l5]
          · rw [← hK]; rfl
      · simp at hpre
      · simp at hpre
  · cases hM

-- spec.PolyAt
theorem rowOf_app {h : Heap} {sl : Cl} {L : List Iv} (hs : rowOf h sl = some L) (l : Heap) : rowOf (h ++ l) sl = some L := by
  rcases rowOf_out hs with ⟨i, rfl, hi, h0, h1⟩ | ⟨rfl, i, o, rfl⟩ | ⟨rfl, rfl⟩
  · rw [rowOf_row, setB_get hi]
    simp only [Option.bind_some, ivsC_cells]
    exact rowQ_of rfl h0 h1
  · rfl
  · rfl
def polyV (L : List Iv) (x : Iv) : Iv := if pok L && okI x then polyH L x else whole
theorem pok_pos {L : List Iv} (h : pok L = true) : 0 < L.length ∧ L.length ≤ 17 := by
  unfold pok at h
  rw [Bool.and_eq_true, within_iff] at h
  omega
def pvO (h : Heap) (x : Iv) : Option (List Iv) → Option (Prop × SV × Heap)
  | some L => some (True, .v (.agg [.int .i64 (polyV L x).lo, .int .i64 (polyV L x).hi]), h)
  | none => none
theorem pvO_some {h : Heap} {x : Iv} {L : List Iv} : pvO h x (some L) = some (True, .v (.agg [.int .i64 (polyV L x).lo, .int .i64 (polyV L x).hi]), h) := rfl
def M_pv : MT := fun m args h => match args with
  | [.c sl, .agg [.int .i64 a, .int .i64 b]] => pvO h ⟨a, b⟩ (rowOf h sl)
  | _ => none
theorem M_pv_eq {m : Addr → Option PC} {h : Heap} {sl : Cl} {a b : Int} : M_pv m [.c sl, .agg [.int .i64 a, .int .i64 b]] h = pvO h ⟨a, b⟩ (rowOf h sl) := rfl
theorem spec_PolyAt_pv_ok : Mn Try.prog 17 M_pv := by
  refine mn_of_go (O := orcM [⟨41, F_okI, .inl spec_l04Ok_okI_ok⟩, ⟨42, F_whole, .inl spec_l04Whole_whole_ok⟩] [⟨32, M_pok, true, fun _ => one_pok, spec_l09Ok_pok_ok⟩, ⟨43, M_pat, false, no_one, spec_l09At_pat_ok⟩]) mixed T_ok (orcM_sound _ _) Try.func17 (by kernel_rfl) rfl Try.ntmps17 (by kernel_rfl) Try.results17 ?_
  intro m args hp pre r h' hM hpre
  unfold M_pv at hM
  split at hM
  · rename_i sl a b
    cases hs : rowOf hp sl with
    | none => rw [hs] at hM; cases hM
    | some L =>
      rw [hs, pvO_some] at hM
      simp only [Option.some.injEq, Prod.mk.injEq] at hM
      obtain ⟨rfl, hr, hh⟩ := hM
      subst hr hh
      refine ⟨by simp, ?_⟩
      cases hp1 : pok L with
      | false =>
        have hv : polyV L ⟨a, b⟩ = whole := by unfold polyV; rw [hp1]; rfl
        rw [hv]
        simp (config := { maxSteps := 4000000, implicitDefEqProofs := false }) only [F_okI_eq, F_whole_eq, WK0, WK1, WK2, WK3, WK4, WK5, WK6, WK7, WK8, WK9, WK10, WK11, WK12, WK13, WK14, WK15, WK16, WK17, WK18, WK19, WK20, WK21, WK22, WK23, WK24, WK25, WK26, WK27, WK28, look_hit, look_miss, List.map_cons, List.map_nil, Nat.add_zero, max_v, min_v, ↓cnd_t, ↓cnd_f, ↓grd_b, ↓grd_u, startEnv, Option.map_some, List.length_nil, List.length_cons, List.nil_append, List.cons_append, List.getElem?_cons_zero, List.getElem?_cons_succ, List.set_cons_zero, List.set_cons_succ, Bool.not_true, Bool.not_false, reduceIte, Nat.reduceEqDiff, Nat.reduceAdd, Nat.reduceLT, blt_lit, beq_lit, Bool.or_true, Bool.true_or, Bool.or_false, Bool.false_or, Bool.and_true, Bool.true_and, Bool.and_self, cond_true, cond_false, List.append_nil, Iv.eta, Option.map_none, idxO_l0, idxO_l1, decide_true, decide_false, reqs_true, Int.zero_sub, wrap_lit, wrapu_lit, Int.reduceLE, Int.reduceLT, Int.reduceAdd, Int.reduceSub, Int.reduceMul, Int.reduceNeg, Int.reduceEq, Option.bind_some, bin_shr_u64, bin_shl_u64, bin_shr_i64, bin_shl_i64, and_m32', Int.reduceToNat, Int.reducePow, Int.reduceMod, Int.reduceDiv, wrap_u64s, true_or, or_true, true_and, and_true, Option.isSome_none, Option.isSome_some, Nat.reduceLeDiff, Nat.reduceMul, Int.toNat_natCast, Int.cast_ofNat_Int, Int.natCast_zero, Int.natCast_one, List.isEmpty_nil, List.isEmpty_cons, List.replicate_zero, List.replicate_succ, T1, T2, T3, T4, T5, T6, T9, T10, T11, T12, T21, T22, T23, T24, T25, T26, T27, T28, T30, T31, T32, T33, T34, T35, T36, T37, T38, T39, T40, T41, T42, T44, T45, T46, T47, T48, T49, T50, T51, T52, T53, T55, T56, T57, T58, T59, T60, T61, T63, T64, T66, T67, T68, T69, T70, T71, T72, T73, T74, T75, T76, T77, T78, T79, T80, T81, T82, T83, T84, T86, T87, T88, T89, T91, T93, T94, T95, T98, T100, T106, T107, T108, T109, T110, T112, T113, M_pok_eq, hs, boolO_some, rowOf_app hs, hp1, bx_get, bx_get0, bx_set, bx_set0, List.append_assoc, List.length_append, bq_aa, bq_0l, bq_0r, Iv.eta]
        repeat' (first | with_reducible refine cnd_split (fun hc => ?_) (fun hc => ?_) | with_reducible refine Reqs.mk ?_ ?_)
        all_goals first | trivial | exact endM_ak
      | true =>
        have h0 := pok_pos hp1
        cases ho : okI ⟨a, b⟩ with
        | false =>
          have hv : polyV L ⟨a, b⟩ = whole := by unfold polyV; rw [hp1, ho]; rfl
          rw [hv]
          simp (config := { maxSteps := 4000000, implicitDefEqProofs := false }) only [F_okI_eq, F_whole_eq, WK0, WK1, WK2, WK3, WK4, WK5, WK6, WK7, WK8, WK9, WK10, WK11, WK12, WK13, WK14, WK15, WK16, WK17, WK18, WK19, WK20, WK21, WK22, WK23, WK24, WK25, WK26, WK27, WK28, look_hit, look_miss, List.map_cons, List.map_nil, Nat.add_zero, max_v, min_v, ↓cnd_t, ↓cnd_f, ↓grd_b, ↓grd_u, startEnv, Option.map_some, List.length_nil, List.length_cons, List.nil_append, List.cons_append, List.getElem?_cons_zero, List.getElem?_cons_succ, List.set_cons_zero, List.set_cons_succ, Bool.not_true, Bool.not_false, reduceIte, Nat.reduceEqDiff, Nat.reduceAdd, Nat.reduceLT, blt_lit, beq_lit, Bool.or_true, Bool.true_or, Bool.or_false, Bool.false_or, Bool.and_true, Bool.true_and, Bool.and_self, cond_true, cond_false, List.append_nil, Iv.eta, Option.map_none, idxO_l0, idxO_l1, decide_true, decide_false, reqs_true, Int.zero_sub, wrap_lit, wrapu_lit, Int.reduceLE, Int.reduceLT, Int.reduceAdd, Int.reduceSub, Int.reduceMul, Int.reduceNeg, Int.reduceEq, Option.bind_some, bin_shr_u64, bin_shl_u64, bin_shr_i64, bin_shl_i64, and_m32', Int.reduceToNat, Int.reducePow, Int.reduceMod, Int.reduceDiv, wrap_u64s, true_or, or_true, true_and, and_true, Option.isSome_none, Option.isSome_some, Nat.reduceLeDiff, Nat.reduceMul, Int.toNat_natCast, Int.cast_ofNat_Int, Int.natCast_zero, Int.natCast_one, List.isEmpty_nil, List.isEmpty_cons, List.replicate_zero, List.replicate_succ, T1, T2, T3, T4, T5, T6, T9, T10, T11, T12, T21, T22, T23, T24, T25, T26, T27, T28, T30, T31, T32, T33, T34, T35, T36, T37, T38, T39, T40, T41, T42, T44, T45, T46, T47, T48, T49, T50, T51, T52, T53, T55, T56, T57, T58, T59, T60, T61, T63, T64, T66, T67, T68, T69, T70, T71, T72, T73, T74, T75, T76, T77, T78, T79, T80, T81, T82, T83, T84, T86, T87, T88, T89, T91, T93, T94, T95, T98, T100, T106, T107, T108, T109, T110, T112, T113, M_pok_eq, M_pat_eq, hs, boolO_some, patO_some, rowOf_app hs, hp1, ho, bx_get, bx_get0, bx_set, bx_set0, List.append_assoc, List.length_append, bq_aa, bq_0l, bq_0r, Iv.eta]
          repeat' (first | with_reducible refine cnd_split (fun hc => ?_) (fun hc => ?_) | with_reducible refine Reqs.mk ?_ ?_)
          all_goals first | trivial | exact endM_ak
        | true =>
          have hv : polyV L ⟨a, b⟩ = polyH L ⟨a, b⟩ := by unfold polyV; rw [hp1, ho]; rfl
          rw [hv]
          simp (config := { maxSteps := 4000000, implicitDefEqProofs := false }) only [F_okI_eq, F_whole_eq, WK0, WK1, WK2, WK3, WK4, WK5, WK6, WK7, WK8, WK9, WK10, WK11, WK12, WK13, WK14, WK15, WK16, WK17, WK18, WK19, WK20, WK21, WK22, WK23, WK24, WK25, WK26, WK27, WK28, look_hit, look_miss, List.map_cons, List.map_nil, Nat.add_zero, max_v, min_v, ↓cnd_t, ↓cnd_f, ↓grd_b, ↓grd_u, startEnv, Option.map_some, List.length_nil, List.length_cons, List.nil_append, List.cons_append, List.getElem?_cons_zero, List.getElem?_cons_succ, List.set_cons_zero, List.set_cons_succ, Bool.not_true, Bool.not_false, reduceIte, Nat.reduceEqDiff, Nat.reduceAdd, Nat.reduceLT, blt_lit, beq_lit, Bool.or_true, Bool.true_or, Bool.or_false, Bool.false_or, Bool.and_true, Bool.true_and, Bool.and_self, cond_true, cond_false, List.append_nil, Iv.eta, Option.map_none, idxO_l0, idxO_l1, decide_true, decide_false, reqs_true, Int.zero_sub, wrap_lit, wrapu_lit, Int.reduceLE, Int.reduceLT, Int.reduceAdd, Int.reduceSub, Int.reduceMul, Int.reduceNeg, Int.reduceEq, Option.bind_some, bin_shr_u64, bin_shl_u64, bin_shr_i64, bin_shl_i64, and_m32', Int.reduceToNat, Int.reducePow, Int.reduceMod, Int.reduceDiv, wrap_u64s, true_or, or_true, true_and, and_true, Option.isSome_none, Option.isSome_some, Nat.reduceLeDiff, Nat.reduceMul, Int.toNat_natCast, Int.cast_ofNat_Int, Int.natCast_zero, Int.natCast_one, List.isEmpty_nil, List.isEmpty_cons, List.replicate_zero, List.replicate_succ, T1, T2, T3, T4, T5, T6, T9, T10, T11, T12, T21, T22, T23, T24, T25, T26, T27, T28, T30, T31, T32, T33, T34, T35, T36, T37, T38, T39, T40, T41, T42, T44, T45, T46, T47, T48, T49, T50, T51, T52, T53, T55, T56, T57, T58, T59, T60, T61, T63, T64, T66, T67, T68, T69, T70, T71, T72, T73, T74, T75, T76, T77, T78, T79, T80, T81, T82, T83, T84, T86, T87, T88, T89, T91, T93, T94, T95, T98, T100, T106, T107, T108, T109, T110, T112, T113, M_pok_eq, M_pat_eq, hs, boolO_some, patO_some, rowOf_app hs, hp1, ho, bx_get, bx_get0, bx_set, bx_set0, List.append_assoc, List.length_append, bq_aa, bq_0l, bq_0r, Iv.eta]
          repeat' (first | with_reducible refine cnd_split (fun hc => ?_) (fun hc => ?_) | with_reducible refine Reqs.mk ?_ ?_)
          all_goals first | trivial | exact endM_ak | exact h0.1
  · cases hM

-- impl.PolyAt
theorem impl_PolyAt_pv_ok : Mn Try.prog 19 M_pv := by
  refine mn_of_go (O := orcM [⟨36, F_notOk, .inl impl_IsWhole_notOk_ok⟩, ⟨39, F_addI, .inl impl_AddI_addI_ok⟩, ⟨44, F_whole, .inl impl_Whole_whole_ok⟩, ⟨45, F_mulI, .inl impl_MulI_mulI_ok⟩] [⟨11, M_pok, true, fun _ => one_pok, impl_ValidPoly_pok_ok⟩]) mixed T_ok (orcM_sound _ _) Try.func19 (by kernel_rfl) rfl Try.ntmps19 (by kernel_rfl) Try.results19 ?_
  intro m args hp pre r h' hM hpre
  unfold M_pv at hM
  split at hM
  · rename_i sl a b
    cases hs : rowOf hp sl with
    | none => rw [hs] at hM; cases hM
    | some L =>
      rw [hs, pvO_some] at hM
      simp only [Option.some.injEq, Prod.mk.injEq] at hM
      obtain ⟨rfl, hr, hh⟩ := hM
      subst hr hh
      refine ⟨by simp, ?_⟩
      cases hp1 : pok L with
      | false =>
        have hv : polyV L ⟨a, b⟩ = whole := by unfold polyV; rw [hp1]; rfl
        rw [hv]
        rcases rowOf_out hs with ⟨i, rfl, hi, hL0, hL1⟩ | ⟨rfl, i, o, rfl⟩ | ⟨rfl, rfl⟩
        · obtain ⟨q1, q2, q3, q4⟩ := bq_i (get_lt hi)
          simp (config := { maxSteps := 4000000, implicitDefEqProofs := false }) only [F_addI_eq, F_mulI_eq, F_notOk_eq, F_whole_eq, WK0, WK1, WK2, WK3, WK4, WK5, WK6, WK7, WK8, WK9, WK10, WK11, WK12, WK13, WK14, WK15, WK16, WK17, WK18, WK19, WK20, WK21, WK22, WK23, WK24, WK25, WK26, WK27, WK28, look_hit, look_miss, List.map_cons, List.map_nil, Nat.add_zero, max_v, min_v, ↓cnd_t, ↓cnd_f, ↓grd_b, ↓grd_u, startEnv, Option.map_some, List.length_nil, List.length_cons, List.nil_append, List.cons_append, List.getElem?_cons_zero, List.getElem?_cons_succ, List.set_cons_zero, List.set_cons_succ, Bool.not_true, Bool.not_false, reduceIte, Nat.reduceEqDiff, Nat.reduceAdd, Nat.reduceLT, blt_lit, beq_lit, Bool.or_true, Bool.true_or, Bool.or_false, Bool.false_or, Bool.and_true, Bool.true_and, Bool.and_self, cond_true, cond_false, List.append_nil, Iv.eta, Option.map_none, idxO_l0, idxO_l1, decide_true, decide_false, reqs_true, Int.zero_sub, wrap_lit, wrapu_lit, Int.reduceLE, Int.reduceLT, Int.reduceAdd, Int.reduceSub, Int.reduceMul, Int.reduceNeg, Int.reduceEq, Option.bind_some, bin_shr_u64, bin_shl_u64, bin_shr_i64, bin_shl_i64, and_m32', Int.reduceToNat, Int.reducePow, Int.reduceMod, Int.reduceDiv, wrap_u64s, true_or, or_true, true_and, and_true, Option.isSome_none, Option.isSome_some, Nat.reduceLeDiff, Nat.reduceMul, Int.toNat_natCast, Int.cast_ofNat_Int, Int.natCast_zero, Int.natCast_one, List.isEmpty_nil, List.isEmpty_cons, List.replicate_zero, List.replicate_succ, T1, T2, T3, T4, T5, T6, T9, T10, T11, T12, T21, T22, T23, T24, T25, T26, T27, T28, T30, T31, T32, T33, T34, T35, T36, T37, T38, T39, T40, T41, T42, T44, T45, T46, T47, T48, T49, T50, T51, T52, T53, T55, T56, T57, T58, T59, T60, T61, T63, T64, T66, T67, T68, T69, T70, T71, T72, T73, T74, T75, T76, T77, T78, T79, T80, T81, T82, T83, T84, T86, T87, T88, T89, T91, T93, T94, T95, T98, T100, T106, T107, T108, T109, T110, T112, T113, M_pok_eq, hs, boolO_some, rowOf_app hs, hp1, bx_get, bx_get0, bx_set, bx_set0, List.append_assoc, List.length_append, q1, q2, q3, q4, bq_aa, bq_0l, bq_0r, Iv.eta]
          repeat' (first | with_reducible refine cnd_split (fun hc => ?_) (fun hc => ?_) | with_reducible refine Reqs.mk ?_ ?_)
          all_goals first | trivial | exact endM_ak
        · simp (config := { maxSteps := 4000000, implicitDefEqProofs := false }) only [F_addI_eq, F_mulI_eq, F_notOk_eq, F_whole_eq, WK0, WK1, WK2, WK3, WK4, WK5, WK6, WK7, WK8, WK9, WK10, WK11, WK12, WK13, WK14, WK15, WK16, WK17, WK18, WK19, WK20, WK21, WK22, WK23, WK24, WK25, WK26, WK27, WK28, look_hit, look_miss, List.map_cons, List.map_nil, Nat.add_zero, max_v, min_v, ↓cnd_t, ↓cnd_f, ↓grd_b, ↓grd_u, startEnv, Option.map_some, List.length_nil, List.length_cons, List.nil_append, List.cons_append, List.getElem?_cons_zero, List.getElem?_cons_succ, List.set_cons_zero, List.set_cons_succ, Bool.not_true, Bool.not_false, reduceIte, Nat.reduceEqDiff, Nat.reduceAdd, Nat.reduceLT, blt_lit, beq_lit, Bool.or_true, Bool.true_or, Bool.or_false, Bool.false_or, Bool.and_true, Bool.true_and, Bool.and_self, cond_true, cond_false, List.append_nil, Iv.eta, Option.map_none, idxO_l0, idxO_l1, decide_true, decide_false, reqs_true, Int.zero_sub, wrap_lit, wrapu_lit, Int.reduceLE, Int.reduceLT, Int.reduceAdd, Int.reduceSub, Int.reduceMul, Int.reduceNeg, Int.reduceEq, Option.bind_some, bin_shr_u64, bin_shl_u64, bin_shr_i64, bin_shl_i64, and_m32', Int.reduceToNat, Int.reducePow, Int.reduceMod, Int.reduceDiv, wrap_u64s, true_or, or_true, true_and, and_true, Option.isSome_none, Option.isSome_some, Nat.reduceLeDiff, Nat.reduceMul, Int.toNat_natCast, Int.cast_ofNat_Int, Int.natCast_zero, Int.natCast_one, List.isEmpty_nil, List.isEmpty_cons, List.replicate_zero, List.replicate_succ, T1, T2, T3, T4, T5, T6, T9, T10, T11, T12, T21, T22, T23, T24, T25, T26, T27, T28, T30, T31, T32, T33, T34, T35, T36, T37, T38, T39, T40, T41, T42, T44, T45, T46, T47, T48, T49, T50, T51, T52, T53, T55, T56, T57, T58, T59, T60, T61, T63, T64, T66, T67, T68, T69, T70, T71, T72, T73, T74, T75, T76, T77, T78, T79, T80, T81, T82, T83, T84, T86, T87, T88, T89, T91, T93, T94, T95, T98, T100, T106, T107, T108, T109, T110, T112, T113, M_pok_eq, hs, boolO_some, rowOf_app hs, hp1, bx_get, bx_get0, bx_set, bx_set0, List.append_assoc, List.length_append, bq_aa, bq_0l, bq_0r, Iv.eta]
          repeat' (first | with_reducible refine cnd_split (fun hc => ?_) (fun hc => ?_) | with_reducible refine Reqs.mk ?_ ?_)
          all_goals first | trivial | exact endM_ak
        · simp (config := { maxSteps := 4000000, implicitDefEqProofs := false }) only [F_addI_eq, F_mulI_eq, F_notOk_eq, F_whole_eq, WK0, WK1, WK2, WK3, WK4, WK5, WK6, WK7, WK8, WK9, WK10, WK11, WK12, WK13, WK14, WK15, WK16, WK17, WK18, WK19, WK20, WK21, WK22, WK23, WK24, WK25, WK26, WK27, WK28, look_hit, look_miss, List.map_cons, List.map_nil, Nat.add_zero, max_v, min_v, ↓cnd_t, ↓cnd_f, ↓grd_b, ↓grd_u, startEnv, Option.map_some, List.length_nil, List.length_cons, List.nil_append, List.cons_append, List.getElem?_cons_zero, List.getElem?_cons_succ, List.set_cons_zero, List.set_cons_succ, Bool.not_true, Bool.not_false, reduceIte, Nat.reduceEqDiff, Nat.reduceAdd, Nat.reduceLT, blt_lit, beq_lit, Bool.or_true, Bool.true_or, Bool.or_false, Bool.false_or, Bool.and_true, Bool.true_and, Bool.and_self, cond_true, cond_false, List.append_nil, Iv.eta, Option.map_none, idxO_l0, idxO_l1, decide_true, decide_false, reqs_true, Int.zero_sub, wrap_lit, wrapu_lit, Int.reduceLE, Int.reduceLT, Int.reduceAdd, Int.reduceSub, Int.reduceMul, Int.reduceNeg, Int.reduceEq, Option.bind_some, bin_shr_u64, bin_shl_u64, bin_shr_i64, bin_shl_i64, and_m32', Int.reduceToNat, Int.reducePow, Int.reduceMod, Int.reduceDiv, wrap_u64s, true_or, or_true, true_and, and_true, Option.isSome_none, Option.isSome_some, Nat.reduceLeDiff, Nat.reduceMul, Int.toNat_natCast, Int.cast_ofNat_Int, Int.natCast_zero, Int.natCast_one, List.isEmpty_nil, List.isEmpty_cons, List.replicate_zero, List.replicate_succ, T1, T2, T3, T4, T5, T6, T9, T10, T11, T12, T21, T22, T23, T24, T25, T26, T27, T28, T30, T31, T32, T33, T34, T35, T36, T37, T38, T39, T40, T41, T42, T44, T45, T46, T47, T48, T49, T50, T51, T52, T53, T55, T56, T57, T58, T59, T60, T61, T63, T64, T66, T67, T68, T69, T70, T71, T72, T73, T74, T75, T76, T77, T78, T79, T80, T81, T82, T83, T84, T86, T87, T88, T89, T91, T93, T94, T95, T98, T100, T106, T107, T108, T109, T110, T112, T113, M_pok_eq, hs, boolO_some, rowOf_app hs, hp1, bx_get, bx_get0, bx_set, bx_set0, List.append_assoc, List.length_append, bq_aa, bq_0l, bq_0r, Iv.eta]
          repeat' (first | with_reducible refine cnd_split (fun hc => ?_) (fun hc => ?_) | with_reducible refine Reqs.mk ?_ ?_)
          all_goals first | trivial | exact endM_ak
      | true =>
        have h0 := pok_pos hp1
        rcases rowOf_out hs with ⟨i, rfl, hi, hL0, hL1⟩ | ⟨rfl, i, o, rfl⟩ | ⟨rfl, rfl⟩
        · have hlt := get_lt hi
          obtain ⟨q1, q2, q3, q4⟩ := bq_i hlt
          have hgB := setB_get hi
          cases ho : okI ⟨a, b⟩ with
          | false =>
            have hv : polyV L ⟨a, b⟩ = whole := by unfold polyV; rw [hp1, ho]; rfl
            rw [hv]
            simp (config := { maxSteps := 4000000, implicitDefEqProofs := false }) only [F_addI_eq, F_mulI_eq, F_notOk_eq, F_whole_eq, WK0, WK1, WK2, WK3, WK4, WK5, WK6, WK7, WK8, WK9, WK10, WK11, WK12, WK13, WK14, WK15, WK16, WK17, WK18, WK19, WK20, WK21, WK22, WK23, WK24, WK25, WK26, WK27, WK28, look_hit, look_miss, List.map_cons, List.map_nil, Nat.add_zero, max_v, min_v, ↓cnd_t, ↓cnd_f, ↓grd_b, ↓grd_u, startEnv, Option.map_some, List.length_nil, List.length_cons, List.nil_append, List.cons_append, List.getElem?_cons_zero, List.getElem?_cons_succ, List.set_cons_zero, List.set_cons_succ, Bool.not_true, Bool.not_false, reduceIte, Nat.reduceEqDiff, Nat.reduceAdd, Nat.reduceLT, blt_lit, beq_lit, Bool.or_true, Bool.true_or, Bool.or_false, Bool.false_or, Bool.and_true, Bool.true_and, Bool.and_self, cond_true, cond_false, List.append_nil, Iv.eta, Option.map_none, idxO_l0, idxO_l1, decide_true, decide_false, reqs_true, Int.zero_sub, wrap_lit, wrapu_lit, Int.reduceLE, Int.reduceLT, Int.reduceAdd, Int.reduceSub, Int.reduceMul, Int.reduceNeg, Int.reduceEq, Option.bind_some, bin_shr_u64, bin_shl_u64, bin_shr_i64, bin_shl_i64, and_m32', Int.reduceToNat, Int.reducePow, Int.reduceMod, Int.reduceDiv, wrap_u64s, true_or, or_true, true_and, and_true, Option.isSome_none, Option.isSome_some, Nat.reduceLeDiff, Nat.reduceMul, Int.toNat_natCast, Int.cast_ofNat_Int, Int.natCast_zero, Int.natCast_one, List.isEmpty_nil, List.isEmpty_cons, List.replicate_zero, List.replicate_succ, T1, T2, T3, T4, T5, T6, T9, T10, T11, T12, T21, T22, T23, T24, T25, T26, T27, T28, T30, T31, T32, T33, T34, T35, T36, T37, T38, T39, T40, T41, T42, T44, T45, T46, T47, T48, T49, T50, T51, T52, T53, T55, T56, T57, T58, T59, T60, T61, T63, T64, T66, T67, T68, T69, T70, T71, T72, T73, T74, T75, T76, T77, T78, T79, T80, T81, T82, T83, T84, T86, T87, T88, T89, T91, T93, T94, T95, T98, T100, T106, T107, T108, T109, T110, T112, T113, M_pok_eq, hs, boolO_some, rowOf_app hs, hp1, ho, bx_get, bx_get0, bx_set, bx_set0, List.append_assoc, List.length_append, q1, q2, q3, q4, bq_aa, bq_0l, bq_0r, Iv.eta]
            repeat' (first | with_reducible refine cnd_split (fun hc => ?_) (fun hc => ?_) | with_reducible refine Reqs.mk ?_ ?_)
            all_goals first | trivial | exact endM_ak
          | true =>
            have hv : polyV L ⟨a, b⟩ = polyH L ⟨a, b⟩ := by unfold polyV; rw [hp1, ho]; rfl
            rw [hv]
            obtain ⟨N, hN⟩ : ∃ N : Int, ((L.length : Nat) : Int) = N := ⟨_, rfl⟩
            have w1 : IntKind.i64.wrap (N - 1) = N - 1 := wrap_om (by omega) (by omega)
            have w2 : IntKind.i64.wrap (N - 2) = N - 2 := wrap_om (by omega) (by omega)
            obtain ⟨v, hv⟩ : ∃ v, L[L.length - 1]? = some v := ⟨_, List.getElem?_eq_getElem (by omega)⟩
            have i1 := fun h => @row_iad h i L.length (N - 1) (by omega) (by omega)
            have hNn : (N - 1).toNat = L.length - 1 := by omega
            rw [hNn] at i1
            have hd := loadC_at hv
            simp (config := { maxSteps := 4000000, implicitDefEqProofs := false }) only [F_addI_eq, F_mulI_eq, F_notOk_eq, F_whole_eq, WK0, WK1, WK2, WK3, WK4, WK5, WK6, WK7, WK8, WK9, WK10, WK11, WK12, WK13, WK14, WK15, WK16, WK17, WK18, WK19, WK20, WK21, WK22, WK23, WK24, WK25, WK26, WK27, WK28, look_hit, look_miss, List.map_cons, List.map_nil, Nat.add_zero, max_v, min_v, ↓cnd_t, ↓cnd_f, ↓grd_b, ↓grd_u, startEnv, Option.map_some, List.length_nil, List.length_cons, List.nil_append, List.cons_append, List.getElem?_cons_zero, List.getElem?_cons_succ, List.set_cons_zero, List.set_cons_succ, Bool.not_true, Bool.not_false, reduceIte, Nat.reduceEqDiff, Nat.reduceAdd, Nat.reduceLT, blt_lit, beq_lit, Bool.or_true, Bool.true_or, Bool.or_false, Bool.false_or, Bool.and_true, Bool.true_and, Bool.and_self, cond_true, cond_false, List.append_nil, Iv.eta, Option.map_none, idxO_l0, idxO_l1, decide_true, decide_false, reqs_true, Int.zero_sub, wrap_lit, wrapu_lit, Int.reduceLE, Int.reduceLT, Int.reduceAdd, Int.reduceSub, Int.reduceMul, Int.reduceNeg, Int.reduceEq, Option.bind_some, bin_shr_u64, bin_shl_u64, bin_shr_i64, bin_shl_i64, and_m32', Int.reduceToNat, Int.reducePow, Int.reduceMod, Int.reduceDiv, wrap_u64s, true_or, or_true, true_and, and_true, Option.isSome_none, Option.isSome_some, Nat.reduceLeDiff, Nat.reduceMul, Int.toNat_natCast, Int.cast_ofNat_Int, Int.natCast_zero, Int.natCast_one, List.isEmpty_nil, List.isEmpty_cons, List.replicate_zero, List.replicate_succ, T1, T2, T3, T4, T5, T6, T9, T10, T11, T12, T21, T22, T23, T24, T25, T26, T27, T28, T30, T31, T32, T33, T34, T35, T36, T37, T38, T39, T40, T41, T42, T44, T45, T46, T47, T48, T49, T50, T51, T52, T53, T55, T56, T57, T58, T59, T60, T61, T63, T64, T66, T67, T68, T69, T70, T71, T72, T73, T74, T75, T76, T77, T78, T79, T80, T81, T82, T83, T84, T86, T87, T88, T89, T91, T93, T94, T95, T98, T100, T106, T107, T108, T109, T110, T112, T113, M_pok_eq, hs, boolO_some, rowOf_app hs, hp1, ho, hN, w1, w2, i1, hi, hd, hgB, bx_get, bx_get0, bx_set, bx_set0, List.append_assoc, List.length_append, q1, q2, q3, q4, bq_aa, bq_0l, bq_0r, Iv.eta]
            repeat' (first | with_reducible refine cnd_split (fun hc => ?_) (fun hc => ?_) | with_reducible refine Reqs.mk ?_ ?_)
            all_goals first | trivial | skip
            refine go_loop (α := Nat) (fun s => s) (fun s e h => h = hp ++ [[.int .i64 a, .int .i64 b], [.int .i64 0, .int .i64 0], [.int .i64 (polyH (L.drop s) ⟨a, b⟩).lo, .int .i64 (polyH (L.drop s) ⟨a, b⟩).hi]] ∧ look e 0 = some (.v (.c (.row i 0 L.length 2))) ∧ look e 3 = some (.v (.c (.ptr (.own hp.length 0)))) ∧ look e 4 = some (.v (.c (.ptr (.own (hp.length + 1) 0)))) ∧ look e 5 = some (.v (.c (.ptr (.own (hp.length + 2) 0)))) ∧ look e 6 = some (.v (.c (.p (.int .i64 ((s : Int) - 1))))) ∧ s < L.length) (L.length - 1) ⟨?_, rfl, rfl, rfl, rfl, ?_, by omega⟩ ?_
            · rw [polyH_last hv (by omega)]
            · have : ((L.length - 1 : Nat) : Int) - 1 = N - 2 := by omega
              rw [this]; rfl
            rintro X k e h ⟨rfl, l0, l3, l4, l5, l6, hk⟩ hX
            cases k with
            | zero =>
              have e6 : ((0 : Nat) : Int) - 1 = -1 := rfl
              rw [e6] at l6
              have c0 : decide ((0 : Int) ≤ -1) = false := by decide
              rw [List.drop_zero]
              simp (config := { maxSteps := 4000000, implicitDefEqProofs := false }) only [F_addI_eq, F_mulI_eq, F_notOk_eq, F_whole_eq, WK0, WK1, WK2, WK3, WK4, WK5, WK6, WK7, WK8, WK9, WK10, WK11, WK12, WK13, WK14, WK15, WK16, WK17, WK18, WK19, WK20, WK21, WK22, WK23, WK24, WK25, WK26, WK27, WK28, look_hit, look_miss, List.map_cons, List.map_nil, Nat.add_zero, max_v, min_v, ↓cnd_t, ↓cnd_f, ↓grd_b, ↓grd_u, startEnv, Option.map_some, List.length_nil, List.length_cons, List.nil_append, List.cons_append, List.getElem?_cons_zero, List.getElem?_cons_succ, List.set_cons_zero, List.set_cons_succ, Bool.not_true, Bool.not_false, reduceIte, Nat.reduceEqDiff, Nat.reduceAdd, Nat.reduceLT, blt_lit, beq_lit, Bool.or_true, Bool.true_or, Bool.or_false, Bool.false_or, Bool.and_true, Bool.true_and, Bool.and_self, cond_true, cond_false, List.append_nil, Iv.eta, Option.map_none, idxO_l0, idxO_l1, decide_true, decide_false, reqs_true, Int.zero_sub, wrap_lit, wrapu_lit, Int.reduceLE, Int.reduceLT, Int.reduceAdd, Int.reduceSub, Int.reduceMul, Int.reduceNeg, Int.reduceEq, Option.bind_some, bin_shr_u64, bin_shl_u64, bin_shr_i64, bin_shl_i64, and_m32', Int.reduceToNat, Int.reducePow, Int.reduceMod, Int.reduceDiv, wrap_u64s, true_or, or_true, true_and, and_true, Option.isSome_none, Option.isSome_some, Nat.reduceLeDiff, Nat.reduceMul, Int.toNat_natCast, Int.cast_ofNat_Int, Int.natCast_zero, Int.natCast_one, List.isEmpty_nil, List.isEmpty_cons, List.replicate_zero, List.replicate_succ, T1, T2, T3, T4, T5, T6, T9, T10, T11, T12, T21, T22, T23, T24, T25, T26, T27, T28, T30, T31, T32, T33, T34, T35, T36, T37, T38, T39, T40, T41, T42, T44, T45, T46, T47, T48, T49, T50, T51, T52, T53, T55, T56, T57, T58, T59, T60, T61, T63, T64, T66, T67, T68, T69, T70, T71, T72, T73, T74, T75, T76, T77, T78, T79, T80, T81, T82, T83, T84, T86, T87, T88, T89, T91, T93, T94, T95, T98, T100, T106, T107, T108, T109, T110, T112, T113, l0, l3, l4, l5, l6, c0, bx_get, bx_get0, bx_set, bx_set0, q1, q2, q3, q4, bq_aa, bq_0l, bq_0r]
              exact endM_ak
            | succ k =>
              have e6 : ((k + 1 : Nat) : Int) - 1 = (k : Int) := by omega
              rw [e6] at l6
              obtain ⟨K, hK⟩ : ∃ K : Int, (k : Int) = K := ⟨_, rfl⟩
              rw [hK] at l6
              have c0 : decide (0 ≤ K) = true := by simp only [decide_eq_true_eq]; omega
              obtain ⟨u, hu⟩ : ∃ u, L[k]? = some u := ⟨_, List.getElem?_eq_getElem (by omega)⟩
              have i2 := fun h => @row_iad h i L.length K (by omega) (by omega)
              have hKn : K.toNat = k := by omega
              rw [hKn] at i2
              have hd2 := loadC_at hu
              have w3 : IntKind.i64.wrap (K - 1) = K - 1 := wrap_om (by omega) (by omega)
              have hst := polyH_step (x := ⟨a, b⟩) hu hk
              simp (config := { maxSteps := 4000000, implicitDefEqProofs := false }) only [F_addI_eq, F_mulI_eq, F_notOk_eq, F_whole_eq, WK0, WK1, WK2, WK3, WK4, WK5, WK6, WK7, WK8, WK9, WK10, WK11, WK12, WK13, WK14, WK15, WK16, WK17, WK18, WK19, WK20, WK21, WK22, WK23, WK24, WK25, WK26, WK27, WK28, look_hit, look_miss, List.map_cons, List.map_nil, Nat.add_zero, max_v, min_v, ↓cnd_t, ↓cnd_f, ↓grd_b, ↓grd_u, startEnv, Option.map_some, List.length_nil, List.length_cons, List.nil_append, List.cons_append, List.getElem?_cons_zero, List.getElem?_cons_succ, List.set_cons_zero, List.set_cons_succ, Bool.not_true, Bool.not_false, reduceIte, Nat.reduceEqDiff, Nat.reduceAdd, Nat.reduceLT, blt_lit, beq_lit, Bool.or_true, Bool.true_or, Bool.or_false, Bool.false_or, Bool.and_true, Bool.true_and, Bool.and_self, cond_true, cond_false, List.append_nil, Iv.eta, Option.map_none, idxO_l0, idxO_l1, decide_true, decide_false, reqs_true, Int.zero_sub, wrap_lit, wrapu_lit, Int.reduceLE, Int.reduceLT, Int.reduceAdd, Int.reduceSub, Int.reduceMul, Int.reduceNeg, Int.reduceEq, Option.bind_some, bin_shr_u64, bin_shl_u64, bin_shr_i64, bin_shl_i64, and_m32', Int.reduceToNat, Int.reducePow, Int.reduceMod, Int.reduceDiv, wrap_u64s, true_or, or_true, true_and, and_true, Option.isSome_none, Option.isSome_some, Nat.reduceLeDiff, Nat.reduceMul, Int.toNat_natCast, Int.cast_ofNat_Int, Int.natCast_zero, Int.natCast_one, List.isEmpty_nil, List.isEmpty_cons, List.replicate_zero, List.replicate_succ, T1, T2, T3, T4, T5, T6, T9, T10, T11, T12, T21, T22, T23, T24, T25, T26, T27, T28, T30, T31, T32, T33, T34, T35, T36, T37, T38, T39, T40, T41, T42, T44, T45, T46, T47, T48, T49, T50, T51, T52, T53, T55, T56, T57, T58, T59, T60, T61, T63, T64, T66, T67, T68, T69, T70, T71, T72, T73, T74, T75, T76, T77, T78, T79, T80, T81, T82, T83, T84, T86, T87, T88, T89, T91, T93, T94, T95, T98, T100, T106, T107, T108, T109, T110, T112, T113, l0, l3, l4, l5, l6, c0, i2, hd2, hgB, w3, bx_get, bx_get0, bx_set, bx_set0, q1, q2, q3, q4, bq_aa, bq_0l, bq_0r, Iv.eta]
              refine hX k _ _ (Nat.lt_succ_self _) ⟨?_, ?_, ?_, ?_, ?_, ?_, by omega⟩
              · rw [hst]
              · simp [look, l0]
              · simp [look, l3]
              · simp [look, l4]
              · simp [look, l5]
              · rw [← hK]; rfl
        · simp at h0
        · simp at h0
  · cases hM

-- def FnExactValidPoly
def M_lawValidPoly : MT := fun m args h => match args, h with
  | [.c (.p (.sl a n c))], [] => some (ToldI m a n ∧ (n : Int) ≤ 9223372036854775807, .v (.c (.p (.bool true))), [])
  | _, _ => none
theorem rowQ_at {m : Addr → Option PC} {a : Option Addr} {n : Nat} (h0 : 0 < n) (h1 : n ≤ 1048576) : rowQ n (some (ivsAt m a n)) = some (ivsAt m a n) := rowQ_of ivsAt_len.symm h0 h1
theorem end_true {l : Heap} : endM 0 (.v (.c (.p (.bool true)))) [] l (some [.c (.p (.bool true))]) := endM_same rfl trivial rfl rfl (by simp) rfl

end Go.Proofs.Ytcnapkdccjibpaa.Eng
