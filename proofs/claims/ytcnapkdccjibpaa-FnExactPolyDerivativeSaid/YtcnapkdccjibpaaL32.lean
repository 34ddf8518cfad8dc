/- What functions of the program compute, and that the program computes it: part 32. -/
import Derived.Test.YtcnapkdccjibpaaTab
import Derived.Test.YtcnapkdccjibpaaEng16
import Derived.Laws.BitsLemmas
import Derived.Laws.Bits64
import Derived.Laws.Bits64b
import Derived.Lib.Mul64
import Derived.Lib.BitFns
import Derived.Laws.Externs
import Derived.Test.YtcnapkdccjibpaaL1
import Derived.Test.YtcnapkdccjibpaaL19
import Derived.Test.YtcnapkdccjibpaaL26
import Derived.Test.YtcnapkdccjibpaaL27
import Derived.Test.YtcnapkdccjibpaaL28
import Derived.Test.YtcnapkdccjibpaaL29
import Derived.Test.YtcnapkdccjibpaaL30
import Derived.Test.YtcnapkdccjibpaaL31
namespace Go.Proofs.Ytcnapkdccjibpaa.Eng
open Go Go.RowKit
set_option linter.unusedVariables false
set_option linter.unusedSimpArgs false
set_option maxRecDepth 100000
set_option maxHeartbeats 1000000
-- laws.FnExactPolyDerivative
theorem laws_FnExactPolyDerivative_lawPolyDerivative_ok : Mn Try.prog 6 M_lawPolyDerivative := by
  refine mn_of_go (O := orcM [] [⟨8, M_szS, false, no_one, laws_szIntervalS_szS_ok⟩, ⟨10, M_toS, false, no_one, laws_toIntervalS_toS_ok⟩, ⟨12, M_eqS, false, no_one, laws_eqIntervalS_eqS_ok⟩, ⟨15, M_mark, false, no_one, laws_markIntervalS_mark_ok⟩, ⟨16, M_held, false, no_one, laws_heldIntervalS_held_ok⟩, ⟨21, M_derP, false, no_one, spec_PolyDerivative_derP_ok⟩, ⟨22, M_derP, false, no_one, impl_PolyDerivative_derP_ok⟩]) mixed T_ok (orcM_sound _ _) Try.func6 (by kernel_rfl) rfl Try.ntmps6 (by kernel_rfl) Try.results6 ?_
  intro m args hp pre r h' hM hpre
  unfold M_lawPolyDerivative at hM
  split at hM
  · rename_i a n c
    simp only [Option.some.injEq, Prod.mk.injEq] at hM
    obtain ⟨rfl, hr, hh⟩ := hM
    subst hh hr
    obtain ⟨k1, k2⟩ := hpre
    refine ⟨by simp, ?_⟩
    by_cases c0 : (n : Int) ≤ 1048576
    · obtain ⟨Q, hQ0⟩ : ∃ Q : Int, (1048576 : Int) - (n : Int) = Q := ⟨_, rfl⟩
      have e0 : decide (Q < 0) = false := by simp only [decide_eq_false_iff_not]; omega
      have hD' : (if (1048576 : Int) - (n : Int) < 0 then -1 else 1048576 - (n : Int)) = Q := by rw [if_neg (by omega)]; exact hQ0
      obtain ⟨L, hL⟩ : ∃ L, ivsAt m a n = L := ⟨_, rfl⟩
      have e2 := eqL_refl L
      have e5 : eqL [] [] = true := rfl
      have e6 : heldF [] 1 = 1 := rfl
      have e7 : decide ((1 : Int) < 0) = false := by decide
      have e8 : decide ((1 : Int) = 1) = true := by decide
      obtain ⟨K1, hK1⟩ : ∃ K1 : Int, 1 + 2 * (n : Int) = K1 := ⟨_, rfl⟩
      have e9 : decide (K1 < 0) = false := by simp only [decide_eq_false_iff_not]; omega
      have hLn : L.length = n := by rw [← hL]; exact ivsAt_len
      by_cases hn : n = 0
      · have er : ∀ k, rowE k n = .emp k 0 := fun k => by unfold rowE; rw [if_pos hn]
        have hL0 : L = [] := by rw [← hL, hn]; rfl
        rw [hL0] at e2 hL
        have hp : derP [] = ([], 1) := rfl
        simp (config := { maxSteps := 4000000, implicitDefEqProofs := false }) only [WK0, WK1, WK2, WK3, WK4, WK5, WK6, WK7, WK8, WK9, WK10, WK11, WK12, WK13, WK14, WK15, WK16, WK17, WK18, WK19, WK20, WK21, WK22, WK23, WK24, WK25, WK26, WK27, WK28, look_hit, look_miss, List.map_cons, List.map_nil, Nat.add_zero, max_v, min_v, ↓cnd_t, ↓cnd_f, ↓grd_b, ↓grd_u, startEnv, Option.map_some, List.length_nil, List.length_cons, List.nil_append, List.cons_append, List.getElem?_cons_zero, List.getElem?_cons_succ, List.set_cons_zero, List.set_cons_succ, Bool.not_true, Bool.not_false, reduceIte, Nat.reduceEqDiff, Nat.reduceAdd, Nat.reduceLT, blt_lit, beq_lit, Bool.or_true, Bool.true_or, Bool.or_false, Bool.false_or, Bool.and_true, Bool.true_and, Bool.and_self, cond_true, cond_false, List.append_nil, Iv.eta, Option.map_none, idxO_l0, idxO_l1, decide_true, decide_false, reqs_true, Int.zero_sub, wrap_lit, wrapu_lit, Int.reduceLE, Int.reduceLT, Int.reduceAdd, Int.reduceSub, Int.reduceMul, Int.reduceNeg, Int.reduceEq, Option.bind_some, bin_shr_u64, bin_shl_u64, bin_shr_i64, bin_shl_i64, and_m32', Int.reduceToNat, Int.reducePow, Int.reduceMod, Int.reduceDiv, wrap_u64s, true_or, or_true, true_and, and_true, Option.isSome_none, Option.isSome_some, Nat.reduceLeDiff, Nat.reduceMul, Int.toNat_natCast, Int.cast_ofNat_Int, Int.natCast_zero, Int.natCast_one, List.isEmpty_nil, List.isEmpty_cons, List.replicate_zero, List.replicate_succ, T1, T2, T3, T4, T5, T6, T9, T10, T11, T12, T21, T22, T23, T24, T25, T26, T27, T28, T30, T31, T32, T33, T34, T35, T36, T37, T38, T39, T40, T41, T42, T44, T45, T46, T47, T48, T49, T50, T51, T52, T53, T55, T56, T57, T58, T59, T60, T61, T63, T64, T66, T67, T68, T69, T70, T71, T72, T73, T74, T75, T76, T77, T78, T79, T80, T81, T82, T83, T84, T86, T87, T88, T89, T91, T93, T94, T95, T98, T100, T106, T107, T108, T109, T110, T112, T113, M_szS_eq, hD', e0, M_toS_eq, er, hL, rowOf_emp, rowOf_nil, M_derP_eq, derPO_some, hp, rowR_0, rowH_0, M_eqS_eq, eqO_some, e2, e5, M_mark_eq, markO_emp, markO_nil, M_held_eq, heldO_some, e6, e7, e8]
        repeat' (first | with_reducible refine cnd_split (fun hc => ?_) (fun hc => ?_) | with_reducible refine Reqs.mk ?_ ?_)
        all_goals first | trivial | exact end_true | exact ⟨by omega, by omega, by omega⟩ | exact ⟨k1, by omega⟩ | exact ⟨by omega, by omega⟩
      · have er : ∀ k, rowE k n = .row k 0 n 2 := fun k => by unfold rowE; rw [if_neg hn]
        have hQ := @rowQ_at m a n (by omega) (by omega)
        rw [hL] at hQ
        rcases derP_cases L with ⟨cd, hp⟩ | ⟨D, cd, hp, d0, d1, _⟩
        · have e10 : decide (cd = cd) = true := by simp
          simp (config := { maxSteps := 4000000, implicitDefEqProofs := false }) only [WK0, WK1, WK2, WK3, WK4, WK5, WK6, WK7, WK8, WK9, WK10, WK11, WK12, WK13, WK14, WK15, WK16, WK17, WK18, WK19, WK20, WK21, WK22, WK23, WK24, WK25, WK26, WK27, WK28, look_hit, look_miss, List.map_cons, List.map_nil, Nat.add_zero, max_v, min_v, ↓cnd_t, ↓cnd_f, ↓grd_b, ↓grd_u, startEnv, Option.map_some, List.length_nil, List.length_cons, List.nil_append, List.cons_append, List.getElem?_cons_zero, List.getElem?_cons_succ, List.set_cons_zero, List.set_cons_succ, Bool.not_true, Bool.not_false, reduceIte, Nat.reduceEqDiff, Nat.reduceAdd, Nat.reduceLT, blt_lit, beq_lit, Bool.or_true, Bool.true_or, Bool.or_false, Bool.false_or, Bool.and_true, Bool.true_and, Bool.and_self, cond_true, cond_false, List.append_nil, Iv.eta, Option.map_none, idxO_l0, idxO_l1, decide_true, decide_false, reqs_true, Int.zero_sub, wrap_lit, wrapu_lit, Int.reduceLE, Int.reduceLT, Int.reduceAdd, Int.reduceSub, Int.reduceMul, Int.reduceNeg, Int.reduceEq, Option.bind_some, bin_shr_u64, bin_shl_u64, bin_shr_i64, bin_shl_i64, and_m32', Int.reduceToNat, Int.reducePow, Int.reduceMod, Int.reduceDiv, wrap_u64s, true_or, or_true, true_and, and_true, Option.isSome_none, Option.isSome_some, Nat.reduceLeDiff, Nat.reduceMul, Int.toNat_natCast, Int.cast_ofNat_Int, Int.natCast_zero, Int.natCast_one, List.isEmpty_nil, List.isEmpty_cons, List.replicate_zero, List.replicate_succ, T1, T2, T3, T4, T5, T6, T9, T10, T11, T12, T21, T22, T23, T24, T25, T26, T27, T28, T30, T31, T32, T33, T34, T35, T36, T37, T38, T39, T40, T41, T42, T44, T45, T46, T47, T48, T49, T50, T51, T52, T53, T55, T56, T57, T58, T59, T60, T61, T63, T64, T66, T67, T68, T69, T70, T71, T72, T73, T74, T75, T76, T77, T78, T79, T80, T81, T82, T83, T84, T86, T87, T88, T89, T91, T93, T94, T95, T98, T100, T106, T107, T108, T109, T110, T112, T113, M_szS_eq, hD', e0, M_toS_eq, er, hL, rowOf_row, ivsC_cells, hQ, rowOf_nil, M_derP_eq, derPO_some, hp, rowR_0, rowH_0, M_eqS_eq, eqO_some, e2, e5, M_mark_eq, markO_row, markO_nil, M_held_eq, heldO_some, hLn, hK1, e6, e7, e8, e9, e10]
          repeat' (first | with_reducible refine cnd_split (fun hc => ?_) (fun hc => ?_) | with_reducible refine Reqs.mk ?_ ?_)
          all_goals first | trivial | exact end_true | exact ⟨by omega, by omega, by omega⟩ | exact ⟨k1, by omega⟩ | exact ⟨by omega, by omega⟩
        · have e10 : decide (cd = cd) = true := by simp
          have eR : ∀ k, rowR k 2 D.length = .row k 0 D.length 2 := fun k => by unfold rowR; rw [if_neg (by omega)]
          have eH : ∀ h, rowH h D.length (cellsI D) = h ++ [cellsI D] := fun h => by unfold rowH; rw [if_neg (by omega)]
          have hQD : rowQ D.length (some D) = some D := rowQ_of rfl d0 (by omega)
          have hQm : rowQ D.length (some (markL D.length 1)) = some (markL D.length 1) := rowQ_of (markL_len _ _).symm d0 (by omega)
          have e3 := eqL_refl D
          obtain ⟨K2, hK2⟩ : ∃ K2 : Int, 1 + 2 * (D.length : Int) = K2 := ⟨_, rfl⟩
          have hm2 : heldF (markL D.length 1) 1 = K2 := by rw [heldF_mark]; exact hK2
          have e11 : decide (K2 < 0) = false := by simp only [decide_eq_false_iff_not]; omega
          have e12 : decide (K2 = K2) = true := by simp
          simp (config := { maxSteps := 4000000, implicitDefEqProofs := false }) only [WK0, WK1, WK2, WK3, WK4, WK5, WK6, WK7, WK8, WK9, WK10, WK11, WK12, WK13, WK14, WK15, WK16, WK17, WK18, WK19, WK20, WK21, WK22, WK23, WK24, WK25, WK26, WK27, WK28, look_hit, look_miss, List.map_cons, List.map_nil, Nat.add_zero, max_v, min_v, ↓cnd_t, ↓cnd_f, ↓grd_b, ↓grd_u, startEnv, Option.map_some, List.length_nil, List.length_cons, List.nil_append, List.cons_append, List.getElem?_cons_zero, List.getElem?_cons_succ, List.set_cons_zero, List.set_cons_succ, Bool.not_true, Bool.not_false, reduceIte, Nat.reduceEqDiff, Nat.reduceAdd, Nat.reduceLT, blt_lit, beq_lit, Bool.or_true, Bool.true_or, Bool.or_false, Bool.false_or, Bool.and_true, Bool.true_and, Bool.and_self, cond_true, cond_false, List.append_nil, Iv.eta, Option.map_none, idxO_l0, idxO_l1, decide_true, decide_false, reqs_true, Int.zero_sub, wrap_lit, wrapu_lit, Int.reduceLE, Int.reduceLT, Int.reduceAdd, Int.reduceSub, Int.reduceMul, Int.reduceNeg, Int.reduceEq, Option.bind_some, bin_shr_u64, bin_shl_u64, bin_shr_i64, bin_shl_i64, and_m32', Int.reduceToNat, Int.reducePow, Int.reduceMod, Int.reduceDiv, wrap_u64s, true_or, or_true, true_and, and_true, Option.isSome_none, Option.isSome_some, Nat.reduceLeDiff, Nat.reduceMul, Int.toNat_natCast, Int.cast_ofNat_Int, Int.natCast_zero, Int.natCast_one, List.isEmpty_nil, List.isEmpty_cons, List.replicate_zero, List.replicate_succ, T1, T2, T3, T4, T5, T6, T9, T10, T11, T12, T21, T22, T23, T24, T25, T26, T27, T28, T30, T31, T32, T33, T34, T35, T36, T37, T38, T39, T40, T41, T42, T44, T45, T46, T47, T48, T49, T50, T51, T52, T53, T55, T56, T57, T58, T59, T60, T61, T63, T64, T66, T67, T68, T69, T70, T71, T72, T73, T74, T75, T76, T77, T78, T79, T80, T81, T82, T83, T84, T86, T87, T88, T89, T91, T93, T94, T95, T98, T100, T106, T107, T108, T109, T110, T112, T113, M_szS_eq, hD', e0, M_toS_eq, er, hL, rowOf_row, ivsC_cells, hQ, hQD, hQm, M_derP_eq, derPO_some, hp, eR, eH, M_eqS_eq, eqO_some, e2, e3, M_mark_eq, markO_row, M_held_eq, heldO_some, hLn, hK1, hK2, hm2, e7, e8, e9, e10, e11, e12]
          repeat' (first | with_reducible refine cnd_split (fun hc => ?_) (fun hc => ?_) | with_reducible refine Reqs.mk ?_ ?_)
          all_goals first | trivial | exact end_true | exact ⟨by omega, by omega, by omega⟩ | exact ⟨k1, by omega⟩ | exact ⟨by omega, by omega⟩
    · have hD' : (if (1048576 : Int) - (n : Int) < 0 then -1 else 1048576 - (n : Int)) = -1 := by rw [if_pos (by omega)]
      have e0 : decide ((-1 : Int) < 0) = true := by decide
      simp (config := { maxSteps := 4000000, implicitDefEqProofs := false }) only [WK0, WK1, WK2, WK3, WK4, WK5, WK6, WK7, WK8, WK9, WK10, WK11, WK12, WK13, WK14, WK15, WK16, WK17, WK18, WK19, WK20, WK21, WK22, WK23, WK24, WK25, WK26, WK27, WK28, look_hit, look_miss, List.map_cons, List.map_nil, Nat.add_zero, max_v, min_v, ↓cnd_t, ↓cnd_f, ↓grd_b, ↓grd_u, startEnv, Option.map_some, List.length_nil, List.length_cons, List.nil_append, List.cons_append, List.getElem?_cons_zero, List.getElem?_cons_succ, List.set_cons_zero, List.set_cons_succ, Bool.not_true, Bool.not_false, reduceIte, Nat.reduceEqDiff, Nat.reduceAdd, Nat.reduceLT, blt_lit, beq_lit, Bool.or_true, Bool.true_or, Bool.or_false, Bool.false_or, Bool.and_true, Bool.true_and, Bool.and_self, cond_true, cond_false, List.append_nil, Iv.eta, Option.map_none, idxO_l0, idxO_l1, decide_true, decide_false, reqs_true, Int.zero_sub, wrap_lit, wrapu_lit, Int.reduceLE, Int.reduceLT, Int.reduceAdd, Int.reduceSub, Int.reduceMul, Int.reduceNeg, Int.reduceEq, Option.bind_some, bin_shr_u64, bin_shl_u64, bin_shr_i64, bin_shl_i64, and_m32', Int.reduceToNat, Int.reducePow, Int.reduceMod, Int.reduceDiv, wrap_u64s, true_or, or_true, true_and, and_true, Option.isSome_none, Option.isSome_some, Nat.reduceLeDiff, Nat.reduceMul, Int.toNat_natCast, Int.cast_ofNat_Int, Int.natCast_zero, Int.natCast_one, List.isEmpty_nil, List.isEmpty_cons, List.replicate_zero, List.replicate_succ, T1, T2, T3, T4, T5, T6, T9, T10, T11, T12, T21, T22, T23, T24, T25, T26, T27, T28, T30, T31, T32, T33, T34, T35, T36, T37, T38, T39, T40, T41, T42, T44, T45, T46, T47, T48, T49, T50, T51, T52, T53, T55, T56, T57, T58, T59, T60, T61, T63, T64, T66, T67, T68, T69, T70, T71, T72, T73, T74, T75, T76, T77, T78, T79, T80, T81, T82, T83, T84, T86, T87, T88, T89, T91, T93, T94, T95, T98, T100, T106, T107, T108, T109, T110, T112, T113, M_szS_eq, hD', e0]
      repeat' (first | with_reducible refine cnd_split (fun hc => ?_) (fun hc => ?_) | with_reducible refine Reqs.mk ?_ ?_)
      all_goals first | trivial | exact end_true | exact ⟨by omega, by omega, by omega⟩
  · cases hM
theorem law_FnExactPolyDerivative : Mn Try.prog 6 M_lawPolyDerivative := laws_FnExactPolyDerivative_lawPolyDerivative_ok

-- def FnExactAddPolys
def M_lawAddPolys : MT := fun m args h => match args, h with
  | [.c (.p (.sl a n c)), .c (.p (.sl b k d))], [] => some (ToldI m a n ∧ (n : Int) ≤ 9223372036854775807 ∧ ToldI m b k ∧ (k : Int) ≤ 9223372036854775807, .v (.c (.p (.bool true))), [])
  | _, _ => none
theorem addP_cases (A B : List Iv) : (∃ c, addP A B = ([], c)) ∨ (∃ D c, addP A B = (D, c) ∧ 0 < D.length ∧ D.length ≤ 17 ∧ 0 < A.length ∧ 0 < B.length) := by
  unfold addP
  split
  · rename_i hp
    rw [Bool.and_eq_true] at hp
    have ha := pok_pos hp.1
    have hb := pok_pos hp.2
    have hl := addL_len A B
    rcases knownL_cases (addL A B) (by omega) with e | ⟨D, e, h1, h2⟩
    · exact .inl ⟨9, e⟩
    · exact .inr ⟨D, 0, e, h1, h2, ha.1, hb.1⟩
  · exact .inl ⟨1, rfl⟩

end Go.Proofs.Ytcnapkdccjibpaa.Eng
