/- What functions of the program compute, and that the program computes it: part 23. -/
import Derived.Test.YtnkdmdjnnbkfgaaTab
import Derived.Test.YtnkdmdjnnbkfgaaEng16
import Derived.Laws.BitsLemmas
import Derived.Laws.Bits64
import Derived.Laws.Bits64b
import Derived.Lib.Mul64
import Derived.Lib.BitFns
import Derived.Laws.Externs
import Derived.Test.YtnkdmdjnnbkfgaaL1
import Derived.Test.YtnkdmdjnnbkfgaaL2
import Derived.Test.YtnkdmdjnnbkfgaaL3
import Derived.Test.YtnkdmdjnnbkfgaaL8
import Derived.Test.YtnkdmdjnnbkfgaaL15
import Derived.Test.YtnkdmdjnnbkfgaaL21
import Derived.Test.YtnkdmdjnnbkfgaaL22
namespace Go.Proofs.Ytnkdmdjnnbkfgaa.Eng
open Go Go.RowKit
set_option linter.unusedVariables false
set_option linter.unusedSimpArgs false
set_option maxRecDepth 100000
set_option maxHeartbeats 1000000
-- laws.FnPi
theorem laws_FnPi_lawFnPi_ok : Mn Try.prog 3 M_lawFnPi := by
  refine mn_of_go (O := orcM [⟨7, F_machin, .inl impl_MachinPi_machin_ok⟩, ⟨8, F_euler, .inl impl_EulerPi_euler_ok⟩, ⟨9, F_piI, .inl impl_PiI_piI_ok⟩, ⟨10, F_turnI, .inl impl_TurnI_turnI_ok⟩, ⟨11, F_okI, .inl spec_ValidInterval_okI_ok⟩, ⟨12, F_widthI, .inl spec_WidthI_widthI_ok⟩, ⟨13, F_overI, .inl spec_OverlapI_overI_ok⟩, ⟨14, F_addI, .inl spec_AddI_addI_ok⟩, ⟨15, F_negI, .inl spec_NegI_negI_ok⟩] [⟨6, M_d8, laws_d8At_d8_ok⟩]) mixed T_ok (orcM_sound _ _) Try.func3 (by kernel_rfl) rfl Try.ntmps3 (by kernel_rfl) Try.results3 ?_
  intro m args hp pre r h' hM hpre
  unfold M_lawFnPi at hM
  split at hM
  · rename_i a n c
    simp only [Option.some.injEq, Prod.mk.injEq] at hM
    obtain ⟨rfl, hr, hh⟩ := hM
    subst hh hr
    refine ⟨by simp, ?_⟩
    by_cases c0 : (1048576 : Int) < (n : Int)
    · have e0 : decide ((1048576 : Int) < (n : Int)) = true := by simpa using c0
      simp (config := { maxSteps := 4000000, implicitDefEqProofs := false }) only [F_addI_eq, F_euler_eq, F_machin_eq, F_negI_eq, F_okI_eq, F_overI_eq, F_piI_eq, F_turnI_eq, F_widthI_eq, WK0, WK1, WK2, WK3, WK4, WK5, WK6, WK7, WK8, WK9, WK10, WK11, WK12, WK13, WK14, WK15, WK16, WK17, WK18, WK19, WK20, WK21, WK22, WK23, look_hit, look_miss, List.map_cons, List.map_nil, Nat.add_zero, max_v, min_v, ↓cnd_t, ↓cnd_f, ↓grd_b, ↓grd_u, startEnv, Option.map_some, List.length_nil, List.length_cons, List.nil_append, List.cons_append, List.getElem?_cons_zero, List.getElem?_cons_succ, List.set_cons_zero, List.set_cons_succ, Bool.not_true, Bool.not_false, reduceIte, Nat.reduceEqDiff, Nat.reduceAdd, Nat.reduceLT, blt_lit, beq_lit, Bool.or_true, Bool.true_or, Bool.or_false, Bool.false_or, Bool.and_true, Bool.true_and, Bool.and_self, cond_true, cond_false, List.append_nil, Iv.eta, Option.map_none, idxO_l0, idxO_l1, decide_true, decide_false, reqs_true, Int.zero_sub, wrap_lit, wrapu_lit, Int.reduceLE, Int.reduceLT, Int.reduceAdd, Int.reduceSub, Int.reduceMul, Int.reduceNeg, Int.reduceEq, Option.bind_some, bin_shr_u64, bin_shl_u64, bin_shr_i64, bin_shl_i64, and_m32', Int.reduceToNat, Int.reducePow, Int.reduceMod, Int.reduceDiv, wrap_u64s, true_or, or_true, true_and, and_true, Option.isSome_none, Option.isSome_some, Nat.reduceLeDiff, Nat.reduceMul, Int.toNat_natCast, Int.cast_ofNat_Int, Int.natCast_zero, Int.natCast_one, List.isEmpty_nil, List.isEmpty_cons, List.replicate_zero, List.replicate_succ, T1, T2, T3, T4, T5, T6, T9, T10, T11, T12, T21, T22, T23, T24, T25, T26, T27, T28, T29, T30, T31, T32, T33, T34, T35, T37, T38, T40, T41, T42, T44, T46, T48, T49, T50, T51, T52, T53, T54, T55, T56, T57, T58, T59, T60, T61, T62, T63, T64, T65, T66, T67, T68, T69, T70, T71, T72, T73, T74, T76, T77, T79, T81, T83, T84, T85, T87, T88, T89, T90, T93, T95, T101, T102, T103, T104, T105, T107, T108, e0]
      exact endM_same rfl trivial rfl rfl (by simp) rfl
    · have e0 : decide ((1048576 : Int) < (n : Int)) = false := by simpa using c0
      obtain ⟨t, ht⟩ : ∃ t, d8F m a n 0 40 = t := ⟨_, rfl⟩
      obtain ⟨j, hj⟩ : ∃ j, d8F m a n 1 4000 = j := ⟨_, rfl⟩
      obtain ⟨k, hk⟩ : ∃ k, d8F m a n 3 4000 = k := ⟨_, rfl⟩
      have bt := d8_in (m := m) (a := a) (n := n) (k := 0) (N := 40) (by decide)
      have bj := d8_in (m := m) (a := a) (n := n) (k := 1) (N := 4000) (by decide)
      have bk := d8_in (m := m) (a := a) (n := n) (k := 3) (N := 4000) (by decide)
      rw [ht] at bt
      rw [hj] at bj
      rw [hk] at bk
      have w1 : IntKind.i64.wrap (1 + t) = 1 + t := wrap_om (by omega) (by omega)
      have w2 : IntKind.i64.wrap (j - 2000) = j - 2000 := wrap_om (by omega) (by omega)
      have w3 : IntKind.i64.wrap (k - 2000) = k - 2000 := wrap_om (by omega) (by omega)
      obtain ⟨J, hJ⟩ : ∃ J, j - 2000 = J := ⟨_, rfl⟩
      obtain ⟨K, hK⟩ : ∃ K, k - 2000 = K := ⟨_, rfl⟩
      rw [hJ] at w2
      rw [hK] at w3
      have w4 : IntKind.i64.wrap (J + K) = J + K := wrap_om (by omega) (by omega)
      have w5 : IntKind.i64.wrap (-J) = -J := wrap_om (by omega) (by omega)
      have o1 : okI (turnI 2) = true := turn_ok (by omega)
      have o2 : okI (turnI J) = true := turn_ok (by omega)
      have o3 : okI (turnI (J + K)) = true := turn_ok (by omega)
      have o4 : widthI (turnI 2) = 1 := by decide
      have o5 : decide (1 < widthI (turnI J)) = false := turn_width (by omega)
      have hp := piOk_at (t := t) bt
      simp only [piOk, Bool.and_eq_true] at hp
      obtain ⟨p1, p2, p3⟩ := hp
      have p4 : (meetI (addI (turnI J) (turnI K)) (turnI (J + K))).2 = true := turn_add (by omega) (by omega)
      have p5 : negI (turnI J) = turnI (-J) := turn_neg (by omega)
      simp (config := { maxSteps := 4000000, implicitDefEqProofs := false }) only [F_addI_eq, F_euler_eq, F_machin_eq, F_negI_eq, F_okI_eq, F_overI_eq, F_piI_eq, F_turnI_eq, F_widthI_eq, WK0, WK1, WK2, WK3, WK4, WK5, WK6, WK7, WK8, WK9, WK10, WK11, WK12, WK13, WK14, WK15, WK16, WK17, WK18, WK19, WK20, WK21, WK22, WK23, look_hit, look_miss, List.map_cons, List.map_nil, Nat.add_zero, max_v, min_v, ↓cnd_t, ↓cnd_f, ↓grd_b, ↓grd_u, startEnv, Option.map_some, List.length_nil, List.length_cons, List.nil_append, List.cons_append, List.getElem?_cons_zero, List.getElem?_cons_succ, List.set_cons_zero, List.set_cons_succ, Bool.not_true, Bool.not_false, reduceIte, Nat.reduceEqDiff, Nat.reduceAdd, Nat.reduceLT, blt_lit, beq_lit, Bool.or_true, Bool.true_or, Bool.or_false, Bool.false_or, Bool.and_true, Bool.true_and, Bool.and_self, cond_true, cond_false, List.append_nil, Iv.eta, Option.map_none, idxO_l0, idxO_l1, decide_true, decide_false, reqs_true, Int.zero_sub, wrap_lit, wrapu_lit, Int.reduceLE, Int.reduceLT, Int.reduceAdd, Int.reduceSub, Int.reduceMul, Int.reduceNeg, Int.reduceEq, Option.bind_some, bin_shr_u64, bin_shl_u64, bin_shr_i64, bin_shl_i64, and_m32', Int.reduceToNat, Int.reducePow, Int.reduceMod, Int.reduceDiv, wrap_u64s, true_or, or_true, true_and, and_true, Option.isSome_none, Option.isSome_some, Nat.reduceLeDiff, Nat.reduceMul, Int.toNat_natCast, Int.cast_ofNat_Int, Int.natCast_zero, Int.natCast_one, List.isEmpty_nil, List.isEmpty_cons, List.replicate_zero, List.replicate_succ, T1, T2, T3, T4, T5, T6, T9, T10, T11, T12, T21, T22, T23, T24, T25, T26, T27, T28, T29, T30, T31, T32, T33, T34, T35, T37, T38, T40, T41, T42, T44, T46, T48, T49, T50, T51, T52, T53, T54, T55, T56, T57, T58, T59, T60, T61, T62, T63, T64, T65, T66, T67, T68, T69, T70, T71, T72, T73, T74, T76, T77, T79, T81, T83, T84, T85, T87, T88, T89, T90, T93, T95, T101, T102, T103, T104, T105, T107, T108, M_d8_eq, e0, ht, hj, hk, w1, w2, w3, hJ, hK, w4, w5, Iv.eta, o1, o2, o3, o4, o5, p1, p2, p3, p4, p5]
      repeat' (first | with_reducible refine cnd_split (fun hc => ?_) (fun hc => ?_) | with_reducible refine Reqs.mk ?_ ?_)
      all_goals first
        | trivial
        | exact endM_same rfl trivial rfl rfl (by simp) rfl
        | exact ⟨hpre, by omega⟩
  · cases hM
theorem law_FnPi : Mn Try.prog 3 M_lawFnPi := laws_FnPi_lawFnPi_ok

end Go.Proofs.Ytnkdmdjnnbkfgaa.Eng
