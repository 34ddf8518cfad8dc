/- What functions of the program compute, and that the program computes it: part 23. -/
import Derived.Test.YtcnapkdccjibpaaGreatTab
import Derived.Test.YtcnapkdccjibpaaGreatEng16
import Derived.Laws.BitsLemmas
import Derived.Laws.Bits64
import Derived.Laws.Bits64b
import Derived.Lib.Mul64
import Derived.Lib.BitFns
import Derived.Laws.Externs
import Derived.Test.YtcnapkdccjibpaaGreatL1
import Derived.Test.YtcnapkdccjibpaaGreatL8
import Derived.Test.YtcnapkdccjibpaaGreatL20
import Derived.Test.YtcnapkdccjibpaaGreatL22
namespace Go.Proofs.YtcnapkdccjibpaaGreat.Eng
open Go Go.RowKit
set_option linter.unusedVariables false
set_option linter.unusedSimpArgs false
set_option maxRecDepth 100000
set_option maxHeartbeats 1000000
-- spec.l05Number
theorem spec_l05Number_number_ok : Mn Tryz.prog 55 M_number := by
  refine mn_of_go (O := orcM [] [⟨56, M_one, true, fun _ => one_one, __spec_l00Src__one_one_ok⟩, ⟨58, M_pick, true, fun _ => one_pick, __spec_l00Src__pick_pick_ok⟩, ⟨59, M_among, true, fun _ => one_among, __spec_l00Src__among_among_ok⟩, ⟨125, M_next, true, fun _ => one_next, __spec_l00Src__next_next_ok⟩]) mixed T_ok (orcM_sound _ _) Tryz.func55 (by kernel_rfl) rfl Tryz.ntmps55 (by kernel_rfl) Tryz.results55 ?_
  intro m args hp pre r h' hM hpre
  unfold M_number at hM
  split at hM
  · rename_i i most
    cases hs : srOf hp[i]? with
    | none => rw [hs] at hM; cases hM
    | some t =>
      obtain ⟨a, n, c, x0⟩ := t
      rw [hs, numO_some] at hM
      simp only [Option.some.injEq, Prod.mk.injEq] at hM
      obtain ⟨rfl, hr, hh⟩ := hM
      have hi := srOf_out hs
      have hg := setAt_get hi
      have hgA := setAt_getA hi
      have hsA := setAt_setA hi
      obtain ⟨ok0, m1, m2⟩ := hpre
      refine ⟨by simp, ?_⟩
      simp (config := { maxSteps := 4000000, implicitDefEqProofs := false }) only [WK0, WK1, WK2, WK3, WK4, WK5, WK6, WK7, WK8, WK9, WK10, WK11, WK12, WK13, WK14, WK15, WK16, WK17, WK18, WK19, WK20, WK21, WK22, WK23, WK24, WK25, WK26, WK27, WK28, look_hit, look_miss, List.map_cons, List.map_nil, Nat.add_zero, max_v, min_v, ↓cnd_t, ↓cnd_f, ↓grd_b, ↓grd_u, startEnv, Option.map_some, List.length_nil, List.length_cons, List.nil_append, List.cons_append, List.getElem?_cons_zero, List.getElem?_cons_succ, List.set_cons_zero, List.set_cons_succ, Bool.not_true, Bool.not_false, reduceIte, Nat.reduceEqDiff, Nat.reduceAdd, Nat.reduceLT, blt_lit, beq_lit, Bool.or_true, Bool.true_or, Bool.or_false, Bool.false_or, Bool.and_true, Bool.true_and, Bool.and_self, cond_true, cond_false, List.append_nil, Iv.eta, Option.map_none, idxO_l0, idxO_l1, decide_true, decide_false, reqs_true, Int.zero_sub, wrap_lit, wrapu_lit, Int.reduceLE, Int.reduceLT, Int.reduceAdd, Int.reduceSub, Int.reduceMul, Int.reduceNeg, Int.reduceEq, Option.bind_some, bin_shr_u64, bin_shl_u64, bin_shr_i64, bin_shl_i64, and_m32', Int.reduceToNat, Int.reducePow, Int.reduceMod, Int.reduceDiv, wrap_u64s, true_or, or_true, true_and, and_true, Option.isSome_none, Option.isSome_some, Nat.reduceLeDiff, Nat.reduceMul, Int.toNat_natCast, Int.cast_ofNat_Int, Int.natCast_zero, Int.natCast_one, List.isEmpty_nil, List.isEmpty_cons, List.replicate_zero, List.replicate_succ, T1, T2, T3, T4, T5, T6, T9, T10, T11, T12, T21, T22, T23, T24, T26, T27, T28, T29, T30, T31, T32, T33, T34, T35, T37, T38, T39, T40, T42, T43, T44, T45, T46, T47, T48, T50, T52, T54, T55, T56, T57, T58, T59, T60, T61, T62, T63, T64, T65, T66, T67, T68, T69, T70, T71, T72, T73, T75, T77, T78, T79, T80, T82, T83, T84, T85, T87, T89, T90, T91, T92, T95, T97, T103, T104, T105, T106, T107, T109, T110]
      refine go_loop (α := Nat × Int × Sr) (fun s => s.1) (fun s e h => h = hp.set i (srC a n c s.2.2) ∧ look e 0 = some (.v (.c (.ptr (.own i 0)))) ∧ look e 1 = some (.v (.c (.p (.int .i64 most)))) ∧ look e 5 = some (.v (.c (.p (.int .i64 s.2.1)))) ∧ look e 6 = some (.v (.c (.p (.int .i64 (7 - (s.1 : Int)))))) ∧
        s.1 ≤ 7 ∧ 0 ≤ s.2.1 ∧ s.2.1 < 2 ^ (8 * (7 - s.1)) ∧ SrOk m a n (800000007 - s.1) s.2.2 ∧ nmX m a n s.1 s.2.1 s.2.2 = nmX m a n 7 0 x0) (7, 0, x0) ⟨(set_same hi).symm, rfl, rfl, rfl, rfl, by simp, by simp, (show (0 : Int) < 2 ^ (8 * (7 - 7)) by decide), (show SrOk m a n (800000007 - ((7 : Nat) : Int)) x0 by simpa using ok0), rfl⟩ ?_
      rintro X ⟨k, x, s⟩ e h ⟨rfl, l0, l1, l5, l6, hk, x0', x1, hok, hX7⟩ hX
      simp only at l5 l6 hk x0' x1 hok hX7 hX
      cases k with
      | zero =>
        have e7 : (7 : Int) - ((0 : Nat) : Int) = 7 := rfl
        rw [e7] at l6
        have hX7 : (x, s) = nmX m a n 7 0 x0 := hX7
        have hb : (2 : Int) ^ (8 * (7 - 0)) = 72057594037927936 := by decide
        rw [hb] at x1
        have w1 : IntKind.i64.wrap (most + 1) = most + 1 := wrap_om (by omega) (by omega)
        have z1 : decide (most + 1 = 0) = false := by simp only [decide_eq_false_iff_not]; omega
        obtain ⟨y, hy⟩ : ∃ y, x.tmod (most + 1) = y := ⟨_, rfl⟩
        have hy' : y = x % (most + 1) := by rw [← hy, Int.tmod_eq_emod_of_nonneg x0']
        have y0 := Int.emod_nonneg x (show most + 1 ≠ 0 by omega)
        have y1 := Int.emod_lt_of_pos x (show 0 < most + 1 by omega)
        rw [← hy'] at y0 y1
        have wm : IntKind.i64.wrap (most.tdiv 2) = most / 2 := by
          rw [Int.tdiv_eq_ediv_of_nonneg (by omega)]; exact wrap_om (by omega) (by omega)
        unfold num nm2 nm1 at hr hh
        rw [← hX7] at hr hh
        simp only at hr hh
        rw [← hy'] at hr hh
        have hok : SrOk m a n 800000007 s := hok
        have ok1 := pkN_ok (k := 5) hok
        obtain ⟨q, hq⟩ : ∃ q, pkV m a n 5 s = q := ⟨_, rfl⟩
        obtain ⟨s1, hs1⟩ : ∃ s1, pkN m a n 5 s = s1 := ⟨_, rfl⟩
        rw [hs1] at ok1
        rw [hq, hs1] at hr hh
        have c7 : decide ((7 : Int) < 7) = false := by decide
        have pr1 : SrOk m a n 900000000 s := hok.mono (by omega)
        have pr2 : SrOk m a n 900000000 s1 := ok1.mono (by omega)
        by_cases q0 : q = 0
        · have e0 : decide (q = 0) = true := by simpa using q0
          rw [if_pos q0] at hr hh
          have ok2 := pkN_ok (k := 40) ok1
          have hb40 := pkV_in (m := m) (a := a) (n := n) (k := 40) (x := s1)
          obtain ⟨u, hu⟩ : ∃ u, pkV m a n 40 s1 = u := ⟨_, rfl⟩
          obtain ⟨s2, hs2⟩ : ∃ s2, pkN m a n 40 s1 = s2 := ⟨_, rfl⟩
          rw [hs2] at ok2
          rw [hu] at hb40
          rw [hu, hs2] at hr hh
          simp only at hr hh
          have hu1 := hb40.2 (by omega)
          have wu : u % 18446744073709551616 = u := by omega
          have b1 : decide (0 ≤ u) = true := by simpa using hb40.1
          have b2 : decide (u ≤ 64) = true := by simp only [decide_eq_true_eq]; omega
          have pr3 : SrOk m a n 900000000 s2 := ok2.mono (by omega)
          have z0 : 0 ≤ y / 2 ^ u.toNat := Int.ediv_nonneg y0 (Int.le_of_lt (Int.pow_pos (by omega)))
          have z2 : y / 2 ^ u.toNat ≤ y := Int.ediv_le_self _ y0
          obtain ⟨z, hz⟩ : ∃ z, y / 2 ^ u.toNat = z := ⟨_, rfl⟩
          rw [hz] at hr z0 z2
          have wz : IntKind.i64.wrap (-z) = -z := wrap_om (by omega) (by omega)
          subst hh
          by_cases q2 : pkV m a n 2 s2 = 0
          · have e2 : decide (pkV m a n 2 s2 = 0) = true := by simpa using q2
            rw [if_pos q2] at hr
            subst hr
            simp (config := { maxSteps := 4000000, implicitDefEqProofs := false }) only [WK0, WK1, WK2, WK3, WK4, WK5, WK6, WK7, WK8, WK9, WK10, WK11, WK12, WK13, WK14, WK15, WK16, WK17, WK18, WK19, WK20, WK21, WK22, WK23, WK24, WK25, WK26, WK27, WK28, look_hit, look_miss, List.map_cons, List.map_nil, Nat.add_zero, max_v, min_v, ↓cnd_t, ↓cnd_f, ↓grd_b, ↓grd_u, startEnv, Option.map_some, List.length_nil, List.length_cons, List.nil_append, List.cons_append, List.getElem?_cons_zero, List.getElem?_cons_succ, List.set_cons_zero, List.set_cons_succ, Bool.not_true, Bool.not_false, reduceIte, Nat.reduceEqDiff, Nat.reduceAdd, Nat.reduceLT, blt_lit, beq_lit, Bool.or_true, Bool.true_or, Bool.or_false, Bool.false_or, Bool.and_true, Bool.true_and, Bool.and_self, cond_true, cond_false, List.append_nil, Iv.eta, Option.map_none, idxO_l0, idxO_l1, decide_true, decide_false, reqs_true, Int.zero_sub, wrap_lit, wrapu_lit, Int.reduceLE, Int.reduceLT, Int.reduceAdd, Int.reduceSub, Int.reduceMul, Int.reduceNeg, Int.reduceEq, Option.bind_some, bin_shr_u64, bin_shl_u64, bin_shr_i64, bin_shl_i64, and_m32', Int.reduceToNat, Int.reducePow, Int.reduceMod, Int.reduceDiv, wrap_u64s, true_or, or_true, true_and, and_true, Option.isSome_none, Option.isSome_some, Nat.reduceLeDiff, Nat.reduceMul, Int.toNat_natCast, Int.cast_ofNat_Int, Int.natCast_zero, Int.natCast_one, List.isEmpty_nil, List.isEmpty_cons, List.replicate_zero, List.replicate_succ, T1, T2, T3, T4, T5, T6, T9, T10, T11, T12, T21, T22, T23, T24, T26, T27, T28, T29, T30, T31, T32, T33, T34, T35, T37, T38, T39, T40, T42, T43, T44, T45, T46, T47, T48, T50, T52, T54, T55, T56, T57, T58, T59, T60, T61, T62, T63, T64, T65, T66, T67, T68, T69, T70, T71, T72, T73, T75, T77, T78, T79, T80, T82, T83, T84, T85, T87, T89, T90, T91, T92, T95, T97, T103, T104, T105, T106, T107, T109, T110, M_pick_eq, srOf_C, pkO_some, M_one_eq, oneO_some, l0, l1, l5, l6, c7, hg, List.set_set, bin_rem_c, z1, w1, hy, hq, hs1, e0, hu, hs2, wu, b1, b2, hz, e2, wz]
            repeat' (first | with_reducible refine cnd_split (fun hc => ?_) (fun hc => ?_) | with_reducible refine Reqs.mk ?_ ?_)
            all_goals first | assumption | exact endM_src0
          · have e2 : decide (pkV m a n 2 s2 = 0) = false := by simpa using q2
            rw [if_neg q2] at hr
            subst hr
            simp (config := { maxSteps := 4000000, implicitDefEqProofs := false }) only [WK0, WK1, WK2, WK3, WK4, WK5, WK6, WK7, WK8, WK9, WK10, WK11, WK12, WK13, WK14, WK15, WK16, WK17, WK18, WK19, WK20, WK21, WK22, WK23, WK24, WK25, WK26, WK27, WK28, look_hit, look_miss, List.map_cons, List.map_nil, Nat.add_zero, max_v, min_v, ↓cnd_t, ↓cnd_f, ↓grd_b, ↓grd_u, startEnv, Option.map_some, List.length_nil, List.length_cons, List.nil_append, List.cons_append, List.getElem?_cons_zero, List.getElem?_cons_succ, List.set_cons_zero, List.set_cons_succ, Bool.not_true, Bool.not_false, reduceIte, Nat.reduceEqDiff, Nat.reduceAdd, Nat.reduceLT, blt_lit, beq_lit, Bool.or_true, Bool.true_or, Bool.or_false, Bool.false_or, Bool.and_true, Bool.true_and, Bool.and_self, cond_true, cond_false, List.append_nil, Iv.eta, Option.map_none, idxO_l0, idxO_l1, decide_true, decide_false, reqs_true, Int.zero_sub, wrap_lit, wrapu_lit, Int.reduceLE, Int.reduceLT, Int.reduceAdd, Int.reduceSub, Int.reduceMul, Int.reduceNeg, Int.reduceEq, Option.bind_some, bin_shr_u64, bin_shl_u64, bin_shr_i64, bin_shl_i64, and_m32', Int.reduceToNat, Int.reducePow, Int.reduceMod, Int.reduceDiv, wrap_u64s, true_or, or_true, true_and, and_true, Option.isSome_none, Option.isSome_some, Nat.reduceLeDiff, Nat.reduceMul, Int.toNat_natCast, Int.cast_ofNat_Int, Int.natCast_zero, Int.natCast_one, List.isEmpty_nil, List.isEmpty_cons, List.replicate_zero, List.replicate_succ, T1, T2, T3, T4, T5, T6, T9, T10, T11, T12, T21, T22, T23, T24, T26, T27, T28, T29, T30, T31, T32, T33, T34, T35, T37, T38, T39, T40, T42, T43, T44, T45, T46, T47, T48, T50, T52, T54, T55, T56, T57, T58, T59, T60, T61, T62, T63, T64, T65, T66, T67, T68, T69, T70, T71, T72, T73, T75, T77, T78, T79, T80, T82, T83, T84, T85, T87, T89, T90, T91, T92, T95, T97, T103, T104, T105, T106, T107, T109, T110, M_pick_eq, srOf_C, pkO_some, M_one_eq, oneO_some, l0, l1, l5, l6, c7, hg, List.set_set, bin_rem_c, z1, w1, hy, hq, hs1, e0, hu, hs2, wu, b1, b2, hz, e2, wz]
            repeat' (first | with_reducible refine cnd_split (fun hc => ?_) (fun hc => ?_) | with_reducible refine Reqs.mk ?_ ?_)
            all_goals first | assumption | exact endM_src0
        · have e0 : decide (q = 0) = false := by simpa using q0
          rw [if_neg q0] at hr hh
          by_cases q1 : q = 1
          · have e1 : decide (q = 1) = true := by simpa using q1
            rw [if_pos q1] at hr hh
            have ok2 := pkN_ok (k := 4) ok1
            have hb4 := pkV_in (m := m) (a := a) (n := n) (k := 4) (x := s1)
            obtain ⟨u, hu⟩ : ∃ u, pkV m a n 4 s1 = u := ⟨_, rfl⟩
            obtain ⟨s2, hs2⟩ : ∃ s2, pkN m a n 4 s1 = s2 := ⟨_, rfl⟩
            rw [hs2] at ok2
            rw [hu] at hb4
            rw [hu, hs2] at hr hh
            simp only at hr hh
            have z3 := amV4 (most := most) ⟨hb4.1, hb4.2 (by omega)⟩ m1
            have pr3 : SrOk m a n 900000000 s2 := ok2.mono (by omega)
            obtain ⟨z, hz⟩ : ∃ z, amV [0, 1, most, most / 2] u = z := ⟨_, rfl⟩
            rw [hz] at hr z3
            have wz : IntKind.i64.wrap (-z) = -z := wrap_om (by omega) (by omega)
            have hQ : amQ 4 (some [PC.int .i64 0, PC.int .i64 1, PC.int .i64 most, PC.int .i64 (most / 2)]) = some [0, 1, most, most / 2] := rfl
            have hN := fun x l r => @setAt_new hp i x l r
            subst hh
            by_cases q2 : pkV m a n 2 s2 = 0
            · have e2 : decide (pkV m a n 2 s2 = 0) = true := by simpa using q2
              rw [if_pos q2] at hr
              subst hr
              simp (config := { maxSteps := 4000000, implicitDefEqProofs := false }) only [WK0, WK1, WK2, WK3, WK4, WK5, WK6, WK7, WK8, WK9, WK10, WK11, WK12, WK13, WK14, WK15, WK16, WK17, WK18, WK19, WK20, WK21, WK22, WK23, WK24, WK25, WK26, WK27, WK28, look_hit, look_miss, List.map_cons, List.map_nil, Nat.add_zero, max_v, min_v, ↓cnd_t, ↓cnd_f, ↓grd_b, ↓grd_u, startEnv, Option.map_some, List.length_nil, List.length_cons, List.nil_append, List.cons_append, List.getElem?_cons_zero, List.getElem?_cons_succ, List.set_cons_zero, List.set_cons_succ, Bool.not_true, Bool.not_false, reduceIte, Nat.reduceEqDiff, Nat.reduceAdd, Nat.reduceLT, blt_lit, beq_lit, Bool.or_true, Bool.true_or, Bool.or_false, Bool.false_or, Bool.and_true, Bool.true_and, Bool.and_self, cond_true, cond_false, List.append_nil, Iv.eta, Option.map_none, idxO_l0, idxO_l1, decide_true, decide_false, reqs_true, Int.zero_sub, wrap_lit, wrapu_lit, Int.reduceLE, Int.reduceLT, Int.reduceAdd, Int.reduceSub, Int.reduceMul, Int.reduceNeg, Int.reduceEq, Option.bind_some, bin_shr_u64, bin_shl_u64, bin_shr_i64, bin_shl_i64, and_m32', Int.reduceToNat, Int.reducePow, Int.reduceMod, Int.reduceDiv, wrap_u64s, true_or, or_true, true_and, and_true, Option.isSome_none, Option.isSome_some, Nat.reduceLeDiff, Nat.reduceMul, Int.toNat_natCast, Int.cast_ofNat_Int, Int.natCast_zero, Int.natCast_one, List.isEmpty_nil, List.isEmpty_cons, List.replicate_zero, List.replicate_succ, T1, T2, T3, T4, T5, T6, T9, T10, T11, T12, T21, T22, T23, T24, T26, T27, T28, T29, T30, T31, T32, T33, T34, T35, T37, T38, T39, T40, T42, T43, T44, T45, T46, T47, T48, T50, T52, T54, T55, T56, T57, T58, T59, T60, T61, T62, T63, T64, T65, T66, T67, T68, T69, T70, T71, T72, T73, T75, T77, T78, T79, T80, T82, T83, T84, T85, T87, T89, T90, T91, T92, T95, T97, T103, T104, T105, T106, T107, T109, T110, M_pick_eq, srOf_C, pkO_some, M_one_eq, oneO_some, M_among_eq, amO_some, hQ, hN, hgA, hsA, bin_quo_c, List.length_set, wm, l0, l1, l5, l6, c7, hg, List.set_set, bin_rem_c, z1, w1, hy, hq, hs1, e0, e1, hu, hs2, hz, e2, wz]
              repeat' (first | with_reducible refine cnd_split (fun hc => ?_) (fun hc => ?_) | with_reducible refine Reqs.mk ?_ ?_)
              all_goals first | assumption | exact endM_src | exact ⟨pr2, by simp, by simp⟩
            · have e2 : decide (pkV m a n 2 s2 = 0) = false := by simpa using q2
              rw [if_neg q2] at hr
              subst hr
              simp (config := { maxSteps := 4000000, implicitDefEqProofs := false }) only [WK0, WK1, WK2, WK3, WK4, WK5, WK6, WK7, WK8, WK9, WK10, WK11, WK12, WK13, WK14, WK15, WK16, WK17, WK18, WK19, WK20, WK21, WK22, WK23, WK24, WK25, WK26, WK27, WK28, look_hit, look_miss, List.map_cons, List.map_nil, Nat.add_zero, max_v, min_v, ↓cnd_t, ↓cnd_f, ↓grd_b, ↓grd_u, startEnv, Option.map_some, List.length_nil, List.length_cons, List.nil_append, List.cons_append, List.getElem?_cons_zero, List.getElem?_cons_succ, List.set_cons_zero, List.set_cons_succ, Bool.not_true, Bool.not_false, reduceIte, Nat.reduceEqDiff, Nat.reduceAdd, Nat.reduceLT, blt_lit, beq_lit, Bool.or_true, Bool.true_or, Bool.or_false, Bool.false_or, Bool.and_true, Bool.true_and, Bool.and_self, cond_true, cond_false, List.append_nil, Iv.eta, Option.map_none, idxO_l0, idxO_l1, decide_true, decide_false, reqs_true, Int.zero_sub, wrap_lit, wrapu_lit, Int.reduceLE, Int.reduceLT, Int.reduceAdd, Int.reduceSub, Int.reduceMul, Int.reduceNeg, Int.reduceEq, Option.bind_some, bin_shr_u64, bin_shl_u64, bin_shr_i64, bin_shl_i64, and_m32', Int.reduceToNat, Int.reducePow, Int.reduceMod, Int.reduceDiv, wrap_u64s, true_or, or_true, true_and, and_true, Option.isSome_none, Option.isSome_some, Nat.reduceLeDiff, Nat.reduceMul, Int.toNat_natCast, Int.cast_ofNat_Int, Int.natCast_zero, Int.natCast_one, List.isEmpty_nil, List.isEmpty_cons, List.replicate_zero, List.replicate_succ, T1, T2, T3, T4, T5, T6, T9, T10, T11, T12, T21, T22, T23, T24, T26, T27, T28, T29, T30, T31, T32, T33, T34, T35, T37, T38, T39, T40, T42, T43, T44, T45, T46, T47, T48, T50, T52, T54, T55, T56, T57, T58, T59, T60, T61, T62, T63, T64, T65, T66, T67, T68, T69, T70, T71, T72, T73, T75, T77, T78, T79, T80, T82, T83, T84, T85, T87, T89, T90, T91, T92, T95, T97, T103, T104, T105, T106, T107, T109, T110, M_pick_eq, srOf_C, pkO_some, M_one_eq, oneO_some, M_among_eq, amO_some, hQ, hN, hgA, hsA, bin_quo_c, List.length_set, wm, l0, l1, l5, l6, c7, hg, List.set_set, bin_rem_c, z1, w1, hy, hq, hs1, e0, e1, hu, hs2, hz, e2, wz]
              repeat' (first | with_reducible refine cnd_split (fun hc => ?_) (fun hc => ?_) | with_reducible refine Reqs.mk ?_ ?_)
              all_goals first | assumption | exact endM_src | exact ⟨pr2, by simp, by simp⟩
          · have e1 : decide (q = 1) = false := by simpa using q1
            rw [if_neg q1] at hr hh
            simp only at hr hh
            have wz : IntKind.i64.wrap (-y) = -y := wrap_om (by omega) (by omega)
            subst hh
            by_cases q2 : pkV m a n 2 s1 = 0
            · have e2 : decide (pkV m a n 2 s1 = 0) = true := by simpa using q2
              rw [if_pos q2] at hr
              subst hr
              simp (config := { maxSteps := 4000000, implicitDefEqProofs := false }) only [WK0, WK1, WK2, WK3, WK4, WK5, WK6, WK7, WK8, WK9, WK10, WK11, WK12, WK13, WK14, WK15, WK16, WK17, WK18, WK19, WK20, WK21, WK22, WK23, WK24, WK25, WK26, WK27, WK28, look_hit, look_miss, List.map_cons, List.map_nil, Nat.add_zero, max_v, min_v, ↓cnd_t, ↓cnd_f, ↓grd_b, ↓grd_u, startEnv, Option.map_some, List.length_nil, List.length_cons, List.nil_append, List.cons_append, List.getElem?_cons_zero, List.getElem?_cons_succ, List.set_cons_zero, List.set_cons_succ, Bool.not_true, Bool.not_false, reduceIte, Nat.reduceEqDiff, Nat.reduceAdd, Nat.reduceLT, blt_lit, beq_lit, Bool.or_true, Bool.true_or, Bool.or_false, Bool.false_or, Bool.and_true, Bool.true_and, Bool.and_self, cond_true, cond_false, List.append_nil, Iv.eta, Option.map_none, idxO_l0, idxO_l1, decide_true, decide_false, reqs_true, Int.zero_sub, wrap_lit, wrapu_lit, Int.reduceLE, Int.reduceLT, Int.reduceAdd, Int.reduceSub, Int.reduceMul, Int.reduceNeg, Int.reduceEq, Option.bind_some, bin_shr_u64, bin_shl_u64, bin_shr_i64, bin_shl_i64, and_m32', Int.reduceToNat, Int.reducePow, Int.reduceMod, Int.reduceDiv, wrap_u64s, true_or, or_true, true_and, and_true, Option.isSome_none, Option.isSome_some, Nat.reduceLeDiff, Nat.reduceMul, Int.toNat_natCast, Int.cast_ofNat_Int, Int.natCast_zero, Int.natCast_one, List.isEmpty_nil, List.isEmpty_cons, List.replicate_zero, List.replicate_succ, T1, T2, T3, T4, T5, T6, T9, T10, T11, T12, T21, T22, T23, T24, T26, T27, T28, T29, T30, T31, T32, T33, T34, T35, T37, T38, T39, T40, T42, T43, T44, T45, T46, T47, T48, T50, T52, T54, T55, T56, T57, T58, T59, T60, T61, T62, T63, T64, T65, T66, T67, T68, T69, T70, T71, T72, T73, T75, T77, T78, T79, T80, T82, T83, T84, T85, T87, T89, T90, T91, T92, T95, T97, T103, T104, T105, T106, T107, T109, T110, M_pick_eq, srOf_C, pkO_some, M_one_eq, oneO_some, l0, l1, l5, l6, c7, hg, List.set_set, bin_rem_c, z1, w1, hy, hq, hs1, e0, e1, e2, wz]
              repeat' (first | with_reducible refine cnd_split (fun hc => ?_) (fun hc => ?_) | with_reducible refine Reqs.mk ?_ ?_)
              all_goals first | assumption | exact endM_src0
            · have e2 : decide (pkV m a n 2 s1 = 0) = false := by simpa using q2
              rw [if_neg q2] at hr
              subst hr
              simp (config := { maxSteps := 4000000, implicitDefEqProofs := false }) only [WK0, WK1, WK2, WK3, WK4, WK5, WK6, WK7, WK8, WK9, WK10, WK11, WK12, WK13, WK14, WK15, WK16, WK17, WK18, WK19, WK20, WK21, WK22, WK23, WK24, WK25, WK26, WK27, WK28, look_hit, look_miss, List.map_cons, List.map_nil, Nat.add_zero, max_v, min_v, ↓cnd_t, ↓cnd_f, ↓grd_b, ↓grd_u, startEnv, Option.map_some, List.length_nil, List.length_cons, List.nil_append, List.cons_append, List.getElem?_cons_zero, List.getElem?_cons_succ, List.set_cons_zero, List.set_cons_succ, Bool.not_true, Bool.not_false, reduceIte, Nat.reduceEqDiff, Nat.reduceAdd, Nat.reduceLT, blt_lit, beq_lit, Bool.or_true, Bool.true_or, Bool.or_false, Bool.false_or, Bool.and_true, Bool.true_and, Bool.and_self, cond_true, cond_false, List.append_nil, Iv.eta, Option.map_none, idxO_l0, idxO_l1, decide_true, decide_false, reqs_true, Int.zero_sub, wrap_lit, wrapu_lit, Int.reduceLE, Int.reduceLT, Int.reduceAdd, Int.reduceSub, Int.reduceMul, Int.reduceNeg, Int.reduceEq, Option.bind_some, bin_shr_u64, bin_shl_u64, bin_shr_i64, bin_shl_i64, and_m32', Int.reduceToNat, Int.reducePow, Int.reduceMod, Int.reduceDiv, wrap_u64s, true_or, or_true, true_and, and_true, Option.isSome_none, Option.isSome_some, Nat.reduceLeDiff, Nat.reduceMul, Int.toNat_natCast, Int.cast_ofNat_Int, Int.natCast_zero, Int.natCast_one, List.isEmpty_nil, List.isEmpty_cons, List.replicate_zero, List.replicate_succ, T1, T2, T3, T4, T5, T6, T9, T10, T11, T12, T21, T22, T23, T24, T26, T27, T28, T29, T30, T31, T32, T33, T34, T35, T37, T38, T39, T40, T42, T43, T44, T45, T46, T47, T48, T50, T52, T54, T55, T56, T57, T58, T59, T60, T61, T62, T63, T64, T65, T66, T67, T68, T69, T70, T71, T72, T73, T75, T77, T78, T79, T80, T82, T83, T84, T85, T87, T89, T90, T91, T92, T95, T97, T103, T104, T105, T106, T107, T109, T110, M_pick_eq, srOf_C, pkO_some, M_one_eq, oneO_some, l0, l1, l5, l6, c7, hg, List.set_set, bin_rem_c, z1, w1, hy, hq, hs1, e0, e1, e2, wz]
              repeat' (first | with_reducible refine cnd_split (fun hc => ?_) (fun hc => ?_) | with_reducible refine Reqs.mk ?_ ?_)
              all_goals first | assumption | exact endM_src0
      | succ k =>
        obtain ⟨K, hK⟩ : ∃ K : Int, 7 - ((k + 1 : Nat) : Int) = K := ⟨_, rfl⟩
        rw [hK] at l6
        have c7 : decide (K < 7) = true := by simp only [decide_eq_true_eq]; omega
        have w6 : IntKind.i64.wrap (K + 1) = K + 1 := wrap_om (by omega) (by omega)
        have hK1 : K + 1 = 7 - (k : Int) := by omega
        have pr1 : SrOk m a n 1000000000 s := hok.mono (by omega)
        have hv := srV_in (x := s) pr1.1 pr1.2.2.1
        have hx := xr_in (x := x) (v := srV m a n s) (k := 7 - (k + 1)) (by omega) x0' x1 hv.1 hv.2
        have e : 7 - (k + 1) + 1 = 7 - k := by omega
        rw [e] at hx
        have hb : (2 : Int) ^ (8 * (7 - (k + 1))) ≤ 2 ^ 48 := by
          have : (2 : Nat) ^ (8 * (7 - (k + 1))) ≤ 2 ^ 48 := Nat.pow_le_pow_right (by omega) (by omega)
          exact_mod_cast this
        have c48 : (2 : Int) ^ 48 = 281474976710656 := by decide
        rw [c48] at hb
        have ws : IntKind.i64.wrap (x * 256) = x * 256 := wrap_om (by omega) (by omega)
        rw [nmX] at hX7
        simp (config := { maxSteps := 4000000, implicitDefEqProofs := false }) only [WK0, WK1, WK2, WK3, WK4, WK5, WK6, WK7, WK8, WK9, WK10, WK11, WK12, WK13, WK14, WK15, WK16, WK17, WK18, WK19, WK20, WK21, WK22, WK23, WK24, WK25, WK26, WK27, WK28, look_hit, look_miss, List.map_cons, List.map_nil, Nat.add_zero, max_v, min_v, ↓cnd_t, ↓cnd_f, ↓grd_b, ↓grd_u, startEnv, Option.map_some, List.length_nil, List.length_cons, List.nil_append, List.cons_append, List.getElem?_cons_zero, List.getElem?_cons_succ, List.set_cons_zero, List.set_cons_succ, Bool.not_true, Bool.not_false, reduceIte, Nat.reduceEqDiff, Nat.reduceAdd, Nat.reduceLT, blt_lit, beq_lit, Bool.or_true, Bool.true_or, Bool.or_false, Bool.false_or, Bool.and_true, Bool.true_and, Bool.and_self, cond_true, cond_false, List.append_nil, Iv.eta, Option.map_none, idxO_l0, idxO_l1, decide_true, decide_false, reqs_true, Int.zero_sub, wrap_lit, wrapu_lit, Int.reduceLE, Int.reduceLT, Int.reduceAdd, Int.reduceSub, Int.reduceMul, Int.reduceNeg, Int.reduceEq, Option.bind_some, bin_shr_u64, bin_shl_u64, bin_shr_i64, bin_shl_i64, and_m32', Int.reduceToNat, Int.reducePow, Int.reduceMod, Int.reduceDiv, wrap_u64s, true_or, or_true, true_and, and_true, Option.isSome_none, Option.isSome_some, Nat.reduceLeDiff, Nat.reduceMul, Int.toNat_natCast, Int.cast_ofNat_Int, Int.natCast_zero, Int.natCast_one, List.isEmpty_nil, List.isEmpty_cons, List.replicate_zero, List.replicate_succ, T1, T2, T3, T4, T5, T6, T9, T10, T11, T12, T21, T22, T23, T24, T26, T27, T28, T29, T30, T31, T32, T33, T34, T35, T37, T38, T39, T40, T42, T43, T44, T45, T46, T47, T48, T50, T52, T54, T55, T56, T57, T58, T59, T60, T61, T62, T63, T64, T65, T66, T67, T68, T69, T70, T71, T72, T73, T75, T77, T78, T79, T80, T82, T83, T84, T85, T87, T89, T90, T91, T92, T95, T97, T103, T104, T105, T106, T107, T109, T110, M_next_eq, srOf_C, nxO_some, l0, l1, l5, l6, c7, hg, List.set_set, ws, w6]
        repeat' (first | with_reducible refine cnd_split (fun hc => ?_) (fun hc => ?_) | with_reducible refine Reqs.mk ?_ ?_)
        all_goals first | assumption | skip
        refine hX (k, xr x (srV m a n s), srN m a n s) _ _ (Nat.lt_succ_self _) ⟨rfl, ?_, ?_, ?_, ?_, by simp only; omega, hx.1, hx.2, (srN_ok hok).mono (by simp only; omega), hX7⟩
        · simp [look, l0]
        · simp [look, l1]
        · rfl
        · rw [← hK1]; rfl
  · cases hM

-- def e8fix
theorem concat_set {h : Heap} {x y : List PC} : (h ++ [x]).set h.length y = h ++ [y] := by
  rw [List.set_append_right _ _ (Nat.le_refl _)]; simp
theorem concat_get {h : Heap} {x : List PC} : (h ++ [x])[h.length]? = some x := by simp
theorem endM_val {hp l : Heap} {a : PC} : endM hp.length (.v (.c (.p a))) hp (hp ++ l) (some [.c (.p a)]) :=
  endM_same rfl trivial rfl rfl (by simp) (by simp)
theorem endM_agg {hp l : Heap} {a : List PC} : endM hp.length (.v (.agg a)) hp (hp ++ l) (some [.agg a]) :=
  endM_same rfl trivial rfl rfl (by simp) (by simp)
theorem sr0_ok {m : Addr → Option PC} {a : Option Addr} {n : Nat} {b : Int} (h : Told m a n) (hn : n ≤ 1048576) (hb : 0 ≤ b) : SrOk m a n b ⟨0, 0⟩ := ⟨h, hn, Int.le_refl _, hb, by unfold inU; simp only; omega⟩
def e8fix (m : Addr → Option PC) (a : Option Addr) (n : Nat) (most : Int) : Int := (num m a n most ⟨0, 0⟩).1
theorem e8fix_in {m : Addr → Option PC} {a : Option Addr} {n : Nat} {most : Int} (h : Told m a n) (hn : n ≤ 1048576) (hm : 1 ≤ most) : -most ≤ e8fix m a n most ∧ e8fix m a n most ≤ most := by
  have := num_in hm (sr0_ok (b := 0) h hn (by omega))
  exact ⟨this.1, this.2.1⟩
def M_e8fix : MT := fun m args h => match args with
  | [.c (.p (.sl a n c)), .c (.p (.int .i64 most))] => some (Told m a n ∧ n ≤ 1048576 ∧ 1 ≤ most ∧ most ≤ 1152921504606846976, .v (.c (.p (.int .i64 (e8fix m a n most)))), h)
  | _ => none
theorem M_e8fix_eq {m : Addr → Option PC} {h : Heap} {a : Option Addr} {n c : Nat} {most : Int} : M_e8fix m [.c (.p (.sl a n c)), .c (.p (.int .i64 most))] h = some (Told m a n ∧ n ≤ 1048576 ∧ 1 ≤ most ∧ most ≤ 1152921504606846976, .v (.c (.p (.int .i64 (e8fix m a n most)))), h) := rfl
def M_d8Long : MT := fun m args h => match args with
  | [.c (.p (.sl a n c)), .c (.p (.sl a' n' c'))] => some (True, .v (.c (.p (.bool (decide (1048576 < (n : Int)) || decide (1048576 < (n' : Int)))))), h)
  | _ => none
theorem M_d8Long_eq {m : Addr → Option PC} {h : Heap} {a a' : Option Addr} {n c n' c' : Nat} : M_d8Long m [.c (.p (.sl a n c)), .c (.p (.sl a' n' c'))] h = some (True, .v (.c (.p (.bool (decide (1048576 < (n : Int)) || decide (1048576 < (n' : Int)))))), h) := rfl

-- laws.d8Long
theorem laws_d8Long_d8Long_ok : Mn Tryz.prog 38 M_d8Long := by
  refine mn_of_go (O := orc []) mixed T_ok (orc_sound _) Tryz.func38 (by kernel_rfl) rfl Tryz.ntmps38 (by kernel_rfl) Tryz.results38 ?_
  intro m args hp pre r h' hM hpre
  unfold M_d8Long at hM
  split at hM
  · rename_i a n c a' n' c'
    simp only [Option.some.injEq, Prod.mk.injEq] at hM
    obtain ⟨rfl, hr, hh⟩ := hM
    subst hr hh
    refine ⟨by simp, ?_⟩
    by_cases c1 : (1048576 : Int) < (n : Int)
    · have e1 : decide ((1048576 : Int) < (n : Int)) = true := by simpa using c1
      simp (config := { maxSteps := 4000000, implicitDefEqProofs := false }) only [WK0, WK1, WK2, WK3, WK4, WK5, WK6, WK7, WK8, WK9, WK10, WK11, WK12, WK13, WK14, WK15, WK16, WK17, WK18, WK19, WK20, WK21, WK22, WK23, WK24, WK25, WK26, WK27, WK28, look_hit, look_miss, List.map_cons, List.map_nil, Nat.add_zero, max_v, min_v, ↓cnd_t, ↓cnd_f, ↓grd_b, ↓grd_u, startEnv, Option.map_some, List.length_nil, List.length_cons, List.nil_append, List.cons_append, List.getElem?_cons_zero, List.getElem?_cons_succ, List.set_cons_zero, List.set_cons_succ, Bool.not_true, Bool.not_false, reduceIte, Nat.reduceEqDiff, Nat.reduceAdd, Nat.reduceLT, blt_lit, beq_lit, Bool.or_true, Bool.true_or, Bool.or_false, Bool.false_or, Bool.and_true, Bool.true_and, Bool.and_self, cond_true, cond_false, List.append_nil, Iv.eta, Option.map_none, idxO_l0, idxO_l1, decide_true, decide_false, reqs_true, Int.zero_sub, wrap_lit, wrapu_lit, Int.reduceLE, Int.reduceLT, Int.reduceAdd, Int.reduceSub, Int.reduceMul, Int.reduceNeg, Int.reduceEq, Option.bind_some, bin_shr_u64, bin_shl_u64, bin_shr_i64, bin_shl_i64, and_m32', Int.reduceToNat, Int.reducePow, Int.reduceMod, Int.reduceDiv, wrap_u64s, true_or, or_true, true_and, and_true, Option.isSome_none, Option.isSome_some, Nat.reduceLeDiff, Nat.reduceMul, Int.toNat_natCast, Int.cast_ofNat_Int, Int.natCast_zero, Int.natCast_one, List.isEmpty_nil, List.isEmpty_cons, List.replicate_zero, List.replicate_succ, T1, T2, T3, T4, T5, T6, T9, T10, T11, T12, T21, T22, T23, T24, T26, T27, T28, T29, T30, T31, T32, T33, T34, T35, T37, T38, T39, T40, T42, T43, T44, T45, T46, T47, T48, T50, T52, T54, T55, T56, T57, T58, T59, T60, T61, T62, T63, T64, T65, T66, T67, T68, T69, T70, T71, T72, T73, T75, T77, T78, T79, T80, T82, T83, T84, T85, T87, T89, T90, T91, T92, T95, T97, T103, T104, T105, T106, T107, T109, T110, e1]
      exact endM_same rfl trivial rfl rfl (Nat.le_refl _) List.take_length
    · have e1 : decide ((1048576 : Int) < (n : Int)) = false := by simpa using c1
      simp (config := { maxSteps := 4000000, implicitDefEqProofs := false }) only [WK0, WK1, WK2, WK3, WK4, WK5, WK6, WK7, WK8, WK9, WK10, WK11, WK12, WK13, WK14, WK15, WK16, WK17, WK18, WK19, WK20, WK21, WK22, WK23, WK24, WK25, WK26, WK27, WK28, look_hit, look_miss, List.map_cons, List.map_nil, Nat.add_zero, max_v, min_v, ↓cnd_t, ↓cnd_f, ↓grd_b, ↓grd_u, startEnv, Option.map_some, List.length_nil, List.length_cons, List.nil_append, List.cons_append, List.getElem?_cons_zero, List.getElem?_cons_succ, List.set_cons_zero, List.set_cons_succ, Bool.not_true, Bool.not_false, reduceIte, Nat.reduceEqDiff, Nat.reduceAdd, Nat.reduceLT, blt_lit, beq_lit, Bool.or_true, Bool.true_or, Bool.or_false, Bool.false_or, Bool.and_true, Bool.true_and, Bool.and_self, cond_true, cond_false, List.append_nil, Iv.eta, Option.map_none, idxO_l0, idxO_l1, decide_true, decide_false, reqs_true, Int.zero_sub, wrap_lit, wrapu_lit, Int.reduceLE, Int.reduceLT, Int.reduceAdd, Int.reduceSub, Int.reduceMul, Int.reduceNeg, Int.reduceEq, Option.bind_some, bin_shr_u64, bin_shl_u64, bin_shr_i64, bin_shl_i64, and_m32', Int.reduceToNat, Int.reducePow, Int.reduceMod, Int.reduceDiv, wrap_u64s, true_or, or_true, true_and, and_true, Option.isSome_none, Option.isSome_some, Nat.reduceLeDiff, Nat.reduceMul, Int.toNat_natCast, Int.cast_ofNat_Int, Int.natCast_zero, Int.natCast_one, List.isEmpty_nil, List.isEmpty_cons, List.replicate_zero, List.replicate_succ, T1, T2, T3, T4, T5, T6, T9, T10, T11, T12, T21, T22, T23, T24, T26, T27, T28, T29, T30, T31, T32, T33, T34, T35, T37, T38, T39, T40, T42, T43, T44, T45, T46, T47, T48, T50, T52, T54, T55, T56, T57, T58, T59, T60, T61, T62, T63, T64, T65, T66, T67, T68, T69, T70, T71, T72, T73, T75, T77, T78, T79, T80, T82, T83, T84, T85, T87, T89, T90, T91, T92, T95, T97, T103, T104, T105, T106, T107, T109, T110, e1]
      exact endM_same rfl trivial rfl rfl (Nat.le_refl _) List.take_length
  · cases hM

-- spec.E8Fix
theorem spec_E8Fix_e8fix_ok : Mn Tryz.prog 39 M_e8fix := by
  refine mn_of_go (O := orcM [] [⟨54, M_from, false, no_one, spec_l00From_from_ok⟩, ⟨55, M_number, true, fun _ => one_number, spec_l05Number_number_ok⟩]) mixed T_ok (orcM_sound _ _) Tryz.func39 (by kernel_rfl) rfl Tryz.ntmps39 (by kernel_rfl) Tryz.results39 ?_
  intro m args hp pre r h' hM hpre
  unfold M_e8fix at hM
  split at hM
  · rename_i a n c most
    simp only [Option.some.injEq, Prod.mk.injEq] at hM
    obtain ⟨rfl, hr, hh⟩ := hM
    subst hr hh
    obtain ⟨k1, k2, k3, k4⟩ := hpre
    refine ⟨by simp, ?_⟩
    simp (config := { maxSteps := 4000000, implicitDefEqProofs := false }) only [WK0, WK1, WK2, WK3, WK4, WK5, WK6, WK7, WK8, WK9, WK10, WK11, WK12, WK13, WK14, WK15, WK16, WK17, WK18, WK19, WK20, WK21, WK22, WK23, WK24, WK25, WK26, WK27, WK28, look_hit, look_miss, List.map_cons, List.map_nil, Nat.add_zero, max_v, min_v, ↓cnd_t, ↓cnd_f, ↓grd_b, ↓grd_u, startEnv, Option.map_some, List.length_nil, List.length_cons, List.nil_append, List.cons_append, List.getElem?_cons_zero, List.getElem?_cons_succ, List.set_cons_zero, List.set_cons_succ, Bool.not_true, Bool.not_false, reduceIte, Nat.reduceEqDiff, Nat.reduceAdd, Nat.reduceLT, blt_lit, beq_lit, Bool.or_true, Bool.true_or, Bool.or_false, Bool.false_or, Bool.and_true, Bool.true_and, Bool.and_self, cond_true, cond_false, List.append_nil, Iv.eta, Option.map_none, idxO_l0, idxO_l1, decide_true, decide_false, reqs_true, Int.zero_sub, wrap_lit, wrapu_lit, Int.reduceLE, Int.reduceLT, Int.reduceAdd, Int.reduceSub, Int.reduceMul, Int.reduceNeg, Int.reduceEq, Option.bind_some, bin_shr_u64, bin_shl_u64, bin_shr_i64, bin_shl_i64, and_m32', Int.reduceToNat, Int.reducePow, Int.reduceMod, Int.reduceDiv, wrap_u64s, true_or, or_true, true_and, and_true, Option.isSome_none, Option.isSome_some, Nat.reduceLeDiff, Nat.reduceMul, Int.toNat_natCast, Int.cast_ofNat_Int, Int.natCast_zero, Int.natCast_one, List.isEmpty_nil, List.isEmpty_cons, List.replicate_zero, List.replicate_succ, T1, T2, T3, T4, T5, T6, T9, T10, T11, T12, T21, T22, T23, T24, T26, T27, T28, T29, T30, T31, T32, T33, T34, T35, T37, T38, T39, T40, T42, T43, T44, T45, T46, T47, T48, T50, T52, T54, T55, T56, T57, T58, T59, T60, T61, T62, T63, T64, T65, T66, T67, T68, T69, T70, T71, T72, T73, T75, T77, T78, T79, T80, T82, T83, T84, T85, T87, T89, T90, T91, T92, T95, T97, T103, T104, T105, T106, T107, T109, T110, M_from_eq, M_number_eq, srOf_C, numO_some, concat_set, concat_get]
    repeat' (first | with_reducible refine cnd_split (fun hc => ?_) (fun hc => ?_) | with_reducible refine Reqs.mk ?_ ?_)
    all_goals first | trivial | exact endM_val | exact ⟨sr0_ok k1 k2 (by omega), k3, k4⟩
  · cases hM

end Go.Proofs.YtcnapkdccjibpaaGreat.Eng
