/- What functions of the program compute, and that the program computes it: part 24. -/
import Derived.Test.YtcnapkdccjibpaaGreatDoorTab
import Derived.Test.YtcnapkdccjibpaaGreatDoorEng16
import Derived.Laws.BitsLemmas
import Derived.Laws.Bits64
import Derived.Laws.Bits64b
import Derived.Lib.Mul64
import Derived.Lib.BitFns
import Derived.Laws.Externs
import Derived.Test.YtcnapkdccjibpaaGreatDoorL1
import Derived.Test.YtcnapkdccjibpaaGreatDoorL2
import Derived.Test.YtcnapkdccjibpaaGreatDoorL21
import Derived.Test.YtcnapkdccjibpaaGreatDoorL22
import Derived.Test.YtcnapkdccjibpaaGreatDoorL23
namespace Go.Proofs.YtcnapkdccjibpaaGreatDoor.Eng
open Go Go.RowKit
set_option linter.unusedVariables false
set_option linter.unusedSimpArgs false
set_option maxRecDepth 100000
set_option maxHeartbeats 1000000
-- spec.A2Intervals
theorem spec_A2Intervals_a2_ok : Mn Tryz.prog 9 M_a2 := by
  refine mn_of_go (O := orcM [⟨35, F_okI, .inl spec_l04Ok_okI_ok⟩, ⟨46, F_min2, .inl spec_l00Min_min2_ok⟩] [⟨42, M_from, false, no_one, spec_l00From_from_ok⟩, ⟨43, M_draw4, true, fun _ => one_draw4, spec_l04Draw_draw4_ok⟩, ⟨44, M_small, true, fun _ => one_small, spec_l04Small_small_ok⟩, ⟨45, M_pick, true, fun _ => one_pick, __spec_l00Src__pick_pick_ok⟩]) mixed T_ok (orcM_sound _ _) Tryz.func9 (by kernel_rfl) rfl Tryz.ntmps9 (by kernel_rfl) Tryz.results9 ?_
  intro m args hp pre r h' hM hpre
  unfold M_a2 at hM
  split at hM
  · rename_i a n c
    simp only [Option.some.injEq, Prod.mk.injEq] at hM
    obtain ⟨rfl, hr, hh⟩ := hM
    subst hr hh
    obtain ⟨k1, k2⟩ := hpre
    refine ⟨by simp, ?_⟩
    simp (config := { maxSteps := 4000000, implicitDefEqProofs := false }) only [F_min2_eq, F_okI_eq, WK0, WK1, WK2, WK3, WK4, WK5, WK6, WK7, WK8, WK9, WK10, WK11, WK12, WK13, WK14, WK15, WK16, WK17, WK18, WK19, WK20, WK21, WK22, WK23, WK24, WK25, WK26, WK27, WK28, WK29, WK30, look_hit, look_miss, List.map_cons, List.map_nil, Nat.add_zero, max_v, min_v, ↓cnd_t, ↓cnd_f, ↓grd_b, ↓grd_u, startEnv, Option.map_some, List.length_nil, List.length_cons, List.nil_append, List.cons_append, List.getElem?_cons_zero, List.getElem?_cons_succ, List.set_cons_zero, List.set_cons_succ, Bool.not_true, Bool.not_false, reduceIte, Nat.reduceEqDiff, Nat.reduceAdd, Nat.reduceLT, blt_lit, beq_lit, Bool.or_true, Bool.true_or, Bool.or_false, Bool.false_or, Bool.and_true, Bool.true_and, Bool.and_self, cond_true, cond_false, List.append_nil, Iv.eta, Option.map_none, idxO_l0, idxO_l1, decide_true, decide_false, reqs_true, Int.zero_sub, wrap_lit, wrapu_lit, Int.reduceLE, Int.reduceLT, Int.reduceAdd, Int.reduceSub, Int.reduceMul, Int.reduceNeg, Int.reduceEq, Option.bind_some, bin_shr_u64, bin_shl_u64, bin_shr_i64, bin_shl_i64, and_m32', Int.reduceToNat, Int.reducePow, Int.reduceMod, Int.reduceDiv, wrap_u64s, true_or, or_true, true_and, and_true, Option.isSome_none, Option.isSome_some, Nat.reduceLeDiff, Nat.reduceMul, Int.toNat_natCast, Int.cast_ofNat_Int, Int.natCast_zero, Int.natCast_one, List.isEmpty_nil, List.isEmpty_cons, List.replicate_zero, List.replicate_succ, T1, T2, T3, T4, T5, T6, T9, T10, T11, T12, T21, T22, T23, T25, T26, T27, T28, T29, T30, T32, T33, T34, T35, T36, T37, T38, T39, T40, T41, T42, T43, T44, T46, T48, T50, T52, T53, T54, T55, T56, T57, T58, T59, T61, T62, T63, T64, T65, T66, T67, T68, T69, T70, T71, T72, T73, T74, T75, T76, T77, T78, T79, T80, T81, T82, T83, T84, T85, T87, T89, T91, T92, T93, T95, T96, T97, T98, T102, T103, T105, T107, T108, T109, T110, T112, T116, T120, T121, T122, T123, T124, T125, T126, T128, T130, T131, T132, T134, T135, T136, T137, T138, T140, T142, T143, T145, T146, T148, T149, T150, T152, T153, T154, T155, T156, T163, T164, T165, T166, T167, M_from_eq]
    repeat' (first | with_reducible refine cnd_split (fun hc => ?_) (fun hc => ?_) | with_reducible refine Reqs.mk ?_ ?_)
    all_goals first | trivial | skip
    refine go_loop (α := Nat) (fun s => 3 - s) (fun s e h => s ≤ 3 ∧ look e 4 = some (.v (.c (.ptr (.own 0 0)))) ∧ look e 7 = some (.v (.c (.p (.int .i64 (s : Int))))) ∧ a2I m a n c s e h) 0 ⟨by omega, rfl, rfl, rfl, rfl, rfl⟩ ?_
    rintro X k e h ⟨hk, l4, l7, hI⟩ hX
    obtain rfl | rfl | rfl | rfl : k = 0 ∨ k = 1 ∨ k = 2 ∨ k = 3 := by omega
    · obtain ⟨rfl, l5, l6⟩ := hI
      obtain ⟨s0, hs0⟩ : ∃ s0 : Sr, ⟨0, 0⟩ = s0 := ⟨_, rfl⟩
      have htr : tri m a n s0 = t1 m a n := by rw [← hs0]; rfl
      have ok0 : SrOk m a n 0 s0 := by rw [← hs0]; exact sr0_ok k1 k2 (by omega)
      simp only [hs0]
      have q1 := triA_in ok0
      have g1 := goodI_iff.1 q1.1
      have g2 := okI_iff.1 g1.1
      have pA : SrOk m a n 700000000 s0 := ok0.mono (by omega)
      have okD := d04_ok ok0
      have pB : SrOk m a n 700000000 (d04 m a n s0).2 := okD.mono (by omega)
      have hA : triA m a n s0 = if goodI (d04 m a n s0).1 then d04 m a n s0 else sm4 m a n 50 (d04 m a n s0).2 := rfl
      unfold tri triP at htr
      obtain ⟨A, hAA⟩ : ∃ A, (triA m a n s0).1 = A := ⟨_, rfl⟩
      obtain ⟨s1, hs1⟩ : ∃ s1, (triA m a n s0).2 = s1 := ⟨_, rfl⟩
      rw [hAA, hs1] at q1 htr
      rw [hAA] at g1 g2
      have f1 := triF_in (m := m) (a := a) (n := n) (s := s1) g2.2.1
      obtain ⟨fr, hfr⟩ : ∃ fr, triF m a n A s1 = fr := ⟨_, rfl⟩
      rw [hfr] at f1 htr
      obtain ⟨s2, hs2⟩ : ∃ s2, pkN m a n (min (A.hi - A.lo) 60000 + 1) s1 = s2 := ⟨_, rfl⟩
      rw [hs2] at htr
      have f2 := triT_in (m := m) (a := a) (n := n) (A := A) (s := s2) f1.2
      obtain ⟨to, hto⟩ : ∃ to, triT m a n A fr s2 = to := ⟨_, rfl⟩
      rw [hto] at f2 htr
      obtain ⟨s3, hs3⟩ : ∃ s3, pkN m a n (min (A.hi - fr) 60000 + 1) s2 = s3 := ⟨_, rfl⟩
      rw [hs3] at htr
      have ok2 := pkN_ok (k := min (A.hi - A.lo) 60000 + 1) q1.2
      rw [hs2] at ok2
      have pC : SrOk m a n 900000000 s1 := q1.2.mono (by omega)
      have pD : SrOk m a n 900000000 s2 := ok2.mono (by omega)
      have hfr' : A.lo + pkV m a n (min (A.hi - A.lo) 60000 + 1) s1 = fr := hfr
      have hto' : fr + pkV m a n (min (A.hi - fr) 60000 + 1) s2 = to := hto
      have w1 : IntKind.i64.wrap (A.hi - A.lo) = A.hi - A.lo := wrap_om (by omega) (by omega)
      have w2 : IntKind.i64.wrap (min (A.hi - A.lo) 60000 + 1) = min (A.hi - A.lo) 60000 + 1 := wrap_om (by omega) (by omega)
      have w3 : IntKind.i64.wrap fr = fr := wrap_om (by omega) (by omega)
      have w4 : IntKind.i64.wrap (A.hi - fr) = A.hi - fr := wrap_om (by omega) (by omega)
      have w5 : IntKind.i64.wrap (min (A.hi - fr) 60000 + 1) = min (A.hi - fr) 60000 + 1 := wrap_om (by omega) (by omega)
      have w6 : IntKind.i64.wrap to = to := wrap_om (by omega) (by omega)
      have w7 : IntKind.i64.wrap (((0 : Nat) : Int) + 1) = ((1 : Nat) : Int) := by decide
      have c7 : decide (((0 : Nat) : Int) < 3) = true := by decide
      have r1 : (t1 m a n).1 = A := by rw [← htr]
      have r2 : (t1 m a n).2.1 = ⟨fr, to⟩ := by rw [← htr]
      have r3 : (t1 m a n).2.2 = s3 := by rw [← htr]
      by_cases hg : goodI (d04 m a n s0).1 = true
      · rw [if_pos hg] at hA
        rw [hA] at hAA hs1
        rw [hAA] at hg
        obtain ⟨o1, o2, o3⟩ := goodI_iff.1 hg
        have e1 : decide (A.lo < -288230376151711744) = false := by simp only [decide_eq_false_iff_not]; omega
        have e2 : decide (288230376151711744 < A.hi) = false := by simp only [decide_eq_false_iff_not]; omega
        simp (config := { maxSteps := 4000000, implicitDefEqProofs := false }) only [F_min2_eq, F_okI_eq, WK0, WK1, WK2, WK3, WK4, WK5, WK6, WK7, WK8, WK9, WK10, WK11, WK12, WK13, WK14, WK15, WK16, WK17, WK18, WK19, WK20, WK21, WK22, WK23, WK24, WK25, WK26, WK27, WK28, WK29, WK30, look_hit, look_miss, List.map_cons, List.map_nil, Nat.add_zero, max_v, min_v, ↓cnd_t, ↓cnd_f, ↓grd_b, ↓grd_u, startEnv, Option.map_some, List.length_nil, List.length_cons, List.nil_append, List.cons_append, List.getElem?_cons_zero, List.getElem?_cons_succ, List.set_cons_zero, List.set_cons_succ, Bool.not_true, Bool.not_false, reduceIte, Nat.reduceEqDiff, Nat.reduceAdd, Nat.reduceLT, blt_lit, beq_lit, Bool.or_true, Bool.true_or, Bool.or_false, Bool.false_or, Bool.and_true, Bool.true_and, Bool.and_self, cond_true, cond_false, List.append_nil, Iv.eta, Option.map_none, idxO_l0, idxO_l1, decide_true, decide_false, reqs_true, Int.zero_sub, wrap_lit, wrapu_lit, Int.reduceLE, Int.reduceLT, Int.reduceAdd, Int.reduceSub, Int.reduceMul, Int.reduceNeg, Int.reduceEq, Option.bind_some, bin_shr_u64, bin_shl_u64, bin_shr_i64, bin_shl_i64, and_m32', Int.reduceToNat, Int.reducePow, Int.reduceMod, Int.reduceDiv, wrap_u64s, true_or, or_true, true_and, and_true, Option.isSome_none, Option.isSome_some, Nat.reduceLeDiff, Nat.reduceMul, Int.toNat_natCast, Int.cast_ofNat_Int, Int.natCast_zero, Int.natCast_one, List.isEmpty_nil, List.isEmpty_cons, List.replicate_zero, List.replicate_succ, T1, T2, T3, T4, T5, T6, T9, T10, T11, T12, T21, T22, T23, T25, T26, T27, T28, T29, T30, T32, T33, T34, T35, T36, T37, T38, T39, T40, T41, T42, T43, T44, T46, T48, T50, T52, T53, T54, T55, T56, T57, T58, T59, T61, T62, T63, T64, T65, T66, T67, T68, T69, T70, T71, T72, T73, T74, T75, T76, T77, T78, T79, T80, T81, T82, T83, T84, T85, T87, T89, T91, T92, T93, T95, T96, T97, T98, T102, T103, T105, T107, T108, T109, T110, T112, T116, T120, T121, T122, T123, T124, T125, T126, T128, T130, T131, T132, T134, T135, T136, T137, T138, T140, T142, T143, T145, T146, T148, T149, T150, T152, T153, T154, T155, T156, T163, T164, T165, T166, T167, M_draw4_eq, d04O_some, M_small_eq, sm4O_some, M_pick_eq, pkO_some, srOf_C, l4, l5, l6, l7, c7, c2, c4, c6, w1, w2, w4, w5, w7, hfr', hto', w3, w6, hs2, hs3, a2_app0, a2_app1, hAA, hs1, o1, e1, e2]
        repeat' (first | with_reducible refine cnd_split (fun hc => ?_) (fun hc => ?_) | with_reducible refine Reqs.mk ?_ ?_)
        all_goals first | assumption | (refine ⟨pB, by omega, by omega⟩) | skip
        refine hX 1 _ _ (by decide) ⟨by omega, ?_, ?_, ?_, ?_, ?_⟩
        · simp [look, l4]
        · rfl
        · refine ⟨c2 A, c2 A, c2 ⟨fr, to⟩, ?_⟩
          rw [r1, r2, r3] <;> rfl
        · rfl
        · rfl
      · rw [if_neg hg] at hA
        rw [hA] at hAA hs1
        obtain ⟨D, hD⟩ : ∃ D, (d04 m a n s0).1 = D := ⟨_, rfl⟩
        rw [hD] at hg
        rw [goodI_iff] at hg
        cases o1 : okI D with
        | false =>
          simp (config := { maxSteps := 4000000, implicitDefEqProofs := false }) only [F_min2_eq, F_okI_eq, WK0, WK1, WK2, WK3, WK4, WK5, WK6, WK7, WK8, WK9, WK10, WK11, WK12, WK13, WK14, WK15, WK16, WK17, WK18, WK19, WK20, WK21, WK22, WK23, WK24, WK25, WK26, WK27, WK28, WK29, WK30, look_hit, look_miss, List.map_cons, List.map_nil, Nat.add_zero, max_v, min_v, ↓cnd_t, ↓cnd_f, ↓grd_b, ↓grd_u, startEnv, Option.map_some, List.length_nil, List.length_cons, List.nil_append, List.cons_append, List.getElem?_cons_zero, List.getElem?_cons_succ, List.set_cons_zero, List.set_cons_succ, Bool.not_true, Bool.not_false, reduceIte, Nat.reduceEqDiff, Nat.reduceAdd, Nat.reduceLT, blt_lit, beq_lit, Bool.or_true, Bool.true_or, Bool.or_false, Bool.false_or, Bool.and_true, Bool.true_and, Bool.and_self, cond_true, cond_false, List.append_nil, Iv.eta, Option.map_none, idxO_l0, idxO_l1, decide_true, decide_false, reqs_true, Int.zero_sub, wrap_lit, wrapu_lit, Int.reduceLE, Int.reduceLT, Int.reduceAdd, Int.reduceSub, Int.reduceMul, Int.reduceNeg, Int.reduceEq, Option.bind_some, bin_shr_u64, bin_shl_u64, bin_shr_i64, bin_shl_i64, and_m32', Int.reduceToNat, Int.reducePow, Int.reduceMod, Int.reduceDiv, wrap_u64s, true_or, or_true, true_and, and_true, Option.isSome_none, Option.isSome_some, Nat.reduceLeDiff, Nat.reduceMul, Int.toNat_natCast, Int.cast_ofNat_Int, Int.natCast_zero, Int.natCast_one, List.isEmpty_nil, List.isEmpty_cons, List.replicate_zero, List.replicate_succ, T1, T2, T3, T4, T5, T6, T9, T10, T11, T12, T21, T22, T23, T25, T26, T27, T28, T29, T30, T32, T33, T34, T35, T36, T37, T38, T39, T40, T41, T42, T43, T44, T46, T48, T50, T52, T53, T54, T55, T56, T57, T58, T59, T61, T62, T63, T64, T65, T66, T67, T68, T69, T70, T71, T72, T73, T74, T75, T76, T77, T78, T79, T80, T81, T82, T83, T84, T85, T87, T89, T91, T92, T93, T95, T96, T97, T98, T102, T103, T105, T107, T108, T109, T110, T112, T116, T120, T121, T122, T123, T124, T125, T126, T128, T130, T131, T132, T134, T135, T136, T137, T138, T140, T142, T143, T145, T146, T148, T149, T150, T152, T153, T154, T155, T156, T163, T164, T165, T166, T167, M_draw4_eq, d04O_some, M_small_eq, sm4O_some, M_pick_eq, pkO_some, srOf_C, l4, l5, l6, l7, c7, c2, c4, c6, w1, w2, w4, w5, w7, hfr', hto', w3, w6, hs2, hs3, a2_app0, a2_app1, hAA, hs1, hD, o1]
          repeat' (first | with_reducible refine cnd_split (fun hc => ?_) (fun hc => ?_) | with_reducible refine Reqs.mk ?_ ?_)
          all_goals first | assumption | (refine ⟨pB, by omega, by omega⟩) | skip
          refine hX 1 _ _ (by decide) ⟨by omega, ?_, ?_, ?_, ?_, ?_⟩
          · simp [look, l4]
          · rfl
          · refine ⟨c2 A, c2 A, c2 ⟨fr, to⟩, ?_⟩
            rw [r1, r2, r3] <;> rfl
          · rfl
          · rfl
        | true =>
          by_cases b1 : D.lo < -288230376151711744
          · have e1 : decide (D.lo < -288230376151711744) = true := by simpa using b1
            simp (config := { maxSteps := 4000000, implicitDefEqProofs := false }) only [F_min2_eq, F_okI_eq, WK0, WK1, WK2, WK3, WK4, WK5, WK6, WK7, WK8, WK9, WK10, WK11, WK12, WK13, WK14, WK15, WK16, WK17, WK18, WK19, WK20, WK21, WK22, WK23, WK24, WK25, WK26, WK27, WK28, WK29, WK30, look_hit, look_miss, List.map_cons, List.map_nil, Nat.add_zero, max_v, min_v, ↓cnd_t, ↓cnd_f, ↓grd_b, ↓grd_u, startEnv, Option.map_some, List.length_nil, List.length_cons, List.nil_append, List.cons_append, List.getElem?_cons_zero, List.getElem?_cons_succ, List.set_cons_zero, List.set_cons_succ, Bool.not_true, Bool.not_false, reduceIte, Nat.reduceEqDiff, Nat.reduceAdd, Nat.reduceLT, blt_lit, beq_lit, Bool.or_true, Bool.true_or, Bool.or_false, Bool.false_or, Bool.and_true, Bool.true_and, Bool.and_self, cond_true, cond_false, List.append_nil, Iv.eta, Option.map_none, idxO_l0, idxO_l1, decide_true, decide_false, reqs_true, Int.zero_sub, wrap_lit, wrapu_lit, Int.reduceLE, Int.reduceLT, Int.reduceAdd, Int.reduceSub, Int.reduceMul, Int.reduceNeg, Int.reduceEq, Option.bind_some, bin_shr_u64, bin_shl_u64, bin_shr_i64, bin_shl_i64, and_m32', Int.reduceToNat, Int.reducePow, Int.reduceMod, Int.reduceDiv, wrap_u64s, true_or, or_true, true_and, and_true, Option.isSome_none, Option.isSome_some, Nat.reduceLeDiff, Nat.reduceMul, Int.toNat_natCast, Int.cast_ofNat_Int, Int.natCast_zero, Int.natCast_one, List.isEmpty_nil, List.isEmpty_cons, List.replicate_zero, List.replicate_succ, T1, T2, T3, T4, T5, T6, T9, T10, T11, T12, T21, T22, T23, T25, T26, T27, T28, T29, T30, T32, T33, T34, T35, T36, T37, T38, T39, T40, T41, T42, T43, T44, T46, T48, T50, T52, T53, T54, T55, T56, T57, T58, T59, T61, T62, T63, T64, T65, T66, T67, T68, T69, T70, T71, T72, T73, T74, T75, T76, T77, T78, T79, T80, T81, T82, T83, T84, T85, T87, T89, T91, T92, T93, T95, T96, T97, T98, T102, T103, T105, T107, T108, T109, T110, T112, T116, T120, T121, T122, T123, T124, T125, T126, T128, T130, T131, T132, T134, T135, T136, T137, T138, T140, T142, T143, T145, T146, T148, T149, T150, T152, T153, T154, T155, T156, T163, T164, T165, T166, T167, M_draw4_eq, d04O_some, M_small_eq, sm4O_some, M_pick_eq, pkO_some, srOf_C, l4, l5, l6, l7, c7, c2, c4, c6, w1, w2, w4, w5, w7, hfr', hto', w3, w6, hs2, hs3, a2_app0, a2_app1, hAA, hs1, hD, o1, e1]
            repeat' (first | with_reducible refine cnd_split (fun hc => ?_) (fun hc => ?_) | with_reducible refine Reqs.mk ?_ ?_)
            all_goals first | assumption | (refine ⟨pB, by omega, by omega⟩) | skip
            refine hX 1 _ _ (by decide) ⟨by omega, ?_, ?_, ?_, ?_, ?_⟩
            · simp [look, l4]
            · rfl
            · refine ⟨c2 A, c2 A, c2 ⟨fr, to⟩, ?_⟩
              rw [r1, r2, r3] <;> rfl
            · rfl
            · rfl
          · have e1 : decide (D.lo < -288230376151711744) = false := by simpa using b1
            have e2 : decide (288230376151711744 < D.hi) = true := by
              simp only [decide_eq_true_eq]
              apply Int.lt_of_not_ge
              intro h
              exact hg ⟨o1, by omega, by omega⟩
            simp (config := { maxSteps := 4000000, implicitDefEqProofs := false }) only [F_min2_eq, F_okI_eq, WK0, WK1, WK2, WK3, WK4, WK5, WK6, WK7, WK8, WK9, WK10, WK11, WK12, WK13, WK14, WK15, WK16, WK17, WK18, WK19, WK20, WK21, WK22, WK23, WK24, WK25, WK26, WK27, WK28, WK29, WK30, look_hit, look_miss, List.map_cons, List.map_nil, Nat.add_zero, max_v, min_v, ↓cnd_t, ↓cnd_f, ↓grd_b, ↓grd_u, startEnv, Option.map_some, List.length_nil, List.length_cons, List.nil_append, List.cons_append, List.getElem?_cons_zero, List.getElem?_cons_succ, List.set_cons_zero, List.set_cons_succ, Bool.not_true, Bool.not_false, reduceIte, Nat.reduceEqDiff, Nat.reduceAdd, Nat.reduceLT, blt_lit, beq_lit, Bool.or_true, Bool.true_or, Bool.or_false, Bool.false_or, Bool.and_true, Bool.true_and, Bool.and_self, cond_true, cond_false, List.append_nil, Iv.eta, Option.map_none, idxO_l0, idxO_l1, decide_true, decide_false, reqs_true, Int.zero_sub, wrap_lit, wrapu_lit, Int.reduceLE, Int.reduceLT, Int.reduceAdd, Int.reduceSub, Int.reduceMul, Int.reduceNeg, Int.reduceEq, Option.bind_some, bin_shr_u64, bin_shl_u64, bin_shr_i64, bin_shl_i64, and_m32', Int.reduceToNat, Int.reducePow, Int.reduceMod, Int.reduceDiv, wrap_u64s, true_or, or_true, true_and, and_true, Option.isSome_none, Option.isSome_some, Nat.reduceLeDiff, Nat.reduceMul, Int.toNat_natCast, Int.cast_ofNat_Int, Int.natCast_zero, Int.natCast_one, List.isEmpty_nil, List.isEmpty_cons, List.replicate_zero, List.replicate_succ, T1, T2, T3, T4, T5, T6, T9, T10, T11, T12, T21, T22, T23, T25, T26, T27, T28, T29, T30, T32, T33, T34, T35, T36, T37, T38, T39, T40, T41, T42, T43, T44, T46, T48, T50, T52, T53, T54, T55, T56, T57, T58, T59, T61, T62, T63, T64, T65, T66, T67, T68, T69, T70, T71, T72, T73, T74, T75, T76, T77, T78, T79, T80, T81, T82, T83, T84, T85, T87, T89, T91, T92, T93, T95, T96, T97, T98, T102, T103, T105, T107, T108, T109, T110, T112, T116, T120, T121, T122, T123, T124, T125, T126, T128, T130, T131, T132, T134, T135, T136, T137, T138, T140, T142, T143, T145, T146, T148, T149, T150, T152, T153, T154, T155, T156, T163, T164, T165, T166, T167, M_draw4_eq, d04O_some, M_small_eq, sm4O_some, M_pick_eq, pkO_some, srOf_C, l4, l5, l6, l7, c7, c2, c4, c6, w1, w2, w4, w5, w7, hfr', hto', w3, w6, hs2, hs3, a2_app0, a2_app1, hAA, hs1, hD, o1, e1, e2]
            repeat' (first | with_reducible refine cnd_split (fun hc => ?_) (fun hc => ?_) | with_reducible refine Reqs.mk ?_ ?_)
            all_goals first | assumption | (refine ⟨pB, by omega, by omega⟩) | skip
            refine hX 1 _ _ (by decide) ⟨by omega, ?_, ?_, ?_, ?_, ?_⟩
            · simp [look, l4]
            · rfl
            · refine ⟨c2 A, c2 A, c2 ⟨fr, to⟩, ?_⟩
              rw [r1, r2, r3] <;> rfl
            · rfl
            · rfl
    · obtain ⟨⟨A0, Q0, U0, rfl⟩, l5, l6⟩ := hI
      obtain ⟨s0, hs0⟩ : ∃ s0 : Sr, (t1 m a n).2.2 = s0 := ⟨_, rfl⟩
      have htr : tri m a n s0 = t2 m a n := by rw [← hs0]; rfl
      have ok0 : SrOk m a n 1000 s0 := by rw [← hs0]; exact (tri_in (sr0_ok (b := 0) k1 k2 (by omega))).2.2.mono (by omega)
      simp only [hs0]
      have q1 := triA_in ok0
      have g1 := goodI_iff.1 q1.1
      have g2 := okI_iff.1 g1.1
      have pA : SrOk m a n 700000000 s0 := ok0.mono (by omega)
      have okD := d04_ok ok0
      have pB : SrOk m a n 700000000 (d04 m a n s0).2 := okD.mono (by omega)
      have hA : triA m a n s0 = if goodI (d04 m a n s0).1 then d04 m a n s0 else sm4 m a n 50 (d04 m a n s0).2 := rfl
      unfold tri triP at htr
      obtain ⟨A, hAA⟩ : ∃ A, (triA m a n s0).1 = A := ⟨_, rfl⟩
      obtain ⟨s1, hs1⟩ : ∃ s1, (triA m a n s0).2 = s1 := ⟨_, rfl⟩
      rw [hAA, hs1] at q1 htr
      rw [hAA] at g1 g2
      have f1 := triF_in (m := m) (a := a) (n := n) (s := s1) g2.2.1
      obtain ⟨fr, hfr⟩ : ∃ fr, triF m a n A s1 = fr := ⟨_, rfl⟩
      rw [hfr] at f1 htr
      obtain ⟨s2, hs2⟩ : ∃ s2, pkN m a n (min (A.hi - A.lo) 60000 + 1) s1 = s2 := ⟨_, rfl⟩
      rw [hs2] at htr
      have f2 := triT_in (m := m) (a := a) (n := n) (A := A) (s := s2) f1.2
      obtain ⟨to, hto⟩ : ∃ to, triT m a n A fr s2 = to := ⟨_, rfl⟩
      rw [hto] at f2 htr
      obtain ⟨s3, hs3⟩ : ∃ s3, pkN m a n (min (A.hi - fr) 60000 + 1) s2 = s3 := ⟨_, rfl⟩
      rw [hs3] at htr
      have ok2 := pkN_ok (k := min (A.hi - A.lo) 60000 + 1) q1.2
      rw [hs2] at ok2
      have pC : SrOk m a n 900000000 s1 := q1.2.mono (by omega)
      have pD : SrOk m a n 900000000 s2 := ok2.mono (by omega)
      have hfr' : A.lo + pkV m a n (min (A.hi - A.lo) 60000 + 1) s1 = fr := hfr
      have hto' : fr + pkV m a n (min (A.hi - fr) 60000 + 1) s2 = to := hto
      have w1 : IntKind.i64.wrap (A.hi - A.lo) = A.hi - A.lo := wrap_om (by omega) (by omega)
      have w2 : IntKind.i64.wrap (min (A.hi - A.lo) 60000 + 1) = min (A.hi - A.lo) 60000 + 1 := wrap_om (by omega) (by omega)
      have w3 : IntKind.i64.wrap fr = fr := wrap_om (by omega) (by omega)
      have w4 : IntKind.i64.wrap (A.hi - fr) = A.hi - fr := wrap_om (by omega) (by omega)
      have w5 : IntKind.i64.wrap (min (A.hi - fr) 60000 + 1) = min (A.hi - fr) 60000 + 1 := wrap_om (by omega) (by omega)
      have w6 : IntKind.i64.wrap to = to := wrap_om (by omega) (by omega)
      have w7 : IntKind.i64.wrap (((1 : Nat) : Int) + 1) = ((2 : Nat) : Int) := by decide
      have c7 : decide (((1 : Nat) : Int) < 3) = true := by decide
      have r1 : (t2 m a n).1 = A := by rw [← htr]
      have r2 : (t2 m a n).2.1 = ⟨fr, to⟩ := by rw [← htr]
      have r3 : (t2 m a n).2.2 = s3 := by rw [← htr]
      by_cases hg : goodI (d04 m a n s0).1 = true
      · rw [if_pos hg] at hA
        rw [hA] at hAA hs1
        rw [hAA] at hg
        obtain ⟨o1, o2, o3⟩ := goodI_iff.1 hg
        have e1 : decide (A.lo < -288230376151711744) = false := by simp only [decide_eq_false_iff_not]; omega
        have e2 : decide (288230376151711744 < A.hi) = false := by simp only [decide_eq_false_iff_not]; omega
        simp (config := { maxSteps := 4000000, implicitDefEqProofs := false }) only [F_min2_eq, F_okI_eq, WK0, WK1, WK2, WK3, WK4, WK5, WK6, WK7, WK8, WK9, WK10, WK11, WK12, WK13, WK14, WK15, WK16, WK17, WK18, WK19, WK20, WK21, WK22, WK23, WK24, WK25, WK26, WK27, WK28, WK29, WK30, look_hit, look_miss, List.map_cons, List.map_nil, Nat.add_zero, max_v, min_v, ↓cnd_t, ↓cnd_f, ↓grd_b, ↓grd_u, startEnv, Option.map_some, List.length_nil, List.length_cons, List.nil_append, List.cons_append, List.getElem?_cons_zero, List.getElem?_cons_succ, List.set_cons_zero, List.set_cons_succ, Bool.not_true, Bool.not_false, reduceIte, Nat.reduceEqDiff, Nat.reduceAdd, Nat.reduceLT, blt_lit, beq_lit, Bool.or_true, Bool.true_or, Bool.or_false, Bool.false_or, Bool.and_true, Bool.true_and, Bool.and_self, cond_true, cond_false, List.append_nil, Iv.eta, Option.map_none, idxO_l0, idxO_l1, decide_true, decide_false, reqs_true, Int.zero_sub, wrap_lit, wrapu_lit, Int.reduceLE, Int.reduceLT, Int.reduceAdd, Int.reduceSub, Int.reduceMul, Int.reduceNeg, Int.reduceEq, Option.bind_some, bin_shr_u64, bin_shl_u64, bin_shr_i64, bin_shl_i64, and_m32', Int.reduceToNat, Int.reducePow, Int.reduceMod, Int.reduceDiv, wrap_u64s, true_or, or_true, true_and, and_true, Option.isSome_none, Option.isSome_some, Nat.reduceLeDiff, Nat.reduceMul, Int.toNat_natCast, Int.cast_ofNat_Int, Int.natCast_zero, Int.natCast_one, List.isEmpty_nil, List.isEmpty_cons, List.replicate_zero, List.replicate_succ, T1, T2, T3, T4, T5, T6, T9, T10, T11, T12, T21, T22, T23, T25, T26, T27, T28, T29, T30, T32, T33, T34, T35, T36, T37, T38, T39, T40, T41, T42, T43, T44, T46, T48, T50, T52, T53, T54, T55, T56, T57, T58, T59, T61, T62, T63, T64, T65, T66, T67, T68, T69, T70, T71, T72, T73, T74, T75, T76, T77, T78, T79, T80, T81, T82, T83, T84, T85, T87, T89, T91, T92, T93, T95, T96, T97, T98, T102, T103, T105, T107, T108, T109, T110, T112, T116, T120, T121, T122, T123, T124, T125, T126, T128, T130, T131, T132, T134, T135, T136, T137, T138, T140, T142, T143, T145, T146, T148, T149, T150, T152, T153, T154, T155, T156, T163, T164, T165, T166, T167, M_draw4_eq, d04O_some, M_small_eq, sm4O_some, M_pick_eq, pkO_some, srOf_C, l4, l5, l6, l7, c7, c2, c4, c6, w1, w2, w4, w5, w7, hfr', hto', w3, w6, hs2, hs3, a2_app2, a2_app3, hAA, hs1, o1, e1, e2]
        repeat' (first | with_reducible refine cnd_split (fun hc => ?_) (fun hc => ?_) | with_reducible refine Reqs.mk ?_ ?_)
        all_goals first | assumption | (refine ⟨pB, by omega, by omega⟩) | skip
        refine hX 2 _ _ (by decide) ⟨by omega, ?_, ?_, ?_, ?_, ?_⟩
        · simp [look, l4]
        · rfl
        · refine ⟨A0, Q0, U0, c2 A, c2 A, c2 ⟨fr, to⟩, ?_⟩
          rw [r1, r2, r3] <;> rfl
        · rfl
        · rfl
      · rw [if_neg hg] at hA
        rw [hA] at hAA hs1
        obtain ⟨D, hD⟩ : ∃ D, (d04 m a n s0).1 = D := ⟨_, rfl⟩
        rw [hD] at hg
        rw [goodI_iff] at hg
        cases o1 : okI D with
        | false =>
          simp (config := { maxSteps := 4000000, implicitDefEqProofs := false }) only [F_min2_eq, F_okI_eq, WK0, WK1, WK2, WK3, WK4, WK5, WK6, WK7, WK8, WK9, WK10, WK11, WK12, WK13, WK14, WK15, WK16, WK17, WK18, WK19, WK20, WK21, WK22, WK23, WK24, WK25, WK26, WK27, WK28, WK29, WK30, look_hit, look_miss, List.map_cons, List.map_nil, Nat.add_zero, max_v, min_v, ↓cnd_t, ↓cnd_f, ↓grd_b, ↓grd_u, startEnv, Option.map_some, List.length_nil, List.length_cons, List.nil_append, List.cons_append, List.getElem?_cons_zero, List.getElem?_cons_succ, List.set_cons_zero, List.set_cons_succ, Bool.not_true, Bool.not_false, reduceIte, Nat.reduceEqDiff, Nat.reduceAdd, Nat.reduceLT, blt_lit, beq_lit, Bool.or_true, Bool.true_or, Bool.or_false, Bool.false_or, Bool.and_true, Bool.true_and, Bool.and_self, cond_true, cond_false, List.append_nil, Iv.eta, Option.map_none, idxO_l0, idxO_l1, decide_true, decide_false, reqs_true, Int.zero_sub, wrap_lit, wrapu_lit, Int.reduceLE, Int.reduceLT, Int.reduceAdd, Int.reduceSub, Int.reduceMul, Int.reduceNeg, Int.reduceEq, Option.bind_some, bin_shr_u64, bin_shl_u64, bin_shr_i64, bin_shl_i64, and_m32', Int.reduceToNat, Int.reducePow, Int.reduceMod, Int.reduceDiv, wrap_u64s, true_or, or_true, true_and, and_true, Option.isSome_none, Option.isSome_some, Nat.reduceLeDiff, Nat.reduceMul, Int.toNat_natCast, Int.cast_ofNat_Int, Int.natCast_zero, Int.natCast_one, List.isEmpty_nil, List.isEmpty_cons, List.replicate_zero, List.replicate_succ, T1, T2, T3, T4, T5, T6, T9, T10, T11, T12, T21, T22, T23, T25, T26, T27, T28, T29, T30, T32, T33, T34, T35, T36, T37, T38, T39, T40, T41, T42, T43, T44, T46, T48, T50, T52, T53, T54, T55, T56, T57, T58, T59, T61, T62, T63, T64, T65, T66, T67, T68, T69, T70, T71, T72, T73, T74, T75, T76, T77, T78, T79, T80, T81, T82, T83, T84, T85, T87, T89, T91, T92, T93, T95, T96, T97, T98, T102, T103, T105, T107, T108, T109, T110, T112, T116, T120, T121, T122, T123, T124, T125, T126, T128, T130, T131, T132, T134, T135, T136, T137, T138, T140, T142, T143, T145, T146, T148, T149, T150, T152, T153, T154, T155, T156, T163, T164, T165, T166, T167, M_draw4_eq, d04O_some, M_small_eq, sm4O_some, M_pick_eq, pkO_some, srOf_C, l4, l5, l6, l7, c7, c2, c4, c6, w1, w2, w4, w5, w7, hfr', hto', w3, w6, hs2, hs3, a2_app2, a2_app3, hAA, hs1, hD, o1]
          repeat' (first | with_reducible refine cnd_split (fun hc => ?_) (fun hc => ?_) | with_reducible refine Reqs.mk ?_ ?_)
          all_goals first | assumption | (refine ⟨pB, by omega, by omega⟩) | skip
          refine hX 2 _ _ (by decide) ⟨by omega, ?_, ?_, ?_, ?_, ?_⟩
          · simp [look, l4]
          · rfl
          · refine ⟨A0, Q0, U0, c2 A, c2 A, c2 ⟨fr, to⟩, ?_⟩
            rw [r1, r2, r3] <;> rfl
          · rfl
          · rfl
        | true =>
          by_cases b1 : D.lo < -288230376151711744
          · have e1 : decide (D.lo < -288230376151711744) = true := by simpa using b1
            simp (config := { maxSteps := 4000000, implicitDefEqProofs := false }) only [F_min2_eq, F_okI_eq, WK0, WK1, WK2, WK3, WK4, WK5, WK6, WK7, WK8, WK9, WK10, WK11, WK12, WK13, WK14, WK15, WK16, WK17, WK18, WK19, WK20, WK21, WK22, WK23, WK24, WK25, WK26, WK27, WK28, WK29, WK30, look_hit, look_miss, List.map_cons, List.map_nil, Nat.add_zero, max_v, min_v, ↓cnd_t, ↓cnd_f, ↓grd_b, ↓grd_u, startEnv, Option.map_some, List.length_nil, List.length_cons, List.nil_append, List.cons_append, List.getElem?_cons_zero, List.getElem?_cons_succ, List.set_cons_zero, List.set_cons_succ, Bool.not_true, Bool.not_false, reduceIte, Nat.reduceEqDiff, Nat.reduceAdd, Nat.reduceLT, blt_lit, beq_lit, Bool.or_true, Bool.true_or, Bool.or_false, Bool.false_or, Bool.and_true, Bool.true_and, Bool.and_self, cond_true, cond_false, List.append_nil, Iv.eta, Option.map_none, idxO_l0, idxO_l1, decide_true, decide_false, reqs_true, Int.zero_sub, wrap_lit, wrapu_lit, Int.reduceLE, Int.reduceLT, Int.reduceAdd, Int.reduceSub, Int.reduceMul, Int.reduceNeg, Int.reduceEq, Option.bind_some, bin_shr_u64, bin_shl_u64, bin_shr_i64, bin_shl_i64, and_m32', Int.reduceToNat, Int.reducePow, Int.reduceMod, Int.reduceDiv, wrap_u64s, true_or, or_true, true_and, and_true, Option.isSome_none, Option.isSome_some, Nat.reduceLeDiff, Nat.reduceMul, Int.toNat_natCast, Int.cast_ofNat_Int, Int.natCast_zero, Int.natCast_one, List.isEmpty_nil, List.isEmpty_cons, List.replicate_zero, List.replicate_succ, T1, T2, T3, T4, T5, T6, T9, T10, T11, T12, T21, T22, T23, T25, T26, T27, T28, T29, T30, T32, T33, T34, T35, T36, T37, T38, T39, T40, T41, T42, T43, T44, T46, T48, T50, T52, T53, T54, T55, T56, T57, T58, T59, T61, T62, T63, T64, T65, T66, T67, T68, T69, T70, T71, T72, T73, T74, T75, T76, T77, T78, T79, T80, T81, T82, T83, T84, T85, T87, T89, T91, T92, T93, T95, T96, T97, T98, T102, T103, T105, T107, T108, T109, T110, T112, T116, T120, T121, T122, T123, T124, T125, T126, T128, T130, T131, T132, T134, T135, T136, T137, T138, T140, T142, T143, T145, T146, T148, T149, T150, T152, T153, T154, T155, T156, T163, T164, T165, T166, T167, M_draw4_eq, d04O_some, M_small_eq, sm4O_some, M_pick_eq, pkO_some, srOf_C, l4, l5, l6, l7, c7, c2, c4, c6, w1, w2, w4, w5, w7, hfr', hto', w3, w6, hs2, hs3, a2_app2, a2_app3, hAA, hs1, hD, o1, e1]
            repeat' (first | with_reducible refine cnd_split (fun hc => ?_) (fun hc => ?_) | with_reducible refine Reqs.mk ?_ ?_)
            all_goals first | assumption | (refine ⟨pB, by omega, by omega⟩) | skip
            refine hX 2 _ _ (by decide) ⟨by omega, ?_, ?_, ?_, ?_, ?_⟩
            · simp [look, l4]
            · rfl
            · refine ⟨A0, Q0, U0, c2 A, c2 A, c2 ⟨fr, to⟩, ?_⟩
              rw [r1, r2, r3] <;> rfl
            · rfl
            · rfl
          · have e1 : decide (D.lo < -288230376151711744) = false := by simpa using b1
            have e2 : decide (288230376151711744 < D.hi) = true := by
              simp only [decide_eq_true_eq]
              apply Int.lt_of_not_ge
              intro h
              exact hg ⟨o1, by omega, by omega⟩
            simp (config := { maxSteps := 4000000, implicitDefEqProofs := false }) only [F_min2_eq, F_okI_eq, WK0, WK1, WK2, WK3, WK4, WK5, WK6, WK7, WK8, WK9, WK10, WK11, WK12, WK13, WK14, WK15, WK16, WK17, WK18, WK19, WK20, WK21, WK22, WK23, WK24, WK25, WK26, WK27, WK28, WK29, WK30, look_hit, look_miss, List.map_cons, List.map_nil, Nat.add_zero, max_v, min_v, ↓cnd_t, ↓cnd_f, ↓grd_b, ↓grd_u, startEnv, Option.map_some, List.length_nil, List.length_cons, List.nil_append, List.cons_append, List.getElem?_cons_zero, List.getElem?_cons_succ, List.set_cons_zero, List.set_cons_succ, Bool.not_true, Bool.not_false, reduceIte, Nat.reduceEqDiff, Nat.reduceAdd, Nat.reduceLT, blt_lit, beq_lit, Bool.or_true, Bool.true_or, Bool.or_false, Bool.false_or, Bool.and_true, Bool.true_and, Bool.and_self, cond_true, cond_false, List.append_nil, Iv.eta, Option.map_none, idxO_l0, idxO_l1, decide_true, decide_false, reqs_true, Int.zero_sub, wrap_lit, wrapu_lit, Int.reduceLE, Int.reduceLT, Int.reduceAdd, Int.reduceSub, Int.reduceMul, Int.reduceNeg, Int.reduceEq, Option.bind_some, bin_shr_u64, bin_shl_u64, bin_shr_i64, bin_shl_i64, and_m32', Int.reduceToNat, Int.reducePow, Int.reduceMod, Int.reduceDiv, wrap_u64s, true_or, or_true, true_and, and_true, Option.isSome_none, Option.isSome_some, Nat.reduceLeDiff, Nat.reduceMul, Int.toNat_natCast, Int.cast_ofNat_Int, Int.natCast_zero, Int.natCast_one, List.isEmpty_nil, List.isEmpty_cons, List.replicate_zero, List.replicate_succ, T1, T2, T3, T4, T5, T6, T9, T10, T11, T12, T21, T22, T23, T25, T26, T27, T28, T29, T30, T32, T33, T34, T35, T36, T37, T38, T39, T40, T41, T42, T43, T44, T46, T48, T50, T52, T53, T54, T55, T56, T57, T58, T59, T61, T62, T63, T64, T65, T66, T67, T68, T69, T70, T71, T72, T73, T74, T75, T76, T77, T78, T79, T80, T81, T82, T83, T84, T85, T87, T89, T91, T92, T93, T95, T96, T97, T98, T102, T103, T105, T107, T108, T109, T110, T112, T116, T120, T121, T122, T123, T124, T125, T126, T128, T130, T131, T132, T134, T135, T136, T137, T138, T140, T142, T143, T145, T146, T148, T149, T150, T152, T153, T154, T155, T156, T163, T164, T165, T166, T167, M_draw4_eq, d04O_some, M_small_eq, sm4O_some, M_pick_eq, pkO_some, srOf_C, l4, l5, l6, l7, c7, c2, c4, c6, w1, w2, w4, w5, w7, hfr', hto', w3, w6, hs2, hs3, a2_app2, a2_app3, hAA, hs1, hD, o1, e1, e2]
            repeat' (first | with_reducible refine cnd_split (fun hc => ?_) (fun hc => ?_) | with_reducible refine Reqs.mk ?_ ?_)
            all_goals first | assumption | (refine ⟨pB, by omega, by omega⟩) | skip
            refine hX 2 _ _ (by decide) ⟨by omega, ?_, ?_, ?_, ?_, ?_⟩
            · simp [look, l4]
            · rfl
            · refine ⟨A0, Q0, U0, c2 A, c2 A, c2 ⟨fr, to⟩, ?_⟩
              rw [r1, r2, r3] <;> rfl
            · rfl
            · rfl
    · obtain ⟨⟨A0, Q0, U0, A1, Q1, U1, rfl⟩, l5, l6⟩ := hI
      obtain ⟨s0, hs0⟩ : ∃ s0 : Sr, (t2 m a n).2.2 = s0 := ⟨_, rfl⟩
      have htr : tri m a n s0 = t3 m a n := by rw [← hs0]; rfl
      have ok0 : SrOk m a n 2000 s0 := by rw [← hs0]; exact (tri_in (tri_in (sr0_ok (b := 0) k1 k2 (by omega))).2.2).2.2.mono (by omega)
      simp only [hs0]
      have q1 := triA_in ok0
      have g1 := goodI_iff.1 q1.1
      have g2 := okI_iff.1 g1.1
      have pA : SrOk m a n 700000000 s0 := ok0.mono (by omega)
      have okD := d04_ok ok0
      have pB : SrOk m a n 700000000 (d04 m a n s0).2 := okD.mono (by omega)
      have hA : triA m a n s0 = if goodI (d04 m a n s0).1 then d04 m a n s0 else sm4 m a n 50 (d04 m a n s0).2 := rfl
      unfold tri triP at htr
      obtain ⟨A, hAA⟩ : ∃ A, (triA m a n s0).1 = A := ⟨_, rfl⟩
      obtain ⟨s1, hs1⟩ : ∃ s1, (triA m a n s0).2 = s1 := ⟨_, rfl⟩
      rw [hAA, hs1] at q1 htr
      rw [hAA] at g1 g2
      have f1 := triF_in (m := m) (a := a) (n := n) (s := s1) g2.2.1
      obtain ⟨fr, hfr⟩ : ∃ fr, triF m a n A s1 = fr := ⟨_, rfl⟩
      rw [hfr] at f1 htr
      obtain ⟨s2, hs2⟩ : ∃ s2, pkN m a n (min (A.hi - A.lo) 60000 + 1) s1 = s2 := ⟨_, rfl⟩
      rw [hs2] at htr
      have f2 := triT_in (m := m) (a := a) (n := n) (A := A) (s := s2) f1.2
      obtain ⟨to, hto⟩ : ∃ to, triT m a n A fr s2 = to := ⟨_, rfl⟩
      rw [hto] at f2 htr
      obtain ⟨s3, hs3⟩ : ∃ s3, pkN m a n (min (A.hi - fr) 60000 + 1) s2 = s3 := ⟨_, rfl⟩
      rw [hs3] at htr
      have ok2 := pkN_ok (k := min (A.hi - A.lo) 60000 + 1) q1.2
      rw [hs2] at ok2
      have pC : SrOk m a n 900000000 s1 := q1.2.mono (by omega)
      have pD : SrOk m a n 900000000 s2 := ok2.mono (by omega)
      have hfr' : A.lo + pkV m a n (min (A.hi - A.lo) 60000 + 1) s1 = fr := hfr
      have hto' : fr + pkV m a n (min (A.hi - fr) 60000 + 1) s2 = to := hto
      have w1 : IntKind.i64.wrap (A.hi - A.lo) = A.hi - A.lo := wrap_om (by omega) (by omega)
      have w2 : IntKind.i64.wrap (min (A.hi - A.lo) 60000 + 1) = min (A.hi - A.lo) 60000 + 1 := wrap_om (by omega) (by omega)
      have w3 : IntKind.i64.wrap fr = fr := wrap_om (by omega) (by omega)
      have w4 : IntKind.i64.wrap (A.hi - fr) = A.hi - fr := wrap_om (by omega) (by omega)
      have w5 : IntKind.i64.wrap (min (A.hi - fr) 60000 + 1) = min (A.hi - fr) 60000 + 1 := wrap_om (by omega) (by omega)
      have w6 : IntKind.i64.wrap to = to := wrap_om (by omega) (by omega)
      have w7 : IntKind.i64.wrap (((2 : Nat) : Int) + 1) = ((3 : Nat) : Int) := by decide
      have c7 : decide (((2 : Nat) : Int) < 3) = true := by decide
      have r1 : (t3 m a n).1 = A := by rw [← htr]
      have r2 : (t3 m a n).2.1 = ⟨fr, to⟩ := by rw [← htr]
      have r3 : (t3 m a n).2.2 = s3 := by rw [← htr]
      by_cases hg : goodI (d04 m a n s0).1 = true
      · rw [if_pos hg] at hA
        rw [hA] at hAA hs1
        rw [hAA] at hg
        obtain ⟨o1, o2, o3⟩ := goodI_iff.1 hg
        have e1 : decide (A.lo < -288230376151711744) = false := by simp only [decide_eq_false_iff_not]; omega
        have e2 : decide (288230376151711744 < A.hi) = false := by simp only [decide_eq_false_iff_not]; omega
        simp (config := { maxSteps := 4000000, implicitDefEqProofs := false }) only [F_min2_eq, F_okI_eq, WK0, WK1, WK2, WK3, WK4, WK5, WK6, WK7, WK8, WK9, WK10, WK11, WK12, WK13, WK14, WK15, WK16, WK17, WK18, WK19, WK20, WK21, WK22, WK23, WK24, WK25, WK26, WK27, WK28, WK29, WK30, look_hit, look_miss, List.map_cons, List.map_nil, Nat.add_zero, max_v, min_v, ↓cnd_t, ↓cnd_f, ↓grd_b, ↓grd_u, startEnv, Option.map_some, List.length_nil, List.length_cons, List.nil_append, List.cons_append, List.getElem?_cons_zero, List.getElem?_cons_succ, List.set_cons_zero, List.set_cons_succ, Bool.not_true, Bool.not_false, reduceIte, Nat.reduceEqDiff, Nat.reduceAdd, Nat.reduceLT, blt_lit, beq_lit, Bool.or_true, Bool.true_or, Bool.or_false, Bool.false_or, Bool.and_true, Bool.true_and, Bool.and_self, cond_true, cond_false, List.append_nil, Iv.eta, Option.map_none, idxO_l0, idxO_l1, decide_true, decide_false, reqs_true, Int.zero_sub, wrap_lit, wrapu_lit, Int.reduceLE, Int.reduceLT, Int.reduceAdd, Int.reduceSub, Int.reduceMul, Int.reduceNeg, Int.reduceEq, Option.bind_some, bin_shr_u64, bin_shl_u64, bin_shr_i64, bin_shl_i64, and_m32', Int.reduceToNat, Int.reducePow, Int.reduceMod, Int.reduceDiv, wrap_u64s, true_or, or_true, true_and, and_true, Option.isSome_none, Option.isSome_some, Nat.reduceLeDiff, Nat.reduceMul, Int.toNat_natCast, Int.cast_ofNat_Int, Int.natCast_zero, Int.natCast_one, List.isEmpty_nil, List.isEmpty_cons, List.replicate_zero, List.replicate_succ, T1, T2, T3, T4, T5, T6, T9, T10, T11, T12, T21, T22, T23, T25, T26, T27, T28, T29, T30, T32, T33, T34, T35, T36, T37, T38, T39, T40, T41, T42, T43, T44, T46, T48, T50, T52, T53, T54, T55, T56, T57, T58, T59, T61, T62, T63, T64, T65, T66, T67, T68, T69, T70, T71, T72, T73, T74, T75, T76, T77, T78, T79, T80, T81, T82, T83, T84, T85, T87, T89, T91, T92, T93, T95, T96, T97, T98, T102, T103, T105, T107, T108, T109, T110, T112, T116, T120, T121, T122, T123, T124, T125, T126, T128, T130, T131, T132, T134, T135, T136, T137, T138, T140, T142, T143, T145, T146, T148, T149, T150, T152, T153, T154, T155, T156, T163, T164, T165, T166, T167, M_draw4_eq, d04O_some, M_small_eq, sm4O_some, M_pick_eq, pkO_some, srOf_C, l4, l5, l6, l7, c7, c2, c4, c6, w1, w2, w4, w5, w7, hfr', hto', w3, w6, hs2, hs3, a2_app4, a2_app5, hAA, hs1, o1, e1, e2]
        repeat' (first | with_reducible refine cnd_split (fun hc => ?_) (fun hc => ?_) | with_reducible refine Reqs.mk ?_ ?_)
        all_goals first | assumption | (refine ⟨pB, by omega, by omega⟩) | skip
        refine hX 3 _ _ (by decide) ⟨by omega, ?_, ?_, ?_, ?_, ?_⟩
        · simp [look, l4]
        · rfl
        · refine ⟨A0, Q0, U0, A1, Q1, U1, c2 A, c2 A, c2 ⟨fr, to⟩, ?_⟩
          rw [r1, r2, r3] <;> rfl
        · rfl
        · rfl
      · rw [if_neg hg] at hA
        rw [hA] at hAA hs1
        obtain ⟨D, hD⟩ : ∃ D, (d04 m a n s0).1 = D := ⟨_, rfl⟩
        rw [hD] at hg
        rw [goodI_iff] at hg
        cases o1 : okI D with
        | false =>
          simp (config := { maxSteps := 4000000, implicitDefEqProofs := false }) only [F_min2_eq, F_okI_eq, WK0, WK1, WK2, WK3, WK4, WK5, WK6, WK7, WK8, WK9, WK10, WK11, WK12, WK13, WK14, WK15, WK16, WK17, WK18, WK19, WK20, WK21, WK22, WK23, WK24, WK25, WK26, WK27, WK28, WK29, WK30, look_hit, look_miss, List.map_cons, List.map_nil, Nat.add_zero, max_v, min_v, ↓cnd_t, ↓cnd_f, ↓grd_b, ↓grd_u, startEnv, Option.map_some, List.length_nil, List.length_cons, List.nil_append, List.cons_append, List.getElem?_cons_zero, List.getElem?_cons_succ, List.set_cons_zero, List.set_cons_succ, Bool.not_true, Bool.not_false, reduceIte, Nat.reduceEqDiff, Nat.reduceAdd, Nat.reduceLT, blt_lit, beq_lit, Bool.or_true, Bool.true_or, Bool.or_false, Bool.false_or, Bool.and_true, Bool.true_and, Bool.and_self, cond_true, cond_false, List.append_nil, Iv.eta, Option.map_none, idxO_l0, idxO_l1, decide_true, decide_false, reqs_true, Int.zero_sub, wrap_lit, wrapu_lit, Int.reduceLE, Int.reduceLT, Int.reduceAdd, Int.reduceSub, Int.reduceMul, Int.reduceNeg, Int.reduceEq, Option.bind_some, bin_shr_u64, bin_shl_u64, bin_shr_i64, bin_shl_i64, and_m32', Int.reduceToNat, Int.reducePow, Int.reduceMod, Int.reduceDiv, wrap_u64s, true_or, or_true, true_and, and_true, Option.isSome_none, Option.isSome_some, Nat.reduceLeDiff, Nat.reduceMul, Int.toNat_natCast, Int.cast_ofNat_Int, Int.natCast_zero, Int.natCast_one, List.isEmpty_nil, List.isEmpty_cons, List.replicate_zero, List.replicate_succ, T1, T2, T3, T4, T5, T6, T9, T10, T11, T12, T21, T22, T23, T25, T26, T27, T28, T29, T30, T32, T33, T34, T35, T36, T37, T38, T39, T40, T41, T42, T43, T44, T46, T48, T50, T52, T53, T54, T55, T56, T57, T58, T59, T61, T62, T63, T64, T65, T66, T67, T68, T69, T70, T71, T72, T73, T74, T75, T76, T77, T78, T79, T80, T81, T82, T83, T84, T85, T87, T89, T91, T92, T93, T95, T96, T97, T98, T102, T103, T105, T107, T108, T109, T110, T112, T116, T120, T121, T122, T123, T124, T125, T126, T128, T130, T131, T132, T134, T135, T136, T137, T138, T140, T142, T143, T145, T146, T148, T149, T150, T152, T153, T154, T155, T156, T163, T164, T165, T166, T167, M_draw4_eq, d04O_some, M_small_eq, sm4O_some, M_pick_eq, pkO_some, srOf_C, l4, l5, l6, l7, c7, c2, c4, c6, w1, w2, w4, w5, w7, hfr', hto', w3, w6, hs2, hs3, a2_app4, a2_app5, hAA, hs1, hD, o1]
          repeat' (first | with_reducible refine cnd_split (fun hc => ?_) (fun hc => ?_) | with_reducible refine Reqs.mk ?_ ?_)
          all_goals first | assumption | (refine ⟨pB, by omega, by omega⟩) | skip
          refine hX 3 _ _ (by decide) ⟨by omega, ?_, ?_, ?_, ?_, ?_⟩
          · simp [look, l4]
          · rfl
          · refine ⟨A0, Q0, U0, A1, Q1, U1, c2 A, c2 A, c2 ⟨fr, to⟩, ?_⟩
            rw [r1, r2, r3] <;> rfl
          · rfl
          · rfl
        | true =>
          by_cases b1 : D.lo < -288230376151711744
          · have e1 : decide (D.lo < -288230376151711744) = true := by simpa using b1
            simp (config := { maxSteps := 4000000, implicitDefEqProofs := false }) only [F_min2_eq, F_okI_eq, WK0, WK1, WK2, WK3, WK4, WK5, WK6, WK7, WK8, WK9, WK10, WK11, WK12, WK13, WK14, WK15, WK16, WK17, WK18, WK19, WK20, WK21, WK22, WK23, WK24, WK25, WK26, WK27, WK28, WK29, WK30, look_hit, look_miss, List.map_cons, List.map_nil, Nat.add_zero, max_v, min_v, ↓cnd_t, ↓cnd_f, ↓grd_b, ↓grd_u, startEnv, Option.map_some, List.length_nil, List.length_cons, List.nil_append, List.cons_append, List.getElem?_cons_zero, List.getElem?_cons_succ, List.set_cons_zero, List.set_cons_succ, Bool.not_true, Bool.not_false, reduceIte, Nat.reduceEqDiff, Nat.reduceAdd, Nat.reduceLT, blt_lit, beq_lit, Bool.or_true, Bool.true_or, Bool.or_false, Bool.false_or, Bool.and_true, Bool.true_and, Bool.and_self, cond_true, cond_false, List.append_nil, Iv.eta, Option.map_none, idxO_l0, idxO_l1, decide_true, decide_false, reqs_true, Int.zero_sub, wrap_lit, wrapu_lit, Int.reduceLE, Int.reduceLT, Int.reduceAdd, Int.reduceSub, Int.reduceMul, Int.reduceNeg, Int.reduceEq, Option.bind_some, bin_shr_u64, bin_shl_u64, bin_shr_i64, bin_shl_i64, and_m32', Int.reduceToNat, Int.reducePow, Int.reduceMod, Int.reduceDiv, wrap_u64s, true_or, or_true, true_and, and_true, Option.isSome_none, Option.isSome_some, Nat.reduceLeDiff, Nat.reduceMul, Int.toNat_natCast, Int.cast_ofNat_Int, Int.natCast_zero, Int.natCast_one, List.isEmpty_nil, List.isEmpty_cons, List.replicate_zero, List.replicate_succ, T1, T2, T3, T4, T5, T6, T9, T10, T11, T12, T21, T22, T23, T25, T26, T27, T28, T29, T30, T32, T33, T34, T35, T36, T37, T38, T39, T40, T41, T42, T43, T44, T46, T48, T50, T52, T53, T54, T55, T56, T57, T58, T59, T61, T62, T63, T64, T65, T66, T67, T68, T69, T70, T71, T72, T73, T74, T75, T76, T77, T78, T79, T80, T81, T82, T83, T84, T85, T87, T89, T91, T92, T93, T95, T96, T97, T98, T102, T103, T105, T107, T108, T109, T110, T112, T116, T120, T121, T122, T123, T124, T125, T126, T128, T130, T131, T132, T134, T135, T136, T137, T138, T140, T142, T143, T145, T146, T148, T149, T150, T152, T153, T154, T155, T156, T163, T164, T165, T166, T167, M_draw4_eq, d04O_some, M_small_eq, sm4O_some, M_pick_eq, pkO_some, srOf_C, l4, l5, l6, l7, c7, c2, c4, c6, w1, w2, w4, w5, w7, hfr', hto', w3, w6, hs2, hs3, a2_app4, a2_app5, hAA, hs1, hD, o1, e1]
            repeat' (first | with_reducible refine cnd_split (fun hc => ?_) (fun hc => ?_) | with_reducible refine Reqs.mk ?_ ?_)
            all_goals first | assumption | (refine ⟨pB, by omega, by omega⟩) | skip
            refine hX 3 _ _ (by decide) ⟨by omega, ?_, ?_, ?_, ?_, ?_⟩
            · simp [look, l4]
            · rfl
            · refine ⟨A0, Q0, U0, A1, Q1, U1, c2 A, c2 A, c2 ⟨fr, to⟩, ?_⟩
              rw [r1, r2, r3] <;> rfl
            · rfl
            · rfl
          · have e1 : decide (D.lo < -288230376151711744) = false := by simpa using b1
            have e2 : decide (288230376151711744 < D.hi) = true := by
              simp only [decide_eq_true_eq]
              apply Int.lt_of_not_ge
              intro h
              exact hg ⟨o1, by omega, by omega⟩
            simp (config := { maxSteps := 4000000, implicitDefEqProofs := false }) only [F_min2_eq, F_okI_eq, WK0, WK1, WK2, WK3, WK4, WK5, WK6, WK7, WK8, WK9, WK10, WK11, WK12, WK13, WK14, WK15, WK16, WK17, WK18, WK19, WK20, WK21, WK22, WK23, WK24, WK25, WK26, WK27, WK28, WK29, WK30, look_hit, look_miss, List.map_cons, List.map_nil, Nat.add_zero, max_v, min_v, ↓cnd_t, ↓cnd_f, ↓grd_b, ↓grd_u, startEnv, Option.map_some, List.length_nil, List.length_cons, List.nil_append, List.cons_append, List.getElem?_cons_zero, List.getElem?_cons_succ, List.set_cons_zero, List.set_cons_succ, Bool.not_true, Bool.not_false, reduceIte, Nat.reduceEqDiff, Nat.reduceAdd, Nat.reduceLT, blt_lit, beq_lit, Bool.or_true, Bool.true_or, Bool.or_false, Bool.false_or, Bool.and_true, Bool.true_and, Bool.and_self, cond_true, cond_false, List.append_nil, Iv.eta, Option.map_none, idxO_l0, idxO_l1, decide_true, decide_false, reqs_true, Int.zero_sub, wrap_lit, wrapu_lit, Int.reduceLE, Int.reduceLT, Int.reduceAdd, Int.reduceSub, Int.reduceMul, Int.reduceNeg, Int.reduceEq, Option.bind_some, bin_shr_u64, bin_shl_u64, bin_shr_i64, bin_shl_i64, and_m32', Int.reduceToNat, Int.reducePow, Int.reduceMod, Int.reduceDiv, wrap_u64s, true_or, or_true, true_and, and_true, Option.isSome_none, Option.isSome_some, Nat.reduceLeDiff, Nat.reduceMul, Int.toNat_natCast, Int.cast_ofNat_Int, Int.natCast_zero, Int.natCast_one, List.isEmpty_nil, List.isEmpty_cons, List.replicate_zero, List.replicate_succ, T1, T2, T3, T4, T5, T6, T9, T10, T11, T12, T21, T22, T23, T25, T26, T27, T28, T29, T30, T32, T33, T34, T35, T36, T37, T38, T39, T40, T41, T42, T43, T44, T46, T48, T50, T52, T53, T54, T55, T56, T57, T58, T59, T61, T62, T63, T64, T65, T66, T67, T68, T69, T70, T71, T72, T73, T74, T75, T76, T77, T78, T79, T80, T81, T82, T83, T84, T85, T87, T89, T91, T92, T93, T95, T96, T97, T98, T102, T103, T105, T107, T108, T109, T110, T112, T116, T120, T121, T122, T123, T124, T125, T126, T128, T130, T131, T132, T134, T135, T136, T137, T138, T140, T142, T143, T145, T146, T148, T149, T150, T152, T153, T154, T155, T156, T163, T164, T165, T166, T167, M_draw4_eq, d04O_some, M_small_eq, sm4O_some, M_pick_eq, pkO_some, srOf_C, l4, l5, l6, l7, c7, c2, c4, c6, w1, w2, w4, w5, w7, hfr', hto', w3, w6, hs2, hs3, a2_app4, a2_app5, hAA, hs1, hD, o1, e1, e2]
            repeat' (first | with_reducible refine cnd_split (fun hc => ?_) (fun hc => ?_) | with_reducible refine Reqs.mk ?_ ?_)
            all_goals first | assumption | (refine ⟨pB, by omega, by omega⟩) | skip
            refine hX 3 _ _ (by decide) ⟨by omega, ?_, ?_, ?_, ?_, ?_⟩
            · simp [look, l4]
            · rfl
            · refine ⟨A0, Q0, U0, A1, Q1, U1, c2 A, c2 A, c2 ⟨fr, to⟩, ?_⟩
              rw [r1, r2, r3] <;> rfl
            · rfl
            · rfl
    · obtain ⟨⟨A0, Q0, U0, A1, Q1, U1, A2, Q2, U2, rfl⟩, l5, l6⟩ := hI
      have c7 : decide (((3 : Nat) : Int) < 3) = false := by decide
      simp (config := { maxSteps := 4000000, implicitDefEqProofs := false }) only [F_min2_eq, F_okI_eq, WK0, WK1, WK2, WK3, WK4, WK5, WK6, WK7, WK8, WK9, WK10, WK11, WK12, WK13, WK14, WK15, WK16, WK17, WK18, WK19, WK20, WK21, WK22, WK23, WK24, WK25, WK26, WK27, WK28, WK29, WK30, look_hit, look_miss, List.map_cons, List.map_nil, Nat.add_zero, max_v, min_v, ↓cnd_t, ↓cnd_f, ↓grd_b, ↓grd_u, startEnv, Option.map_some, List.length_nil, List.length_cons, List.nil_append, List.cons_append, List.getElem?_cons_zero, List.getElem?_cons_succ, List.set_cons_zero, List.set_cons_succ, Bool.not_true, Bool.not_false, reduceIte, Nat.reduceEqDiff, Nat.reduceAdd, Nat.reduceLT, blt_lit, beq_lit, Bool.or_true, Bool.true_or, Bool.or_false, Bool.false_or, Bool.and_true, Bool.true_and, Bool.and_self, cond_true, cond_false, List.append_nil, Iv.eta, Option.map_none, idxO_l0, idxO_l1, decide_true, decide_false, reqs_true, Int.zero_sub, wrap_lit, wrapu_lit, Int.reduceLE, Int.reduceLT, Int.reduceAdd, Int.reduceSub, Int.reduceMul, Int.reduceNeg, Int.reduceEq, Option.bind_some, bin_shr_u64, bin_shl_u64, bin_shr_i64, bin_shl_i64, and_m32', Int.reduceToNat, Int.reducePow, Int.reduceMod, Int.reduceDiv, wrap_u64s, true_or, or_true, true_and, and_true, Option.isSome_none, Option.isSome_some, Nat.reduceLeDiff, Nat.reduceMul, Int.toNat_natCast, Int.cast_ofNat_Int, Int.natCast_zero, Int.natCast_one, List.isEmpty_nil, List.isEmpty_cons, List.replicate_zero, List.replicate_succ, T1, T2, T3, T4, T5, T6, T9, T10, T11, T12, T21, T22, T23, T25, T26, T27, T28, T29, T30, T32, T33, T34, T35, T36, T37, T38, T39, T40, T41, T42, T43, T44, T46, T48, T50, T52, T53, T54, T55, T56, T57, T58, T59, T61, T62, T63, T64, T65, T66, T67, T68, T69, T70, T71, T72, T73, T74, T75, T76, T77, T78, T79, T80, T81, T82, T83, T84, T85, T87, T89, T91, T92, T93, T95, T96, T97, T98, T102, T103, T105, T107, T108, T109, T110, T112, T116, T120, T121, T122, T123, T124, T125, T126, T128, T130, T131, T132, T134, T135, T136, T137, T138, T140, T142, T143, T145, T146, T148, T149, T150, T152, T153, T154, T155, T156, T163, T164, T165, T166, T167, l4, l5, l6, l7, c7]
      exact a2_end (by simp [c6]) (by simp [c6])
  · cases hM

-- def a2Long
def M_a2Long : MT := fun m args h => match args with
  | [.c (.p (.sl a n c)), .c (.p (.sl a' n' c'))] => some (True, .v (.c (.p (.bool (decide (3000 < (n : Int)) || decide (3000 < (n' : Int)))))), h)
  | _ => none
theorem M_a2Long_eq {m : Addr → Option PC} {h : Heap} {a a' : Option Addr} {n c n' c' : Nat} : M_a2Long m [.c (.p (.sl a n c)), .c (.p (.sl a' n' c'))] h = some (True, .v (.c (.p (.bool (decide (3000 < (n : Int)) || decide (3000 < (n' : Int)))))), h) := rfl
theorem lapp_n {α : Type} {r : List α} : List.append [] r = r := rfl
theorem lapp_c {α : Type} {a : α} {l r : List α} : List.append (a :: l) r = a :: List.append l r := rfl
theorem loadC_60 {k1 k2 : IntKind} {a b c d e f : PC} : loadC (tdPair k1 k2) 0 (some [a, b, c, d, e, f]) = some (.v (.agg [a, b])) := rfl
theorem loadC_62 {k1 k2 : IntKind} {a b c d e f : PC} : loadC (tdPair k1 k2) 2 (some [a, b, c, d, e, f]) = some (.v (.agg [c, d])) := rfl
theorem loadC_64 {k1 k2 : IntKind} {a b c d e f : PC} : loadC (tdPair k1 k2) 4 (some [a, b, c, d, e, f]) = some (.v (.agg [e, f])) := rfl

-- laws.a2Long
theorem laws_a2Long_a2Long_ok : Mn Tryz.prog 8 M_a2Long := by
  refine mn_of_go (O := orc []) mixed T_ok (orc_sound _) Tryz.func8 (by kernel_rfl) rfl Tryz.ntmps8 (by kernel_rfl) Tryz.results8 ?_
  intro m args hp pre r h' hM hpre
  unfold M_a2Long at hM
  split at hM
  · rename_i a n c a' n' c'
    simp only [Option.some.injEq, Prod.mk.injEq] at hM
    obtain ⟨rfl, hr, hh⟩ := hM
    subst hr hh
    refine ⟨by simp, ?_⟩
    by_cases c1 : (3000 : Int) < (n : Int)
    · have e1 : decide ((3000 : Int) < (n : Int)) = true := by simpa using c1
      simp (config := { maxSteps := 4000000, implicitDefEqProofs := false }) only [WK0, WK1, WK2, WK3, WK4, WK5, WK6, WK7, WK8, WK9, WK10, WK11, WK12, WK13, WK14, WK15, WK16, WK17, WK18, WK19, WK20, WK21, WK22, WK23, WK24, WK25, WK26, WK27, WK28, WK29, WK30, look_hit, look_miss, List.map_cons, List.map_nil, Nat.add_zero, max_v, min_v, ↓cnd_t, ↓cnd_f, ↓grd_b, ↓grd_u, startEnv, Option.map_some, List.length_nil, List.length_cons, List.nil_append, List.cons_append, List.getElem?_cons_zero, List.getElem?_cons_succ, List.set_cons_zero, List.set_cons_succ, Bool.not_true, Bool.not_false, reduceIte, Nat.reduceEqDiff, Nat.reduceAdd, Nat.reduceLT, blt_lit, beq_lit, Bool.or_true, Bool.true_or, Bool.or_false, Bool.false_or, Bool.and_true, Bool.true_and, Bool.and_self, cond_true, cond_false, List.append_nil, Iv.eta, Option.map_none, idxO_l0, idxO_l1, decide_true, decide_false, reqs_true, Int.zero_sub, wrap_lit, wrapu_lit, Int.reduceLE, Int.reduceLT, Int.reduceAdd, Int.reduceSub, Int.reduceMul, Int.reduceNeg, Int.reduceEq, Option.bind_some, bin_shr_u64, bin_shl_u64, bin_shr_i64, bin_shl_i64, and_m32', Int.reduceToNat, Int.reducePow, Int.reduceMod, Int.reduceDiv, wrap_u64s, true_or, or_true, true_and, and_true, Option.isSome_none, Option.isSome_some, Nat.reduceLeDiff, Nat.reduceMul, Int.toNat_natCast, Int.cast_ofNat_Int, Int.natCast_zero, Int.natCast_one, List.isEmpty_nil, List.isEmpty_cons, List.replicate_zero, List.replicate_succ, T1, T2, T3, T4, T5, T6, T9, T10, T11, T12, T21, T22, T23, T25, T26, T27, T28, T29, T30, T32, T33, T34, T35, T36, T37, T38, T39, T40, T41, T42, T43, T44, T46, T48, T50, T52, T53, T54, T55, T56, T57, T58, T59, T61, T62, T63, T64, T65, T66, T67, T68, T69, T70, T71, T72, T73, T74, T75, T76, T77, T78, T79, T80, T81, T82, T83, T84, T85, T87, T89, T91, T92, T93, T95, T96, T97, T98, T102, T103, T105, T107, T108, T109, T110, T112, T116, T120, T121, T122, T123, T124, T125, T126, T128, T130, T131, T132, T134, T135, T136, T137, T138, T140, T142, T143, T145, T146, T148, T149, T150, T152, T153, T154, T155, T156, T163, T164, T165, T166, T167, e1]
      exact endM_same rfl trivial rfl rfl (Nat.le_refl _) List.take_length
    · have e1 : decide ((3000 : Int) < (n : Int)) = false := by simpa using c1
      simp (config := { maxSteps := 4000000, implicitDefEqProofs := false }) only [WK0, WK1, WK2, WK3, WK4, WK5, WK6, WK7, WK8, WK9, WK10, WK11, WK12, WK13, WK14, WK15, WK16, WK17, WK18, WK19, WK20, WK21, WK22, WK23, WK24, WK25, WK26, WK27, WK28, WK29, WK30, look_hit, look_miss, List.map_cons, List.map_nil, Nat.add_zero, max_v, min_v, ↓cnd_t, ↓cnd_f, ↓grd_b, ↓grd_u, startEnv, Option.map_some, List.length_nil, List.length_cons, List.nil_append, List.cons_append, List.getElem?_cons_zero, List.getElem?_cons_succ, List.set_cons_zero, List.set_cons_succ, Bool.not_true, Bool.not_false, reduceIte, Nat.reduceEqDiff, Nat.reduceAdd, Nat.reduceLT, blt_lit, beq_lit, Bool.or_true, Bool.true_or, Bool.or_false, Bool.false_or, Bool.and_true, Bool.true_and, Bool.and_self, cond_true, cond_false, List.append_nil, Iv.eta, Option.map_none, idxO_l0, idxO_l1, decide_true, decide_false, reqs_true, Int.zero_sub, wrap_lit, wrapu_lit, Int.reduceLE, Int.reduceLT, Int.reduceAdd, Int.reduceSub, Int.reduceMul, Int.reduceNeg, Int.reduceEq, Option.bind_some, bin_shr_u64, bin_shl_u64, bin_shr_i64, bin_shl_i64, and_m32', Int.reduceToNat, Int.reducePow, Int.reduceMod, Int.reduceDiv, wrap_u64s, true_or, or_true, true_and, and_true, Option.isSome_none, Option.isSome_some, Nat.reduceLeDiff, Nat.reduceMul, Int.toNat_natCast, Int.cast_ofNat_Int, Int.natCast_zero, Int.natCast_one, List.isEmpty_nil, List.isEmpty_cons, List.replicate_zero, List.replicate_succ, T1, T2, T3, T4, T5, T6, T9, T10, T11, T12, T21, T22, T23, T25, T26, T27, T28, T29, T30, T32, T33, T34, T35, T36, T37, T38, T39, T40, T41, T42, T43, T44, T46, T48, T50, T52, T53, T54, T55, T56, T57, T58, T59, T61, T62, T63, T64, T65, T66, T67, T68, T69, T70, T71, T72, T73, T74, T75, T76, T77, T78, T79, T80, T81, T82, T83, T84, T85, T87, T89, T91, T92, T93, T95, T96, T97, T98, T102, T103, T105, T107, T108, T109, T110, T112, T116, T120, T121, T122, T123, T124, T125, T126, T128, T130, T131, T132, T134, T135, T136, T137, T138, T140, T142, T143, T145, T146, T148, T149, T150, T152, T153, T154, T155, T156, T163, T164, T165, T166, T167, e1]
      exact endM_same rfl trivial rfl rfl (Nat.le_refl _) List.take_length
  · cases hM

end Go.Proofs.YtcnapkdccjibpaaGreatDoor.Eng
