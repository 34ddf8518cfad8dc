/- What functions of the program compute, and that the program computes it: part 32. -/
import Derived.Test.YtcnapkdccjibpaaGreatDoorTab
import Derived.Test.YtcnapkdccjibpaaGreatDoorEng16
import Derived.Laws.BitsLemmas
import Derived.Laws.Bits64
import Derived.Laws.Bits64b
import Derived.Lib.Mul64
import Derived.Lib.BitFns
import Derived.Laws.Externs
import Derived.Test.YtcnapkdccjibpaaGreatDoorL1
import Derived.Test.YtcnapkdccjibpaaGreatDoorL2
import Derived.Test.YtcnapkdccjibpaaGreatDoorL19
import Derived.Test.YtcnapkdccjibpaaGreatDoorL24
import Derived.Test.YtcnapkdccjibpaaGreatDoorL26
import Derived.Test.YtcnapkdccjibpaaGreatDoorL31
namespace Go.Proofs.YtcnapkdccjibpaaGreatDoor.Eng
open Go Go.RowKit
set_option linter.unusedVariables false
set_option linter.unusedSimpArgs false
set_option maxRecDepth 100000
set_option maxHeartbeats 1000000
-- spec.ReadInterval
theorem spec_ReadInterval_readIv_ok : Fn Tryz.prog 5 F_readIv := by
  refine fn_of_go (O := orcM [⟨32, F_whole, .inl spec_l04Whole_whole_ok⟩, ⟨34, F_readFix, .inl spec_l03ReadFix_readFix_ok⟩, ⟨35, F_okI, .inl spec_l04Ok_okI_ok⟩] [⟨33, M_splitL, false, no_one, spec_l01Split_splitL_ok⟩]) mixed T_ok (orcM_sound _ _) Tryz.func5 (by kernel_rfl) rfl Tryz.ntmps5 (by kernel_rfl) Tryz.results5 ?_
  intro args g pre r new hF hpre
  unfold F_readIv at hF
  split at hF
  · rename_i s
    simp only [Option.some.injEq, Prod.mk.injEq] at hF
    obtain ⟨rfl, hr, rfl⟩ := hF
    refine ⟨by simp, ?_⟩
    obtain ⟨s, rfl⟩ : ∃ l, s = bs l := ⟨_, (bs_of s).symm⟩
    try simp only [bs_data] at hpre
    try simp only [bs_data] at hr
    have lst : ∀ {l : List UInt8}, l ≠ [] → ∃ c, l.getLast? = some c ∧ l[l.length - 1]? = some c := by
      intro l hl
      obtain ⟨c, hc⟩ : ∃ c, l.getLast? = some c := ⟨_, List.getLast?_eq_some_getLast hl⟩
      exact ⟨c, hc, by rw [← List.getLast?_eq_getElem?]; exact hc⟩
    have uf : ∀ {b c : UInt8}, b ≠ c → decide ((b.toNat : Int) = (c.toNat : Int)) = false := by
      intro b c h
      simp only [decide_eq_false_iff_not]
      exact fun h2 => h (UInt8.toNat_inj.1 (by omega))
    have ld : ∀ {o : Nat} {cs : List PC}, loadC tdStr o (some cs) = (cs[o]?).map sp := rfl
    have c91 : ((91 : UInt8).toNat : Int) = 91 := rfl
    have c93 : ((93 : UInt8).toNat : Int) = 93 := rfl
    have c44 : ((44 : UInt8).toNat : Int) = 44 := rfl
    by_cases hw : s = wholeL
    · have f0 : decide (s = [119, 104, 111, 108, 101]) = true := by simpa [wholeL] using hw
      simp (config := { maxSteps := 4000000, implicitDefEqProofs := false }) only [F_okI_eq, F_readFix_eq, F_whole_eq, WK0, WK1, WK2, WK3, WK4, WK5, WK6, WK7, WK8, WK9, WK10, WK11, WK12, WK13, WK14, WK15, WK16, WK17, WK18, WK19, WK20, WK21, WK22, WK23, WK24, WK25, WK26, WK27, WK28, WK29, WK30, look_hit, look_miss, List.map_cons, List.map_nil, Nat.add_zero, max_v, min_v, ↓cnd_t, ↓cnd_f, ↓grd_b, ↓grd_u, startEnv, Option.map_some, List.length_nil, List.length_cons, List.nil_append, List.cons_append, List.getElem?_cons_zero, List.getElem?_cons_succ, List.set_cons_zero, List.set_cons_succ, Bool.not_true, Bool.not_false, reduceIte, Nat.reduceEqDiff, Nat.reduceAdd, Nat.reduceLT, blt_lit, beq_lit, Bool.or_true, Bool.true_or, Bool.or_false, Bool.false_or, Bool.and_true, Bool.true_and, Bool.and_self, cond_true, cond_false, List.append_nil, Iv.eta, Option.map_none, idxO_l0, idxO_l1, decide_true, decide_false, reqs_true, Int.zero_sub, wrap_lit, wrapu_lit, Int.reduceLE, Int.reduceLT, Int.reduceAdd, Int.reduceSub, Int.reduceMul, Int.reduceNeg, Int.reduceEq, Option.bind_some, bin_shr_u64, bin_shl_u64, bin_shr_i64, bin_shl_i64, and_m32', Int.reduceToNat, Int.reducePow, Int.reduceMod, Int.reduceDiv, wrap_u64s, true_or, or_true, true_and, and_true, Option.isSome_none, Option.isSome_some, Nat.reduceLeDiff, Nat.reduceMul, Int.toNat_natCast, Int.cast_ofNat_Int, Int.natCast_zero, Int.natCast_one, List.isEmpty_nil, List.isEmpty_cons, List.replicate_zero, List.replicate_succ, T1, T2, T3, T4, T5, T6, T9, T10, T11, T12, T21, T22, T23, T25, T26, T27, T28, T29, T30, T32, T33, T34, T35, T36, T37, T38, T39, T40, T41, T42, T43, T44, T46, T48, T50, T52, T53, T54, T55, T56, T57, T58, T59, T61, T62, T63, T64, T65, T66, T67, T68, T69, T70, T71, T72, T73, T74, T75, T76, T77, T78, T79, T80, T81, T82, T83, T84, T85, T87, T89, T91, T92, T93, T95, T96, T97, T98, T102, T103, T105, T107, T108, T109, T110, T112, T116, T120, T121, T122, T123, T124, T125, T126, T128, T130, T131, T132, T134, T135, T136, T137, T138, T140, T142, T143, T145, T146, T148, T149, T150, T152, T153, T154, T155, T156, T163, T164, T165, T166, T167, f0]
      repeat' (first | with_reducible refine cnd_split (fun hc => ?_) (fun hc => ?_) | with_reducible refine Reqs.mk ?_ ?_)
      all_goals first
        | trivial
        | (refine endS_vb (t := (ivI s)) hr ?_
           rw [← iv_eq]; unfold ivS; rw [if_pos hw])
    · have f0 : decide (s = [119, 104, 111, 108, 101]) = false := by simpa [wholeL] using hw
      rw [← iv_eq] at hr
      have hI : ivS s = if decide ((s.length : Int) < 6) || (decide (s.head? ≠ some 91) || decide (s.getLast? ≠ some 93)) then (⟨0, 0⟩, false) else
          match splitL 32 ((s.take (s.length - 1)).drop 1) with
          | [w, v] => if decide ((w.length : Int) < 2) || decide (w.getLast? ≠ some 44) then (⟨0, 0⟩, false) else
            if !(readF (w.take (w.length - 1))).2.2 || (!(readF v).2.2 || !okI ⟨(readF (w.take (w.length - 1))).1, (readF v).2.1⟩) then (⟨0, 0⟩, false)
            else (⟨(readF (w.take (w.length - 1))).1, (readF v).2.1⟩, true)
          | _ => (⟨0, 0⟩, false) := by
        unfold ivS; rw [if_neg hw]; rfl
      by_cases h6 : (s.length : Int) < 6
      · have d0 : decide ((s.length : Int) < 6) = true := by simpa using h6
        rw [if_pos (by rw [d0]; rfl)] at hI
        simp (config := { maxSteps := 4000000, implicitDefEqProofs := false }) only [F_okI_eq, F_readFix_eq, F_whole_eq, WK0, WK1, WK2, WK3, WK4, WK5, WK6, WK7, WK8, WK9, WK10, WK11, WK12, WK13, WK14, WK15, WK16, WK17, WK18, WK19, WK20, WK21, WK22, WK23, WK24, WK25, WK26, WK27, WK28, WK29, WK30, look_hit, look_miss, List.map_cons, List.map_nil, Nat.add_zero, max_v, min_v, ↓cnd_t, ↓cnd_f, ↓grd_b, ↓grd_u, startEnv, Option.map_some, List.length_nil, List.length_cons, List.nil_append, List.cons_append, List.getElem?_cons_zero, List.getElem?_cons_succ, List.set_cons_zero, List.set_cons_succ, Bool.not_true, Bool.not_false, reduceIte, Nat.reduceEqDiff, Nat.reduceAdd, Nat.reduceLT, blt_lit, beq_lit, Bool.or_true, Bool.true_or, Bool.or_false, Bool.false_or, Bool.and_true, Bool.true_and, Bool.and_self, cond_true, cond_false, List.append_nil, Iv.eta, Option.map_none, idxO_l0, idxO_l1, decide_true, decide_false, reqs_true, Int.zero_sub, wrap_lit, wrapu_lit, Int.reduceLE, Int.reduceLT, Int.reduceAdd, Int.reduceSub, Int.reduceMul, Int.reduceNeg, Int.reduceEq, Option.bind_some, bin_shr_u64, bin_shl_u64, bin_shr_i64, bin_shl_i64, and_m32', Int.reduceToNat, Int.reducePow, Int.reduceMod, Int.reduceDiv, wrap_u64s, true_or, or_true, true_and, and_true, Option.isSome_none, Option.isSome_some, Nat.reduceLeDiff, Nat.reduceMul, Int.toNat_natCast, Int.cast_ofNat_Int, Int.natCast_zero, Int.natCast_one, List.isEmpty_nil, List.isEmpty_cons, List.replicate_zero, List.replicate_succ, T1, T2, T3, T4, T5, T6, T9, T10, T11, T12, T21, T22, T23, T25, T26, T27, T28, T29, T30, T32, T33, T34, T35, T36, T37, T38, T39, T40, T41, T42, T43, T44, T46, T48, T50, T52, T53, T54, T55, T56, T57, T58, T59, T61, T62, T63, T64, T65, T66, T67, T68, T69, T70, T71, T72, T73, T74, T75, T76, T77, T78, T79, T80, T81, T82, T83, T84, T85, T87, T89, T91, T92, T93, T95, T96, T97, T98, T102, T103, T105, T107, T108, T109, T110, T112, T116, T120, T121, T122, T123, T124, T125, T126, T128, T130, T131, T132, T134, T135, T136, T137, T138, T140, T142, T143, T145, T146, T148, T149, T150, T152, T153, T154, T155, T156, T163, T164, T165, T166, T167, f0, d0]
        repeat' (first | with_reducible refine cnd_split (fun hc => ?_) (fun hc => ?_) | with_reducible refine Reqs.mk ?_ ?_)
        all_goals first
          | trivial
          | (refine endS_vb (t := ivS s) hr ?_
             rw [hI])
      · have d0 : decide ((s.length : Int) < 6) = false := by simpa using h6
        have hne : s ≠ [] := by intro e; subst e; simp at h6
        obtain ⟨b0, hb0⟩ : ∃ b0, s[0]? = some b0 := ⟨_, List.getElem?_eq_getElem (by omega)⟩
        have hh0 : s.head? = some b0 := by rw [← hb0]; cases s <;> rfl
        obtain ⟨bl, hbl, hbl2⟩ := lst hne
        have i0 : ∀ hh : Heap, idxO hh (some tdStr) (some (.c (.p (.str (bs s))))) (some (.int .i64 0)) = some (some (sp (.int .u8 b0.toNat)), hh) := fun hh => idx_txt (by omega) hb0
        have iL : ∀ hh : Heap, idxO hh (some tdStr) (some (.c (.p (.str (bs s))))) (some (.int .i64 ((s.length : Int) - 1))) = some (some (sp (.int .u8 bl.toNat)), hh) := fun hh => idx_txt (by omega) (by rw [show ((s.length : Int) - 1).toNat = s.length - 1 by omega]; exact hbl2)
        have w1 : IntKind.i64.wrap ((s.length : Int) - 1) = (s.length : Int) - 1 := wrap_om (by omega) (by omega)
        rw [d0, hh0, hbl] at hI
        by_cases hc1 : b0 = 91
        case neg =>
          have d1 := uf hc1
          rw [c91] at d1
          rw [if_pos (by simp [hc1])] at hI
          simp (config := { maxSteps := 4000000, implicitDefEqProofs := false }) only [F_okI_eq, F_readFix_eq, F_whole_eq, WK0, WK1, WK2, WK3, WK4, WK5, WK6, WK7, WK8, WK9, WK10, WK11, WK12, WK13, WK14, WK15, WK16, WK17, WK18, WK19, WK20, WK21, WK22, WK23, WK24, WK25, WK26, WK27, WK28, WK29, WK30, look_hit, look_miss, List.map_cons, List.map_nil, Nat.add_zero, max_v, min_v, ↓cnd_t, ↓cnd_f, ↓grd_b, ↓grd_u, startEnv, Option.map_some, List.length_nil, List.length_cons, List.nil_append, List.cons_append, List.getElem?_cons_zero, List.getElem?_cons_succ, List.set_cons_zero, List.set_cons_succ, Bool.not_true, Bool.not_false, reduceIte, Nat.reduceEqDiff, Nat.reduceAdd, Nat.reduceLT, blt_lit, beq_lit, Bool.or_true, Bool.true_or, Bool.or_false, Bool.false_or, Bool.and_true, Bool.true_and, Bool.and_self, cond_true, cond_false, List.append_nil, Iv.eta, Option.map_none, idxO_l0, idxO_l1, decide_true, decide_false, reqs_true, Int.zero_sub, wrap_lit, wrapu_lit, Int.reduceLE, Int.reduceLT, Int.reduceAdd, Int.reduceSub, Int.reduceMul, Int.reduceNeg, Int.reduceEq, Option.bind_some, bin_shr_u64, bin_shl_u64, bin_shr_i64, bin_shl_i64, and_m32', Int.reduceToNat, Int.reducePow, Int.reduceMod, Int.reduceDiv, wrap_u64s, true_or, or_true, true_and, and_true, Option.isSome_none, Option.isSome_some, Nat.reduceLeDiff, Nat.reduceMul, Int.toNat_natCast, Int.cast_ofNat_Int, Int.natCast_zero, Int.natCast_one, List.isEmpty_nil, List.isEmpty_cons, List.replicate_zero, List.replicate_succ, T1, T2, T3, T4, T5, T6, T9, T10, T11, T12, T21, T22, T23, T25, T26, T27, T28, T29, T30, T32, T33, T34, T35, T36, T37, T38, T39, T40, T41, T42, T43, T44, T46, T48, T50, T52, T53, T54, T55, T56, T57, T58, T59, T61, T62, T63, T64, T65, T66, T67, T68, T69, T70, T71, T72, T73, T74, T75, T76, T77, T78, T79, T80, T81, T82, T83, T84, T85, T87, T89, T91, T92, T93, T95, T96, T97, T98, T102, T103, T105, T107, T108, T109, T110, T112, T116, T120, T121, T122, T123, T124, T125, T126, T128, T130, T131, T132, T134, T135, T136, T137, T138, T140, T142, T143, T145, T146, T148, T149, T150, T152, T153, T154, T155, T156, T163, T164, T165, T166, T167, f0, d0, i0, d1]
          repeat' (first | with_reducible refine cnd_split (fun hc => ?_) (fun hc => ?_) | with_reducible refine Reqs.mk ?_ ?_)
          all_goals first
            | trivial
            | (refine endS_vb (t := ivS s) hr ?_
               rw [hI])
        have d1 : decide ((b0.toNat : Int) = 91) = true := by subst hc1; rfl
        by_cases hc2 : bl = 93
        case neg =>
          have d2 := uf hc2
          rw [c93] at d2
          rw [if_pos (by simp [hc2])] at hI
          simp (config := { maxSteps := 4000000, implicitDefEqProofs := false }) only [F_okI_eq, F_readFix_eq, F_whole_eq, WK0, WK1, WK2, WK3, WK4, WK5, WK6, WK7, WK8, WK9, WK10, WK11, WK12, WK13, WK14, WK15, WK16, WK17, WK18, WK19, WK20, WK21, WK22, WK23, WK24, WK25, WK26, WK27, WK28, WK29, WK30, look_hit, look_miss, List.map_cons, List.map_nil, Nat.add_zero, max_v, min_v, ↓cnd_t, ↓cnd_f, ↓grd_b, ↓grd_u, startEnv, Option.map_some, List.length_nil, List.length_cons, List.nil_append, List.cons_append, List.getElem?_cons_zero, List.getElem?_cons_succ, List.set_cons_zero, List.set_cons_succ, Bool.not_true, Bool.not_false, reduceIte, Nat.reduceEqDiff, Nat.reduceAdd, Nat.reduceLT, blt_lit, beq_lit, Bool.or_true, Bool.true_or, Bool.or_false, Bool.false_or, Bool.and_true, Bool.true_and, Bool.and_self, cond_true, cond_false, List.append_nil, Iv.eta, Option.map_none, idxO_l0, idxO_l1, decide_true, decide_false, reqs_true, Int.zero_sub, wrap_lit, wrapu_lit, Int.reduceLE, Int.reduceLT, Int.reduceAdd, Int.reduceSub, Int.reduceMul, Int.reduceNeg, Int.reduceEq, Option.bind_some, bin_shr_u64, bin_shl_u64, bin_shr_i64, bin_shl_i64, and_m32', Int.reduceToNat, Int.reducePow, Int.reduceMod, Int.reduceDiv, wrap_u64s, true_or, or_true, true_and, and_true, Option.isSome_none, Option.isSome_some, Nat.reduceLeDiff, Nat.reduceMul, Int.toNat_natCast, Int.cast_ofNat_Int, Int.natCast_zero, Int.natCast_one, List.isEmpty_nil, List.isEmpty_cons, List.replicate_zero, List.replicate_succ, T1, T2, T3, T4, T5, T6, T9, T10, T11, T12, T21, T22, T23, T25, T26, T27, T28, T29, T30, T32, T33, T34, T35, T36, T37, T38, T39, T40, T41, T42, T43, T44, T46, T48, T50, T52, T53, T54, T55, T56, T57, T58, T59, T61, T62, T63, T64, T65, T66, T67, T68, T69, T70, T71, T72, T73, T74, T75, T76, T77, T78, T79, T80, T81, T82, T83, T84, T85, T87, T89, T91, T92, T93, T95, T96, T97, T98, T102, T103, T105, T107, T108, T109, T110, T112, T116, T120, T121, T122, T123, T124, T125, T126, T128, T130, T131, T132, T134, T135, T136, T137, T138, T140, T142, T143, T145, T146, T148, T149, T150, T152, T153, T154, T155, T156, T163, T164, T165, T166, T167, f0, d0, i0, iL, w1, d1, d2]
          repeat' (first | with_reducible refine cnd_split (fun hc => ?_) (fun hc => ?_) | with_reducible refine Reqs.mk ?_ ?_)
          all_goals first
            | trivial
            | (refine endS_vb (t := ivS s) hr ?_
               rw [hI])
        have d2 : decide ((bl.toNat : Int) = 93) = true := by subst hc2; rfl
        rw [if_neg (by simp [hc1, hc2])] at hI
        obtain ⟨mid, hmid⟩ : ∃ mid, (s.take (s.length - 1)).drop 1 = mid := ⟨_, rfl⟩
        have hml : mid.length ≤ 1048576 := by rw [← hmid, List.length_drop, List.length_take]; omega
        have t1 : ∀ hh : Heap, slcO hh (some tdStr) (some (.c (.p (.str (bs s))))) (some (some 1)) (some (some ((s.length : Int) - 1))) (some none) = some (some (.v (.c (.p (.str (bs mid))))), hh) := by
          intro hh
          rw [slc_txt (by omega) (by omega) (by omega), show ((s.length : Int) - 1).toNat = s.length - 1 by omega, show (1 : Int).toNat = 1 from rfl, hmid]
        rw [hmid] at hI
        obtain ⟨W, hW⟩ : ∃ W, splitL 32 mid = W := ⟨_, rfl⟩
        have m1 : ∀ (m : Addr → Option PC) (h : Heap), M_splitL m [.c (.p (.str (bs mid))), .c (.p (.int .u8 32))] h = some (mid.length ≤ 1048576 ∧ (0 : Int) ≤ 32 ∧ (32 : Int) ≤ 255, .v (.c (.row h.length 0 W.length 1)), h ++ [wordsC W]) := by
          intro m h
          rw [M_splitL_eq, show UInt8.ofNat (32 : Int).toNat = 32 from rfl, hW]
        rw [hW] at hI
        have bad : W.length ≠ 2 → ivS s = (⟨0, 0⟩, false) := by
          intro h2
          rw [hI]
          match W, h2 with
          | [], _ => rfl
          | [_], _ => rfl
          | [_, _], h2 => exact absurd rfl h2
          | _ :: _ :: _ :: _, _ => rfl
        by_cases h2 : W.length = 2
        case neg =>
          have d3 : decide ((W.length : Int) = 2) = false := by simp only [decide_eq_false_iff_not]; omega
          simp (config := { maxSteps := 4000000, implicitDefEqProofs := false }) only [F_okI_eq, F_readFix_eq, F_whole_eq, WK0, WK1, WK2, WK3, WK4, WK5, WK6, WK7, WK8, WK9, WK10, WK11, WK12, WK13, WK14, WK15, WK16, WK17, WK18, WK19, WK20, WK21, WK22, WK23, WK24, WK25, WK26, WK27, WK28, WK29, WK30, look_hit, look_miss, List.map_cons, List.map_nil, Nat.add_zero, max_v, min_v, ↓cnd_t, ↓cnd_f, ↓grd_b, ↓grd_u, startEnv, Option.map_some, List.length_nil, List.length_cons, List.nil_append, List.cons_append, List.getElem?_cons_zero, List.getElem?_cons_succ, List.set_cons_zero, List.set_cons_succ, Bool.not_true, Bool.not_false, reduceIte, Nat.reduceEqDiff, Nat.reduceAdd, Nat.reduceLT, blt_lit, beq_lit, Bool.or_true, Bool.true_or, Bool.or_false, Bool.false_or, Bool.and_true, Bool.true_and, Bool.and_self, cond_true, cond_false, List.append_nil, Iv.eta, Option.map_none, idxO_l0, idxO_l1, decide_true, decide_false, reqs_true, Int.zero_sub, wrap_lit, wrapu_lit, Int.reduceLE, Int.reduceLT, Int.reduceAdd, Int.reduceSub, Int.reduceMul, Int.reduceNeg, Int.reduceEq, Option.bind_some, bin_shr_u64, bin_shl_u64, bin_shr_i64, bin_shl_i64, and_m32', Int.reduceToNat, Int.reducePow, Int.reduceMod, Int.reduceDiv, wrap_u64s, true_or, or_true, true_and, and_true, Option.isSome_none, Option.isSome_some, Nat.reduceLeDiff, Nat.reduceMul, Int.toNat_natCast, Int.cast_ofNat_Int, Int.natCast_zero, Int.natCast_one, List.isEmpty_nil, List.isEmpty_cons, List.replicate_zero, List.replicate_succ, T1, T2, T3, T4, T5, T6, T9, T10, T11, T12, T21, T22, T23, T25, T26, T27, T28, T29, T30, T32, T33, T34, T35, T36, T37, T38, T39, T40, T41, T42, T43, T44, T46, T48, T50, T52, T53, T54, T55, T56, T57, T58, T59, T61, T62, T63, T64, T65, T66, T67, T68, T69, T70, T71, T72, T73, T74, T75, T76, T77, T78, T79, T80, T81, T82, T83, T84, T85, T87, T89, T91, T92, T93, T95, T96, T97, T98, T102, T103, T105, T107, T108, T109, T110, T112, T116, T120, T121, T122, T123, T124, T125, T126, T128, T130, T131, T132, T134, T135, T136, T137, T138, T140, T142, T143, T145, T146, T148, T149, T150, T152, T153, T154, T155, T156, T163, T164, T165, T166, T167, f0, d0, i0, iL, w1, d1, d2, t1, m1, d3]
          repeat' (first | with_reducible refine cnd_split (fun hc => ?_) (fun hc => ?_) | with_reducible refine Reqs.mk ?_ ?_)
          all_goals first
            | exact ⟨hml, by omega, by omega⟩
            | trivial
            | (refine endS_vb (t := ivS s) hr ?_
               rw [bad h2])
        obtain ⟨w, v, rfl⟩ : ∃ w v, W = [w, v] := by
          match W, h2 with
          | [w, v], _ => exact ⟨w, v, rfl⟩
        have e2 := splitL_two hW
        have hwv : w.length + v.length ≤ 1048576 := by
          have := congrArg List.length e2
          rw [List.length_append, List.length_cons] at this
          omega
        have m2 : ∀ (m : Addr → Option PC) (h : Heap), M_splitL m [.c (.p (.str (bs mid))), .c (.p (.int .u8 32))] h = some (mid.length ≤ 1048576 ∧ (0 : Int) ≤ 32 ∧ (32 : Int) ≤ 255, .v (.c (.row h.length 0 2 1)), h ++ [[.str (bs w), .str (bs v)]]) := m1
        simp only at hI
        by_cases h3 : (w.length : Int) < 2
        · have d4 : decide ((w.length : Int) < 2) = true := by simpa using h3
          rw [d4, if_pos (by rfl)] at hI
          simp (config := { maxSteps := 4000000, implicitDefEqProofs := false }) only [F_okI_eq, F_readFix_eq, F_whole_eq, WK0, WK1, WK2, WK3, WK4, WK5, WK6, WK7, WK8, WK9, WK10, WK11, WK12, WK13, WK14, WK15, WK16, WK17, WK18, WK19, WK20, WK21, WK22, WK23, WK24, WK25, WK26, WK27, WK28, WK29, WK30, look_hit, look_miss, List.map_cons, List.map_nil, Nat.add_zero, max_v, min_v, ↓cnd_t, ↓cnd_f, ↓grd_b, ↓grd_u, startEnv, Option.map_some, List.length_nil, List.length_cons, List.nil_append, List.cons_append, List.getElem?_cons_zero, List.getElem?_cons_succ, List.set_cons_zero, List.set_cons_succ, Bool.not_true, Bool.not_false, reduceIte, Nat.reduceEqDiff, Nat.reduceAdd, Nat.reduceLT, blt_lit, beq_lit, Bool.or_true, Bool.true_or, Bool.or_false, Bool.false_or, Bool.and_true, Bool.true_and, Bool.and_self, cond_true, cond_false, List.append_nil, Iv.eta, Option.map_none, idxO_l0, idxO_l1, decide_true, decide_false, reqs_true, Int.zero_sub, wrap_lit, wrapu_lit, Int.reduceLE, Int.reduceLT, Int.reduceAdd, Int.reduceSub, Int.reduceMul, Int.reduceNeg, Int.reduceEq, Option.bind_some, bin_shr_u64, bin_shl_u64, bin_shr_i64, bin_shl_i64, and_m32', Int.reduceToNat, Int.reducePow, Int.reduceMod, Int.reduceDiv, wrap_u64s, true_or, or_true, true_and, and_true, Option.isSome_none, Option.isSome_some, Nat.reduceLeDiff, Nat.reduceMul, Int.toNat_natCast, Int.cast_ofNat_Int, Int.natCast_zero, Int.natCast_one, List.isEmpty_nil, List.isEmpty_cons, List.replicate_zero, List.replicate_succ, T1, T2, T3, T4, T5, T6, T9, T10, T11, T12, T21, T22, T23, T25, T26, T27, T28, T29, T30, T32, T33, T34, T35, T36, T37, T38, T39, T40, T41, T42, T43, T44, T46, T48, T50, T52, T53, T54, T55, T56, T57, T58, T59, T61, T62, T63, T64, T65, T66, T67, T68, T69, T70, T71, T72, T73, T74, T75, T76, T77, T78, T79, T80, T81, T82, T83, T84, T85, T87, T89, T91, T92, T93, T95, T96, T97, T98, T102, T103, T105, T107, T108, T109, T110, T112, T116, T120, T121, T122, T123, T124, T125, T126, T128, T130, T131, T132, T134, T135, T136, T137, T138, T140, T142, T143, T145, T146, T148, T149, T150, T152, T153, T154, T155, T156, T163, T164, T165, T166, T167, f0, d0, i0, iL, w1, d1, d2, t1, m2, d4, ld]
          repeat' (first | with_reducible refine cnd_split (fun hc => ?_) (fun hc => ?_) | with_reducible refine Reqs.mk ?_ ?_)
          all_goals first
            | exact ⟨hml, by omega, by omega⟩
            | trivial
            | (refine endS_vb (t := ivS s) hr ?_
               rw [hI])
        · have d4 : decide ((w.length : Int) < 2) = false := by simpa using h3
          obtain ⟨cl, hcl, hcl2⟩ := lst (l := w) (by intro e; subst e; simp at h3)
          have iw : ∀ hh : Heap, idxO hh (some tdStr) (some (.c (.p (.str (bs w))))) (some (.int .i64 ((w.length : Int) - 1))) = some (some (sp (.int .u8 cl.toNat)), hh) := fun hh => idx_txt (by omega) (by rw [show ((w.length : Int) - 1).toNat = w.length - 1 by omega]; exact hcl2)
          have w2 : IntKind.i64.wrap ((w.length : Int) - 1) = (w.length : Int) - 1 := wrap_om (by omega) (by omega)
          rw [d4, hcl] at hI
          by_cases hc4 : cl = 44
          case neg =>
            have d5 := uf hc4
            rw [c44] at d5
            rw [if_pos (by simp [hc4])] at hI
            simp (config := { maxSteps := 4000000, implicitDefEqProofs := false }) only [F_okI_eq, F_readFix_eq, F_whole_eq, WK0, WK1, WK2, WK3, WK4, WK5, WK6, WK7, WK8, WK9, WK10, WK11, WK12, WK13, WK14, WK15, WK16, WK17, WK18, WK19, WK20, WK21, WK22, WK23, WK24, WK25, WK26, WK27, WK28, WK29, WK30, look_hit, look_miss, List.map_cons, List.map_nil, Nat.add_zero, max_v, min_v, ↓cnd_t, ↓cnd_f, ↓grd_b, ↓grd_u, startEnv, Option.map_some, List.length_nil, List.length_cons, List.nil_append, List.cons_append, List.getElem?_cons_zero, List.getElem?_cons_succ, List.set_cons_zero, List.set_cons_succ, Bool.not_true, Bool.not_false, reduceIte, Nat.reduceEqDiff, Nat.reduceAdd, Nat.reduceLT, blt_lit, beq_lit, Bool.or_true, Bool.true_or, Bool.or_false, Bool.false_or, Bool.and_true, Bool.true_and, Bool.and_self, cond_true, cond_false, List.append_nil, Iv.eta, Option.map_none, idxO_l0, idxO_l1, decide_true, decide_false, reqs_true, Int.zero_sub, wrap_lit, wrapu_lit, Int.reduceLE, Int.reduceLT, Int.reduceAdd, Int.reduceSub, Int.reduceMul, Int.reduceNeg, Int.reduceEq, Option.bind_some, bin_shr_u64, bin_shl_u64, bin_shr_i64, bin_shl_i64, and_m32', Int.reduceToNat, Int.reducePow, Int.reduceMod, Int.reduceDiv, wrap_u64s, true_or, or_true, true_and, and_true, Option.isSome_none, Option.isSome_some, Nat.reduceLeDiff, Nat.reduceMul, Int.toNat_natCast, Int.cast_ofNat_Int, Int.natCast_zero, Int.natCast_one, List.isEmpty_nil, List.isEmpty_cons, List.replicate_zero, List.replicate_succ, T1, T2, T3, T4, T5, T6, T9, T10, T11, T12, T21, T22, T23, T25, T26, T27, T28, T29, T30, T32, T33, T34, T35, T36, T37, T38, T39, T40, T41, T42, T43, T44, T46, T48, T50, T52, T53, T54, T55, T56, T57, T58, T59, T61, T62, T63, T64, T65, T66, T67, T68, T69, T70, T71, T72, T73, T74, T75, T76, T77, T78, T79, T80, T81, T82, T83, T84, T85, T87, T89, T91, T92, T93, T95, T96, T97, T98, T102, T103, T105, T107, T108, T109, T110, T112, T116, T120, T121, T122, T123, T124, T125, T126, T128, T130, T131, T132, T134, T135, T136, T137, T138, T140, T142, T143, T145, T146, T148, T149, T150, T152, T153, T154, T155, T156, T163, T164, T165, T166, T167, f0, d0, i0, iL, w1, d1, d2, t1, m2, d4, ld, iw, w2, d5]
            repeat' (first | with_reducible refine cnd_split (fun hc => ?_) (fun hc => ?_) | with_reducible refine Reqs.mk ?_ ?_)
            all_goals first
              | exact ⟨hml, by omega, by omega⟩
              | trivial
              | (refine endS_vb (t := ivS s) hr ?_
                 rw [hI])
          have d5 : decide ((cl.toNat : Int) = 44) = true := by subst hc4; rfl
          rw [if_neg (by simp [hc4])] at hI
          have t2 : ∀ hh : Heap, slcO hh (some tdStr) (some (.c (.p (.str (bs w))))) (some none) (some (some ((w.length : Int) - 1))) (some none) = some (some (.v (.c (.p (.str (bs (w.take (w.length - 1))))))), hh) := by
            intro hh
            rw [slc_to (by omega) (by omega), show ((w.length : Int) - 1).toNat = w.length - 1 by omega]
          obtain ⟨xl, xh, xo, hX⟩ : ∃ xl xh xo, readF (w.take (w.length - 1)) = (xl, xh, xo) := ⟨_, _, _, rfl⟩
          obtain ⟨yl, yh, yo, hY⟩ : ∃ yl yh yo, readF v = (yl, yh, yo) := ⟨_, _, _, rfl⟩
          simp only [hX, hY] at hI
          simp (config := { maxSteps := 4000000, implicitDefEqProofs := false }) only [F_okI_eq, F_readFix_eq, F_whole_eq, WK0, WK1, WK2, WK3, WK4, WK5, WK6, WK7, WK8, WK9, WK10, WK11, WK12, WK13, WK14, WK15, WK16, WK17, WK18, WK19, WK20, WK21, WK22, WK23, WK24, WK25, WK26, WK27, WK28, WK29, WK30, look_hit, look_miss, List.map_cons, List.map_nil, Nat.add_zero, max_v, min_v, ↓cnd_t, ↓cnd_f, ↓grd_b, ↓grd_u, startEnv, Option.map_some, List.length_nil, List.length_cons, List.nil_append, List.cons_append, List.getElem?_cons_zero, List.getElem?_cons_succ, List.set_cons_zero, List.set_cons_succ, Bool.not_true, Bool.not_false, reduceIte, Nat.reduceEqDiff, Nat.reduceAdd, Nat.reduceLT, blt_lit, beq_lit, Bool.or_true, Bool.true_or, Bool.or_false, Bool.false_or, Bool.and_true, Bool.true_and, Bool.and_self, cond_true, cond_false, List.append_nil, Iv.eta, Option.map_none, idxO_l0, idxO_l1, decide_true, decide_false, reqs_true, Int.zero_sub, wrap_lit, wrapu_lit, Int.reduceLE, Int.reduceLT, Int.reduceAdd, Int.reduceSub, Int.reduceMul, Int.reduceNeg, Int.reduceEq, Option.bind_some, bin_shr_u64, bin_shl_u64, bin_shr_i64, bin_shl_i64, and_m32', Int.reduceToNat, Int.reducePow, Int.reduceMod, Int.reduceDiv, wrap_u64s, true_or, or_true, true_and, and_true, Option.isSome_none, Option.isSome_some, Nat.reduceLeDiff, Nat.reduceMul, Int.toNat_natCast, Int.cast_ofNat_Int, Int.natCast_zero, Int.natCast_one, List.isEmpty_nil, List.isEmpty_cons, List.replicate_zero, List.replicate_succ, T1, T2, T3, T4, T5, T6, T9, T10, T11, T12, T21, T22, T23, T25, T26, T27, T28, T29, T30, T32, T33, T34, T35, T36, T37, T38, T39, T40, T41, T42, T43, T44, T46, T48, T50, T52, T53, T54, T55, T56, T57, T58, T59, T61, T62, T63, T64, T65, T66, T67, T68, T69, T70, T71, T72, T73, T74, T75, T76, T77, T78, T79, T80, T81, T82, T83, T84, T85, T87, T89, T91, T92, T93, T95, T96, T97, T98, T102, T103, T105, T107, T108, T109, T110, T112, T116, T120, T121, T122, T123, T124, T125, T126, T128, T130, T131, T132, T134, T135, T136, T137, T138, T140, T142, T143, T145, T146, T148, T149, T150, T152, T153, T154, T155, T156, T163, T164, T165, T166, T167, f0, d0, i0, iL, w1, d1, d2, t1, m2, d4, ld, iw, w2, d5, t2, hX, hY]
          repeat' (first | with_reducible refine cnd_split (fun hc => ?_) (fun hc => ?_) | with_reducible refine Reqs.mk ?_ ?_)
          all_goals first
            | exact ⟨hml, by omega, by omega⟩
            | (simp only [List.length_take]; omega)
            | omega
            | trivial
            | (refine endS_vb (t := ivS s) hr ?_
               rw [hI]
               simp_all; done)
  · cases hF

end Go.Proofs.YtcnapkdccjibpaaGreatDoor.Eng
