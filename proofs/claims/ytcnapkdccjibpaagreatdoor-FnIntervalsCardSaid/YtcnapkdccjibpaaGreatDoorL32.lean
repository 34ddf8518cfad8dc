/- What functions of the program compute, and that the program computes it: part 32. -/
import Derived.Test.YtcnapkdccjibpaaGreatDoorTab
import Derived.Test.YtcnapkdccjibpaaGreatDoorEng16
import Derived.Laws.BitsLemmas
import Derived.Laws.Bits64
import Derived.Laws.Bits64b
import Derived.Lib.Mul64
import Derived.Lib.BitFns
import Derived.Laws.Externs
import Derived.Test.YtcnapkdccjibpaaGreatDoorL1
import Derived.Test.YtcnapkdccjibpaaGreatDoorL2
import Derived.Test.YtcnapkdccjibpaaGreatDoorL10
import Derived.Test.YtcnapkdccjibpaaGreatDoorL28
import Derived.Test.YtcnapkdccjibpaaGreatDoorL29
import Derived.Test.YtcnapkdccjibpaaGreatDoorL30
import Derived.Test.YtcnapkdccjibpaaGreatDoorL31
namespace Go.Proofs.YtcnapkdccjibpaaGreatDoor.Eng
open Go Go.RowKit
set_option linter.unusedVariables false
set_option linter.unusedSimpArgs false
set_option maxRecDepth 100000
set_option maxHeartbeats 1000000
-- read facts
theorem parseI_in {s : List UInt8} {m d : Int} (h : parseI s = (m, d, true)) : (0 ≤ d ∧ d ≤ 9) ∧ inR m ∧ inR (pw10 d) := by
  obtain ⟨m', d', h0, h9, hm, rfl⟩ := parseI_out (s := s) (by rw [h])
  rw [parseI_units m' h0 h9 hm] at h
  simp only [Prod.mk.injEq, and_true] at h
  obtain ⟨rfl, rfl⟩ := h
  have hp := pw10_in (n := d') (by omega)
  have hp9 := @pw10_mono d' 9 (by omega) (by omega) (by omega)
  have h9' : pw10 9 = 1000000000 := by decide
  have k1 := Int.mul_ediv_add_emod (absZ m') (pw10 d')
  have k2 := Int.emod_lt_of_pos (absZ m') (show 0 < pw10 d' by omega)
  have hq : 0 ≤ absZ m' / pw10 d' := Int.ediv_nonneg absZ_nn (by omega)
  have k3 : pw10 d' * (absZ m' / pw10 d') ≤ pw10 d' * 1000000000 := Int.mul_le_mul_of_nonneg_left (by omega) (by omega)
  refine ⟨⟨h0, h9⟩, ?_, ?_⟩
  · unfold inR; unfold absZ at *; split at * <;> omega
  · unfold inR; omega

-- impl.ReadFix
theorem impl_ReadFix_readFix_ok : Fn Tryz.prog 40 F_readFix := by
  refine fn_of_go (O := orc [⟨69, F_readDigs, .inl impl_readDigits_readDigs_ok⟩, ⟨70, F_fixFloor, .inl impl_FixFloor_fixFloor_ok⟩, ⟨71, F_pow10, .inl impl_powerOfTen_pow10_ok⟩, ⟨72, F_fixCeil, .inl impl_FixCeil_fixCeil_ok⟩]) mixed T_ok (orc_sound _) Tryz.func40 (by kernel_rfl) rfl Tryz.ntmps40 (by kernel_rfl) Tryz.results40 ?_
  intro args g pre r new hF hpre
  unfold F_readFix at hF
  split at hF
  · rename_i s
    simp only [Option.some.injEq, Prod.mk.injEq] at hF
    obtain ⟨rfl, hr, rfl⟩ := hF
    refine ⟨by simp, ?_⟩
    obtain ⟨s, rfl⟩ : ∃ l, s = bs l := ⟨_, (bs_of s).symm⟩
    try simp only [bs_data] at hpre
    try simp only [bs_data] at hr
    obtain ⟨m, d, ok, hP⟩ : ∃ m d ok, parseI s = (m, d, ok) := ⟨_, _, _, rfl⟩
    have hR : readF s = fixRead (m, d, ok) := by unfold readF; rw [hP]
    cases ok with
    | false =>
      simp (config := { maxSteps := 4000000, implicitDefEqProofs := false }) only [F_fixCeil_eq, F_fixFloor_eq, F_pow10_eq, F_readDigs_eq, WK0, WK1, WK2, WK3, WK4, WK5, WK6, WK7, WK8, WK9, WK10, WK11, WK12, WK13, WK14, WK15, WK16, WK17, WK18, WK19, WK20, WK21, WK22, WK23, WK24, WK25, WK26, WK27, WK28, WK29, WK30, look_hit, look_miss, List.map_cons, List.map_nil, Nat.add_zero, max_v, min_v, ↓cnd_t, ↓cnd_f, ↓grd_b, ↓grd_u, startEnv, Option.map_some, List.length_nil, List.length_cons, List.nil_append, List.cons_append, List.getElem?_cons_zero, List.getElem?_cons_succ, List.set_cons_zero, List.set_cons_succ, Bool.not_true, Bool.not_false, reduceIte, Nat.reduceEqDiff, Nat.reduceAdd, Nat.reduceLT, blt_lit, beq_lit, Bool.or_true, Bool.true_or, Bool.or_false, Bool.false_or, Bool.and_true, Bool.true_and, Bool.and_self, cond_true, cond_false, List.append_nil, Iv.eta, Option.map_none, idxO_l0, idxO_l1, decide_true, decide_false, reqs_true, Int.zero_sub, wrap_lit, wrapu_lit, Int.reduceLE, Int.reduceLT, Int.reduceAdd, Int.reduceSub, Int.reduceMul, Int.reduceNeg, Int.reduceEq, Option.bind_some, bin_shr_u64, bin_shl_u64, bin_shr_i64, bin_shl_i64, and_m32', Int.reduceToNat, Int.reducePow, Int.reduceMod, Int.reduceDiv, wrap_u64s, true_or, or_true, true_and, and_true, Option.isSome_none, Option.isSome_some, Nat.reduceLeDiff, Nat.reduceMul, Int.toNat_natCast, Int.cast_ofNat_Int, Int.natCast_zero, Int.natCast_one, List.isEmpty_nil, List.isEmpty_cons, List.replicate_zero, List.replicate_succ, T1, T2, T3, T4, T5, T6, T9, T10, T11, T12, T21, T22, T23, T25, T26, T27, T28, T29, T30, T32, T33, T34, T35, T36, T37, T38, T39, T40, T41, T42, T43, T44, T46, T48, T50, T52, T53, T54, T55, T56, T57, T58, T59, T61, T62, T63, T64, T65, T66, T67, T68, T69, T70, T71, T72, T73, T74, T75, T76, T77, T78, T79, T80, T81, T82, T83, T84, T85, T87, T89, T91, T92, T93, T95, T96, T97, T98, T102, T103, T105, T107, T108, T109, T110, T112, T116, T120, T121, T122, T123, T124, T125, T126, T128, T130, T131, T132, T134, T135, T136, T137, T138, T140, T142, T143, T145, T146, T148, T149, T150, T152, T153, T154, T155, T156, T163, T164, T165, T166, T167, hP]
      repeat' (first | with_reducible refine cnd_split (fun hc => ?_) (fun hc => ?_) | with_reducible refine Reqs.mk ?_ ?_)
      all_goals first
        | exact hpre
        | (refine endS_iib (t := (readF s)) hr ?_
           rw [hR]; rfl)
    | true =>
      obtain ⟨h1, h2, h3⟩ := parseI_in hP
      simp (config := { maxSteps := 4000000, implicitDefEqProofs := false }) only [F_fixCeil_eq, F_fixFloor_eq, F_pow10_eq, F_readDigs_eq, WK0, WK1, WK2, WK3, WK4, WK5, WK6, WK7, WK8, WK9, WK10, WK11, WK12, WK13, WK14, WK15, WK16, WK17, WK18, WK19, WK20, WK21, WK22, WK23, WK24, WK25, WK26, WK27, WK28, WK29, WK30, look_hit, look_miss, List.map_cons, List.map_nil, Nat.add_zero, max_v, min_v, ↓cnd_t, ↓cnd_f, ↓grd_b, ↓grd_u, startEnv, Option.map_some, List.length_nil, List.length_cons, List.nil_append, List.cons_append, List.getElem?_cons_zero, List.getElem?_cons_succ, List.set_cons_zero, List.set_cons_succ, Bool.not_true, Bool.not_false, reduceIte, Nat.reduceEqDiff, Nat.reduceAdd, Nat.reduceLT, blt_lit, beq_lit, Bool.or_true, Bool.true_or, Bool.or_false, Bool.false_or, Bool.and_true, Bool.true_and, Bool.and_self, cond_true, cond_false, List.append_nil, Iv.eta, Option.map_none, idxO_l0, idxO_l1, decide_true, decide_false, reqs_true, Int.zero_sub, wrap_lit, wrapu_lit, Int.reduceLE, Int.reduceLT, Int.reduceAdd, Int.reduceSub, Int.reduceMul, Int.reduceNeg, Int.reduceEq, Option.bind_some, bin_shr_u64, bin_shl_u64, bin_shr_i64, bin_shl_i64, and_m32', Int.reduceToNat, Int.reducePow, Int.reduceMod, Int.reduceDiv, wrap_u64s, true_or, or_true, true_and, and_true, Option.isSome_none, Option.isSome_some, Nat.reduceLeDiff, Nat.reduceMul, Int.toNat_natCast, Int.cast_ofNat_Int, Int.natCast_zero, Int.natCast_one, List.isEmpty_nil, List.isEmpty_cons, List.replicate_zero, List.replicate_succ, T1, T2, T3, T4, T5, T6, T9, T10, T11, T12, T21, T22, T23, T25, T26, T27, T28, T29, T30, T32, T33, T34, T35, T36, T37, T38, T39, T40, T41, T42, T43, T44, T46, T48, T50, T52, T53, T54, T55, T56, T57, T58, T59, T61, T62, T63, T64, T65, T66, T67, T68, T69, T70, T71, T72, T73, T74, T75, T76, T77, T78, T79, T80, T81, T82, T83, T84, T85, T87, T89, T91, T92, T93, T95, T96, T97, T98, T102, T103, T105, T107, T108, T109, T110, T112, T116, T120, T121, T122, T123, T124, T125, T126, T128, T130, T131, T132, T134, T135, T136, T137, T138, T140, T142, T143, T145, T146, T148, T149, T150, T152, T153, T154, T155, T156, T163, T164, T165, T166, T167, hP]
      repeat' (first | with_reducible refine cnd_split (fun hc => ?_) (fun hc => ?_) | with_reducible refine Reqs.mk ?_ ?_)
      all_goals first
        | exact hpre
        | exact ⟨h1.1, by omega⟩
        | exact ⟨h2, h3⟩
        | (refine endS_iib (t := (readF s)) hr ?_
           rw [hR]; unfold fixRead; simp_all)
  · cases hF

-- impl.ReadInterval
theorem impl_ReadInterval_readIv_ok : Fn Tryz.prog 6 F_readIv := by
  refine fn_of_go (O := orc [⟨36, F_whole, .inl impl_Whole_whole_ok⟩, ⟨37, F_cutPre, .inl strings_CutPrefix_cutPre_ok⟩, ⟨38, F_cutSuf, .inl strings_CutSuffix_cutSuf_ok⟩, ⟨39, F_cutTwo, .inl strings_Cut_cutTwo_ok⟩, ⟨40, F_readFix, .inl impl_ReadFix_readFix_ok⟩, ⟨41, F_okI, .inl impl_ValidInterval_okI_ok⟩]) mixed T_ok (orc_sound _) Tryz.func6 (by kernel_rfl) rfl Tryz.ntmps6 (by kernel_rfl) Tryz.results6 ?_
  intro args g pre r new hF hpre
  unfold F_readIv at hF
  split at hF
  · rename_i s
    simp only [Option.some.injEq, Prod.mk.injEq] at hF
    obtain ⟨rfl, hr, rfl⟩ := hF
    refine ⟨by simp, ?_⟩
    obtain ⟨s, rfl⟩ : ∃ l, s = bs l := ⟨_, (bs_of s).symm⟩
    try simp only [bs_data] at hpre
    try simp only [bs_data] at hr
    by_cases hw : s = wholeL
    · have f0 : decide (s = [119, 104, 111, 108, 101]) = true := by simpa [wholeL] using hw
      simp (config := { maxSteps := 4000000, implicitDefEqProofs := false }) only [F_cutPre_eq, F_cutSuf_eq, F_cutTwo_eq, F_okI_eq, F_readFix_eq, F_whole_eq, WK0, WK1, WK2, WK3, WK4, WK5, WK6, WK7, WK8, WK9, WK10, WK11, WK12, WK13, WK14, WK15, WK16, WK17, WK18, WK19, WK20, WK21, WK22, WK23, WK24, WK25, WK26, WK27, WK28, WK29, WK30, look_hit, look_miss, List.map_cons, List.map_nil, Nat.add_zero, max_v, min_v, ↓cnd_t, ↓cnd_f, ↓grd_b, ↓grd_u, startEnv, Option.map_some, List.length_nil, List.length_cons, List.nil_append, List.cons_append, List.getElem?_cons_zero, List.getElem?_cons_succ, List.set_cons_zero, List.set_cons_succ, Bool.not_true, Bool.not_false, reduceIte, Nat.reduceEqDiff, Nat.reduceAdd, Nat.reduceLT, blt_lit, beq_lit, Bool.or_true, Bool.true_or, Bool.or_false, Bool.false_or, Bool.and_true, Bool.true_and, Bool.and_self, cond_true, cond_false, List.append_nil, Iv.eta, Option.map_none, idxO_l0, idxO_l1, decide_true, decide_false, reqs_true, Int.zero_sub, wrap_lit, wrapu_lit, Int.reduceLE, Int.reduceLT, Int.reduceAdd, Int.reduceSub, Int.reduceMul, Int.reduceNeg, Int.reduceEq, Option.bind_some, bin_shr_u64, bin_shl_u64, bin_shr_i64, bin_shl_i64, and_m32', Int.reduceToNat, Int.reducePow, Int.reduceMod, Int.reduceDiv, wrap_u64s, true_or, or_true, true_and, and_true, Option.isSome_none, Option.isSome_some, Nat.reduceLeDiff, Nat.reduceMul, Int.toNat_natCast, Int.cast_ofNat_Int, Int.natCast_zero, Int.natCast_one, List.isEmpty_nil, List.isEmpty_cons, List.replicate_zero, List.replicate_succ, T1, T2, T3, T4, T5, T6, T9, T10, T11, T12, T21, T22, T23, T25, T26, T27, T28, T29, T30, T32, T33, T34, T35, T36, T37, T38, T39, T40, T41, T42, T43, T44, T46, T48, T50, T52, T53, T54, T55, T56, T57, T58, T59, T61, T62, T63, T64, T65, T66, T67, T68, T69, T70, T71, T72, T73, T74, T75, T76, T77, T78, T79, T80, T81, T82, T83, T84, T85, T87, T89, T91, T92, T93, T95, T96, T97, T98, T102, T103, T105, T107, T108, T109, T110, T112, T116, T120, T121, T122, T123, T124, T125, T126, T128, T130, T131, T132, T134, T135, T136, T137, T138, T140, T142, T143, T145, T146, T148, T149, T150, T152, T153, T154, T155, T156, T163, T164, T165, T166, T167, f0]
      repeat' (first | with_reducible refine cnd_split (fun hc => ?_) (fun hc => ?_) | with_reducible refine Reqs.mk ?_ ?_)
      all_goals first
        | trivial
        | (refine endS_vb (t := (ivI s)) hr ?_
           unfold ivI; rw [if_pos hw])
    · have f0 : decide (s = [119, 104, 111, 108, 101]) = false := by simpa [wholeL] using hw
      obtain ⟨i1, hA⟩ : ∃ i1, Lib.trimPrefix s [91] = i1 := ⟨_, rfl⟩
      obtain ⟨i2, hB⟩ : ∃ i2, Lib.trimSuffix i1 [93] = i2 := ⟨_, rfl⟩
      obtain ⟨x, y, o3, hC⟩ : ∃ x y o3, Lib.cut i2 [44, 32] = (x, y, o3) := ⟨_, _, _, rfl⟩
      obtain ⟨xl, xh, xo, hX⟩ : ∃ xl xh xo, readF x = (xl, xh, xo) := ⟨_, _, _, rfl⟩
      obtain ⟨yl, yh, yo, hY⟩ : ∃ yl yh yo, readF y = (yl, yh, yo) := ⟨_, _, _, rfl⟩
      have k1 := pre_len s [91]
      rw [hA] at k1
      have k2 := suf_len i1 [93]
      rw [hB] at k2
      have k3 := cut_len i2 [44, 32]
      rw [hC] at k3
      simp only at k3
      have hR : ivI s = if !Lib.hasPrefix s [91] || (!Lib.hasSuffix i1 [93] || (!o3 || (!xo || (!yo || !okI ⟨xl, yh⟩)))) then (⟨0, 0⟩, false) else (⟨xl, yh⟩, true) := by
        unfold ivI; rw [if_neg hw]; simp only [hA, hB, hC, hX, hY]
      simp (config := { maxSteps := 4000000, implicitDefEqProofs := false }) only [F_cutPre_eq, F_cutSuf_eq, F_cutTwo_eq, F_okI_eq, F_readFix_eq, F_whole_eq, WK0, WK1, WK2, WK3, WK4, WK5, WK6, WK7, WK8, WK9, WK10, WK11, WK12, WK13, WK14, WK15, WK16, WK17, WK18, WK19, WK20, WK21, WK22, WK23, WK24, WK25, WK26, WK27, WK28, WK29, WK30, look_hit, look_miss, List.map_cons, List.map_nil, Nat.add_zero, max_v, min_v, ↓cnd_t, ↓cnd_f, ↓grd_b, ↓grd_u, startEnv, Option.map_some, List.length_nil, List.length_cons, List.nil_append, List.cons_append, List.getElem?_cons_zero, List.getElem?_cons_succ, List.set_cons_zero, List.set_cons_succ, Bool.not_true, Bool.not_false, reduceIte, Nat.reduceEqDiff, Nat.reduceAdd, Nat.reduceLT, blt_lit, beq_lit, Bool.or_true, Bool.true_or, Bool.or_false, Bool.false_or, Bool.and_true, Bool.true_and, Bool.and_self, cond_true, cond_false, List.append_nil, Iv.eta, Option.map_none, idxO_l0, idxO_l1, decide_true, decide_false, reqs_true, Int.zero_sub, wrap_lit, wrapu_lit, Int.reduceLE, Int.reduceLT, Int.reduceAdd, Int.reduceSub, Int.reduceMul, Int.reduceNeg, Int.reduceEq, Option.bind_some, bin_shr_u64, bin_shl_u64, bin_shr_i64, bin_shl_i64, and_m32', Int.reduceToNat, Int.reducePow, Int.reduceMod, Int.reduceDiv, wrap_u64s, true_or, or_true, true_and, and_true, Option.isSome_none, Option.isSome_some, Nat.reduceLeDiff, Nat.reduceMul, Int.toNat_natCast, Int.cast_ofNat_Int, Int.natCast_zero, Int.natCast_one, List.isEmpty_nil, List.isEmpty_cons, List.replicate_zero, List.replicate_succ, T1, T2, T3, T4, T5, T6, T9, T10, T11, T12, T21, T22, T23, T25, T26, T27, T28, T29, T30, T32, T33, T34, T35, T36, T37, T38, T39, T40, T41, T42, T43, T44, T46, T48, T50, T52, T53, T54, T55, T56, T57, T58, T59, T61, T62, T63, T64, T65, T66, T67, T68, T69, T70, T71, T72, T73, T74, T75, T76, T77, T78, T79, T80, T81, T82, T83, T84, T85, T87, T89, T91, T92, T93, T95, T96, T97, T98, T102, T103, T105, T107, T108, T109, T110, T112, T116, T120, T121, T122, T123, T124, T125, T126, T128, T130, T131, T132, T134, T135, T136, T137, T138, T140, T142, T143, T145, T146, T148, T149, T150, T152, T153, T154, T155, T156, T163, T164, T165, T166, T167, f0, hA, hB, hC, hX, hY]
      repeat' (first | with_reducible refine cnd_split (fun hc => ?_) (fun hc => ?_) | with_reducible refine Reqs.mk ?_ ?_)
      all_goals first
        | trivial
        | omega
        | (refine endS_vb (t := (ivI s)) hr ?_
           rw [hR]
           simp_all; done)
  · cases hF

end Go.Proofs.YtcnapkdccjibpaaGreatDoor.Eng
