/- What functions of the program compute, and that the program computes it: part 30. -/
import Derived.Test.YtcnapkdccjibpaaGreatDoorTab
import Derived.Test.YtcnapkdccjibpaaGreatDoorEng16
import Derived.Laws.BitsLemmas
import Derived.Laws.Bits64
import Derived.Laws.Bits64b
import Derived.Lib.Mul64
import Derived.Lib.BitFns
import Derived.Laws.Externs
import Derived.Test.YtcnapkdccjibpaaGreatDoorL1
import Derived.Test.YtcnapkdccjibpaaGreatDoorL19
import Derived.Test.YtcnapkdccjibpaaGreatDoorL20
import Derived.Test.YtcnapkdccjibpaaGreatDoorL24
import Derived.Test.YtcnapkdccjibpaaGreatDoorL25
import Derived.Test.YtcnapkdccjibpaaGreatDoorL26
import Derived.Test.YtcnapkdccjibpaaGreatDoorL29
namespace Go.Proofs.YtcnapkdccjibpaaGreatDoor.Eng
open Go Go.RowKit
set_option linter.unusedVariables false
set_option linter.unusedSimpArgs false
set_option maxRecDepth 100000
set_option maxHeartbeats 1000000
-- spec.l03Read
theorem spec_l03Read_readS_ok : Fn Tryz.prog 62 F_readS := by
  refine fn_of_go (O := orc [⟨83, F_digit, .inl spec_l01Digit_digit_ok⟩, ⟨84, F_units, .inl spec_l03Units_units_ok⟩]) mixed T_ok (orc_sound _) Tryz.func62 (by kernel_rfl) rfl Tryz.ntmps62 (by kernel_rfl) Tryz.results62 ?_
  intro args g pre r new hF hpre
  unfold F_readS at hF
  split at hF
  · rename_i s
    simp only [Option.some.injEq, Prod.mk.injEq] at hF
    obtain ⟨rfl, hr, rfl⟩ := hF
    refine ⟨by simp, ?_⟩
    obtain ⟨s, rfl⟩ : ∃ l, s = bs l := ⟨_, (bs_of s).symm⟩
    try simp only [bs_data] at hpre
    try simp only [bs_data] at hr
    have hsl : shortL s = true := shortL_of (by omega)
    simp (config := { maxSteps := 4000000, implicitDefEqProofs := false }) only [F_digit_eq, F_units_eq, WK0, WK1, WK2, WK3, WK4, WK5, WK6, WK7, WK8, WK9, WK10, WK11, WK12, WK13, WK14, WK15, WK16, WK17, WK18, WK19, WK20, WK21, WK22, WK23, WK24, WK25, WK26, WK27, WK28, WK29, WK30, look_hit, look_miss, List.map_cons, List.map_nil, Nat.add_zero, max_v, min_v, ↓cnd_t, ↓cnd_f, ↓grd_b, ↓grd_u, startEnv, Option.map_some, List.length_nil, List.length_cons, List.nil_append, List.cons_append, List.getElem?_cons_zero, List.getElem?_cons_succ, List.set_cons_zero, List.set_cons_succ, Bool.not_true, Bool.not_false, reduceIte, Nat.reduceEqDiff, Nat.reduceAdd, Nat.reduceLT, blt_lit, beq_lit, Bool.or_true, Bool.true_or, Bool.or_false, Bool.false_or, Bool.and_true, Bool.true_and, Bool.and_self, cond_true, cond_false, List.append_nil, Iv.eta, Option.map_none, idxO_l0, idxO_l1, decide_true, decide_false, reqs_true, Int.zero_sub, wrap_lit, wrapu_lit, Int.reduceLE, Int.reduceLT, Int.reduceAdd, Int.reduceSub, Int.reduceMul, Int.reduceNeg, Int.reduceEq, Option.bind_some, bin_shr_u64, bin_shl_u64, bin_shr_i64, bin_shl_i64, and_m32', Int.reduceToNat, Int.reducePow, Int.reduceMod, Int.reduceDiv, wrap_u64s, true_or, or_true, true_and, and_true, Option.isSome_none, Option.isSome_some, Nat.reduceLeDiff, Nat.reduceMul, Int.toNat_natCast, Int.cast_ofNat_Int, Int.natCast_zero, Int.natCast_one, List.isEmpty_nil, List.isEmpty_cons, List.replicate_zero, List.replicate_succ, T1, T2, T3, T4, T5, T6, T9, T10, T11, T12, T21, T22, T23, T25, T26, T27, T28, T29, T30, T32, T33, T34, T35, T36, T37, T38, T39, T40, T41, T42, T43, T44, T46, T48, T50, T52, T53, T54, T55, T56, T57, T58, T59, T61, T62, T63, T64, T65, T66, T67, T68, T69, T70, T71, T72, T73, T74, T75, T76, T77, T78, T79, T80, T81, T82, T83, T84, T85, T87, T89, T91, T92, T93, T95, T96, T97, T98, T102, T103, T105, T107, T108, T109, T110, T112, T116, T120, T121, T122, T123, T124, T125, T126, T128, T130, T131, T132, T134, T135, T136, T137, T138, T140, T142, T143, T145, T146, T148, T149, T150, T152, T153, T154, T155, T156, T163, T164, T165, T166, T167, hsl]
    refine loop_then (i := 0) (fun e h => look e 0 = some (.v (.c (.p (.str (bs s))))) ∧ look e 5 = some (.v (.c (.p (.int .i64 (digsS s))))) ∧ look e 6 = some (.v (.c (.p (.str (bs (bodyS s))))))) (fun Q' hQ => ?_) (fun e h hm => ?_)
    · refine go_loop (α := Nat) (fun j => j) (fun j e h => look e 0 = some (.v (.c (.p (.str (bs s))))) ∧ look e 5 = some (.v (.c (.p (.int .i64 0)))) ∧ look e 6 = some (.v (.c (.p (.str (bs s))))) ∧ look e 7 = some (.v (.c (.p (.int .i64 ((s.length : Int) - (j : Int)))))) ∧ j ≤ s.length ∧ ∀ x ∈ s.take (s.length - j), x ≠ 46) s.length ⟨rfl, rfl, rfl, ?_, Nat.le_refl _, by simp⟩ ?_
      · show some (SV.v (.c (.p (.int .i64 0)))) = _
        congr 5; omega
      · rintro X j e h ⟨e0, e5, e6, e7, hj, hn⟩ hX
        cases j with
        | zero =>
          obtain ⟨C, eC⟩ : ∃ C : Int, (s.length : Int) - ((0 : Nat) : Int) = C := ⟨_, rfl⟩
          rw [eC] at e7
          have d0 : decide (C < (s.length : Int)) = false := by simp only [decide_eq_false_iff_not]; omega
          rw [Nat.sub_zero, List.take_length] at hn
          have hd := dotAt_none hn
          simp (config := { maxSteps := 4000000, implicitDefEqProofs := false }) only [F_digit_eq, F_units_eq, WK0, WK1, WK2, WK3, WK4, WK5, WK6, WK7, WK8, WK9, WK10, WK11, WK12, WK13, WK14, WK15, WK16, WK17, WK18, WK19, WK20, WK21, WK22, WK23, WK24, WK25, WK26, WK27, WK28, WK29, WK30, look_hit, look_miss, List.map_cons, List.map_nil, Nat.add_zero, max_v, min_v, ↓cnd_t, ↓cnd_f, ↓grd_b, ↓grd_u, startEnv, Option.map_some, List.length_nil, List.length_cons, List.nil_append, List.cons_append, List.getElem?_cons_zero, List.getElem?_cons_succ, List.set_cons_zero, List.set_cons_succ, Bool.not_true, Bool.not_false, reduceIte, Nat.reduceEqDiff, Nat.reduceAdd, Nat.reduceLT, blt_lit, beq_lit, Bool.or_true, Bool.true_or, Bool.or_false, Bool.false_or, Bool.and_true, Bool.true_and, Bool.and_self, cond_true, cond_false, List.append_nil, Iv.eta, Option.map_none, idxO_l0, idxO_l1, decide_true, decide_false, reqs_true, Int.zero_sub, wrap_lit, wrapu_lit, Int.reduceLE, Int.reduceLT, Int.reduceAdd, Int.reduceSub, Int.reduceMul, Int.reduceNeg, Int.reduceEq, Option.bind_some, bin_shr_u64, bin_shl_u64, bin_shr_i64, bin_shl_i64, and_m32', Int.reduceToNat, Int.reducePow, Int.reduceMod, Int.reduceDiv, wrap_u64s, true_or, or_true, true_and, and_true, Option.isSome_none, Option.isSome_some, Nat.reduceLeDiff, Nat.reduceMul, Int.toNat_natCast, Int.cast_ofNat_Int, Int.natCast_zero, Int.natCast_one, List.isEmpty_nil, List.isEmpty_cons, List.replicate_zero, List.replicate_succ, T1, T2, T3, T4, T5, T6, T9, T10, T11, T12, T21, T22, T23, T25, T26, T27, T28, T29, T30, T32, T33, T34, T35, T36, T37, T38, T39, T40, T41, T42, T43, T44, T46, T48, T50, T52, T53, T54, T55, T56, T57, T58, T59, T61, T62, T63, T64, T65, T66, T67, T68, T69, T70, T71, T72, T73, T74, T75, T76, T77, T78, T79, T80, T81, T82, T83, T84, T85, T87, T89, T91, T92, T93, T95, T96, T97, T98, T102, T103, T105, T107, T108, T109, T110, T112, T116, T120, T121, T122, T123, T124, T125, T126, T128, T130, T131, T132, T134, T135, T136, T137, T138, T140, T142, T143, T145, T146, T148, T149, T150, T152, T153, T154, T155, T156, T163, T164, T165, T166, T167, e0, e5, e6, e7, d0]
          refine hQ _ _ ⟨?_, ?_, ?_⟩
          all_goals (try simp only [look])
          · simp [e0]
          · simp [e5, digsS, hd]
          · simp [e6, bodyS, hd]
        | succ j =>
          obtain ⟨K, eK⟩ : ∃ K : Nat, s.length - (j + 1) = K := ⟨_, rfl⟩
          obtain ⟨C, eC⟩ : ∃ C : Int, (s.length : Int) - ((j + 1 : Nat) : Int) = C := ⟨_, rfl⟩
          have hCK : C = (K : Int) := by omega
          have hK : K < s.length := by omega
          obtain ⟨b, hb⟩ : ∃ b, s[K]? = some b := ⟨_, List.getElem?_eq_getElem hK⟩
          rw [eC] at e7
          rw [eK] at hn
          obtain ⟨B, eB⟩ : ∃ B : Int, (b.toNat : Int) = B := ⟨_, rfl⟩
          have d0 : decide (C < (s.length : Int)) = true := by simp only [decide_eq_true_eq]; omega
          have i1 : ∀ hh : Heap, idxO hh (some tdStr) (some (.c (.p (.str (bs s))))) (some (.int .i64 C)) = some (some (sp (.int .u8 B)), hh) := by
            intro hh
            rw [← eB]
            exact idx_txt (by omega) (by rw [hCK]; simpa using hb)
          have w5 : IntKind.i64.wrap (C + 1) = C + 1 := wrap_om (by omega) (by omega)
          by_cases hB : b = 46
          · have hB2 : decide (B = 46) = true := by subst hB; rw [← eB]; rfl
            have hd := dot_found (by rw [hb, hB]) hn
            have w1 : IntKind.i64.wrap ((s.length : Int) - 1) = (s.length : Int) - 1 := wrap_om (by omega) (by omega)
            have w2 : IntKind.i64.wrap ((s.length : Int) - 1 - C) = digsS s := by
              rw [wrap_om (by omega) (by omega)]; unfold digsS; rw [hd]; simp only; omega
            have t1 : ∀ hh : Heap, slcO hh (some tdStr) (some (.c (.p (.str (bs s))))) (some none) (some (some C)) (some none) = some (some (.v (.c (.p (.str (bs (s.take K)))))), hh) := by
              intro hh
              rw [slc_to (by omega) (by omega), hCK]; simp
            have t2 : ∀ hh : Heap, slcO hh (some tdStr) (some (.c (.p (.str (bs s))))) (some (some (C + 1))) (some none) (some none) = some (some (.v (.c (.p (.str (bs (s.drop (K + 1))))))), hh) := by
              intro hh
              rw [slc_from (by omega) (by omega), show (C + 1).toNat = K + 1 by omega]
            have q1 : shortL (s.take K) = true := shortL_of (by simp; omega)
            have q2 : shortL (s.drop (K + 1)) = true := shortL_of (by simp; omega)
            have hbd : s.take K ++ s.drop (K + 1) = bodyS s := by unfold bodyS; rw [hd]
            simp (config := { maxSteps := 4000000, implicitDefEqProofs := false }) only [F_digit_eq, F_units_eq, WK0, WK1, WK2, WK3, WK4, WK5, WK6, WK7, WK8, WK9, WK10, WK11, WK12, WK13, WK14, WK15, WK16, WK17, WK18, WK19, WK20, WK21, WK22, WK23, WK24, WK25, WK26, WK27, WK28, WK29, WK30, look_hit, look_miss, List.map_cons, List.map_nil, Nat.add_zero, max_v, min_v, ↓cnd_t, ↓cnd_f, ↓grd_b, ↓grd_u, startEnv, Option.map_some, List.length_nil, List.length_cons, List.nil_append, List.cons_append, List.getElem?_cons_zero, List.getElem?_cons_succ, List.set_cons_zero, List.set_cons_succ, Bool.not_true, Bool.not_false, reduceIte, Nat.reduceEqDiff, Nat.reduceAdd, Nat.reduceLT, blt_lit, beq_lit, Bool.or_true, Bool.true_or, Bool.or_false, Bool.false_or, Bool.and_true, Bool.true_and, Bool.and_self, cond_true, cond_false, List.append_nil, Iv.eta, Option.map_none, idxO_l0, idxO_l1, decide_true, decide_false, reqs_true, Int.zero_sub, wrap_lit, wrapu_lit, Int.reduceLE, Int.reduceLT, Int.reduceAdd, Int.reduceSub, Int.reduceMul, Int.reduceNeg, Int.reduceEq, Option.bind_some, bin_shr_u64, bin_shl_u64, bin_shr_i64, bin_shl_i64, and_m32', Int.reduceToNat, Int.reducePow, Int.reduceMod, Int.reduceDiv, wrap_u64s, true_or, or_true, true_and, and_true, Option.isSome_none, Option.isSome_some, Nat.reduceLeDiff, Nat.reduceMul, Int.toNat_natCast, Int.cast_ofNat_Int, Int.natCast_zero, Int.natCast_one, List.isEmpty_nil, List.isEmpty_cons, List.replicate_zero, List.replicate_succ, T1, T2, T3, T4, T5, T6, T9, T10, T11, T12, T21, T22, T23, T25, T26, T27, T28, T29, T30, T32, T33, T34, T35, T36, T37, T38, T39, T40, T41, T42, T43, T44, T46, T48, T50, T52, T53, T54, T55, T56, T57, T58, T59, T61, T62, T63, T64, T65, T66, T67, T68, T69, T70, T71, T72, T73, T74, T75, T76, T77, T78, T79, T80, T81, T82, T83, T84, T85, T87, T89, T91, T92, T93, T95, T96, T97, T98, T102, T103, T105, T107, T108, T109, T110, T112, T116, T120, T121, T122, T123, T124, T125, T126, T128, T130, T131, T132, T134, T135, T136, T137, T138, T140, T142, T143, T145, T146, T148, T149, T150, T152, T153, T154, T155, T156, T163, T164, T165, T166, T167, e0, e5, e6, e7, d0, i1, hB2, w1, w2, w5, t1, t2, q1, q2, hbd]
            refine hQ _ _ ⟨?_, ?_, ?_⟩
            all_goals (try simp only [look])
            all_goals simp [e0]
          · have hB2 : decide (B = 46) = false := by
              simp only [decide_eq_false_iff_not]
              intro h2
              exact hB (UInt8.toNat_inj.1 (by rw [← eB] at h2; have : b.toNat = 46 := by omega
                                              rw [this]; rfl))
            simp (config := { maxSteps := 4000000, implicitDefEqProofs := false }) only [F_digit_eq, F_units_eq, WK0, WK1, WK2, WK3, WK4, WK5, WK6, WK7, WK8, WK9, WK10, WK11, WK12, WK13, WK14, WK15, WK16, WK17, WK18, WK19, WK20, WK21, WK22, WK23, WK24, WK25, WK26, WK27, WK28, WK29, WK30, look_hit, look_miss, List.map_cons, List.map_nil, Nat.add_zero, max_v, min_v, ↓cnd_t, ↓cnd_f, ↓grd_b, ↓grd_u, startEnv, Option.map_some, List.length_nil, List.length_cons, List.nil_append, List.cons_append, List.getElem?_cons_zero, List.getElem?_cons_succ, List.set_cons_zero, List.set_cons_succ, Bool.not_true, Bool.not_false, reduceIte, Nat.reduceEqDiff, Nat.reduceAdd, Nat.reduceLT, blt_lit, beq_lit, Bool.or_true, Bool.true_or, Bool.or_false, Bool.false_or, Bool.and_true, Bool.true_and, Bool.and_self, cond_true, cond_false, List.append_nil, Iv.eta, Option.map_none, idxO_l0, idxO_l1, decide_true, decide_false, reqs_true, Int.zero_sub, wrap_lit, wrapu_lit, Int.reduceLE, Int.reduceLT, Int.reduceAdd, Int.reduceSub, Int.reduceMul, Int.reduceNeg, Int.reduceEq, Option.bind_some, bin_shr_u64, bin_shl_u64, bin_shr_i64, bin_shl_i64, and_m32', Int.reduceToNat, Int.reducePow, Int.reduceMod, Int.reduceDiv, wrap_u64s, true_or, or_true, true_and, and_true, Option.isSome_none, Option.isSome_some, Nat.reduceLeDiff, Nat.reduceMul, Int.toNat_natCast, Int.cast_ofNat_Int, Int.natCast_zero, Int.natCast_one, List.isEmpty_nil, List.isEmpty_cons, List.replicate_zero, List.replicate_succ, T1, T2, T3, T4, T5, T6, T9, T10, T11, T12, T21, T22, T23, T25, T26, T27, T28, T29, T30, T32, T33, T34, T35, T36, T37, T38, T39, T40, T41, T42, T43, T44, T46, T48, T50, T52, T53, T54, T55, T56, T57, T58, T59, T61, T62, T63, T64, T65, T66, T67, T68, T69, T70, T71, T72, T73, T74, T75, T76, T77, T78, T79, T80, T81, T82, T83, T84, T85, T87, T89, T91, T92, T93, T95, T96, T97, T98, T102, T103, T105, T107, T108, T109, T110, T112, T116, T120, T121, T122, T123, T124, T125, T126, T128, T130, T131, T132, T134, T135, T136, T137, T138, T140, T142, T143, T145, T146, T148, T149, T150, T152, T153, T154, T155, T156, T163, T164, T165, T166, T167, e0, e5, e6, e7, d0, i1, hB2, w5]
            refine hX j _ _ (Nat.lt_succ_self j) ⟨?_, ?_, ?_, ?_, by omega, ?_⟩
            · simp only [look]; simp [e0]
            · simp only [look]; simp [e5]
            · simp only [look]; simp [e6]
            · simp only [look]; simp; omega
            · rw [show s.length - j = K + 1 by omega, take_snoc hb]
              intro x hx
              rw [List.mem_append] at hx
              rcases hx with hx | hx
              · exact hn x hx
              · simp at hx; subst hx; exact hB
    · obtain ⟨e0, e5, e6⟩ := hm
      obtain ⟨D, hD⟩ : ∃ D, digsS s = D := ⟨_, rfl⟩
      obtain ⟨Bd, hBd⟩ : ∃ Bd, bodyS s = Bd := ⟨_, rfl⟩
      have hD0 := digsS_nn s
      have hBl : Bd.length ≤ 1048576 := by
        rw [← hBd]; unfold bodyS; split
        · rw [List.length_append, List.length_take, List.length_drop]; omega
        · exact hpre
      rw [hD] at e5 hD0
      rw [hBd] at e6
      obtain ⟨L, hL⟩ : ∃ L, restS Bd = L := ⟨_, rfl⟩
      obtain ⟨sg, hS⟩ : ∃ sg, signS Bd = sg := ⟨_, rfl⟩
      have hsg : sg = 1 ∨ sg = -1 := by rw [← hS]; unfold signS; split <;> simp
      have hPS : parseS s = if decide (9 < D) || decide (18 < (L.length : Int)) then (0, 0, false) else if !L.all digB then (0, 0, false) else if unitsL (valL 0 L * sg) D ≠ s then (0, 0, false) else (valL 0 L * sg, D, true) := by
        unfold parseS; simp only [hBd, hD, hL, hS]
      cases Bd with
      | nil =>
        have k1 : L = [] := by rw [← hL]; rfl
        have k2 : sg = 1 := by rw [← hS]; rfl
        have d0 : (!decide (([] : List UInt8) = [])) = false := by decide
        have kl : ([] : List UInt8).length = L.length := by rw [k1]
        simp (config := { maxSteps := 4000000, implicitDefEqProofs := false }) only [F_digit_eq, F_units_eq, WK0, WK1, WK2, WK3, WK4, WK5, WK6, WK7, WK8, WK9, WK10, WK11, WK12, WK13, WK14, WK15, WK16, WK17, WK18, WK19, WK20, WK21, WK22, WK23, WK24, WK25, WK26, WK27, WK28, WK29, WK30, look_hit, look_miss, List.map_cons, List.map_nil, Nat.add_zero, max_v, min_v, ↓cnd_t, ↓cnd_f, ↓grd_b, ↓grd_u, startEnv, Option.map_some, List.length_nil, List.length_cons, List.nil_append, List.cons_append, List.getElem?_cons_zero, List.getElem?_cons_succ, List.set_cons_zero, List.set_cons_succ, Bool.not_true, Bool.not_false, reduceIte, Nat.reduceEqDiff, Nat.reduceAdd, Nat.reduceLT, blt_lit, beq_lit, Bool.or_true, Bool.true_or, Bool.or_false, Bool.false_or, Bool.and_true, Bool.true_and, Bool.and_self, cond_true, cond_false, List.append_nil, Iv.eta, Option.map_none, idxO_l0, idxO_l1, decide_true, decide_false, reqs_true, Int.zero_sub, wrap_lit, wrapu_lit, Int.reduceLE, Int.reduceLT, Int.reduceAdd, Int.reduceSub, Int.reduceMul, Int.reduceNeg, Int.reduceEq, Option.bind_some, bin_shr_u64, bin_shl_u64, bin_shr_i64, bin_shl_i64, and_m32', Int.reduceToNat, Int.reducePow, Int.reduceMod, Int.reduceDiv, wrap_u64s, true_or, or_true, true_and, and_true, Option.isSome_none, Option.isSome_some, Nat.reduceLeDiff, Nat.reduceMul, Int.toNat_natCast, Int.cast_ofNat_Int, Int.natCast_zero, Int.natCast_one, List.isEmpty_nil, List.isEmpty_cons, List.replicate_zero, List.replicate_succ, T1, T2, T3, T4, T5, T6, T9, T10, T11, T12, T21, T22, T23, T25, T26, T27, T28, T29, T30, T32, T33, T34, T35, T36, T37, T38, T39, T40, T41, T42, T43, T44, T46, T48, T50, T52, T53, T54, T55, T56, T57, T58, T59, T61, T62, T63, T64, T65, T66, T67, T68, T69, T70, T71, T72, T73, T74, T75, T76, T77, T78, T79, T80, T81, T82, T83, T84, T85, T87, T89, T91, T92, T93, T95, T96, T97, T98, T102, T103, T105, T107, T108, T109, T110, T112, T116, T120, T121, T122, T123, T124, T125, T126, T128, T130, T131, T132, T134, T135, T136, T137, T138, T140, T142, T143, T145, T146, T148, T149, T150, T152, T153, T154, T155, T156, T163, T164, T165, T166, T167, e0, e5, e6, d0]
        have e6 : look e 6 = some (.v (.c (.p (.str (bs L))))) := by rw [k1]; exact e6
        repeat' (first | with_reducible refine cnd_split (fun hc => ?_) (fun hc => ?_) | with_reducible refine Reqs.mk ?_ ?_)
        all_goals first
          | trivial
          | (refine endS_iib (t := (parseS s)) hr ?_
             rw [hPS]
             simp_all; done)
          | skip
        have c1 : decide (9 < D) = false := by assumption
        have c2 : decide (18 < (L.length : Int)) = false := by first | assumption | (rw [k1]; first | assumption | decide | (simp only [List.length_cons]; assumption))
        have hPS2 : parseS s = if !L.all digB then (0, 0, false) else if unitsL (valL 0 L * sg) D ≠ s then (0, 0, false) else (valL 0 L * sg, D, true) := by
          rw [hPS, c1, c2, if_neg (by decide)]
        simp only [decide_eq_false_iff_not] at c1 c2
        refine loop_ret (i := 2) (fun e h => look e 0 = some (.v (.c (.p (.str (bs s))))) ∧ look e 5 = some (.v (.c (.p (.int .i64 D)))) ∧ look e 8 = some (.v (.c (.p (.int .i64 sg)))) ∧ look e 9 = some (.v (.c (.p (.int .i64 (valL 0 L))))) ∧ L.all digB = true) (fun e h => look e 2 = some (.v (.c (.p (.int .i64 0)))) ∧ look e 3 = some (.v (.c (.p (.int .i64 0)))) ∧ look e 4 = some (.v (.c (.p (.bool false)))) ∧ L.all digB = false) (fun Q' hQ hR => ?_) (fun e h hm => ?_) (fun e h hm => ?_)
        · refine go_loop (α := Nat) (fun j => j) (fun j e h => look e 0 = some (.v (.c (.p (.str (bs s))))) ∧ look e 5 = some (.v (.c (.p (.int .i64 D)))) ∧ look e 8 = some (.v (.c (.p (.int .i64 sg)))) ∧ look e 6 = some (.v (.c (.p (.str (bs L))))) ∧ look e 10 = some (.v (.c (.p (.int .i64 ((L.length : Int) - (j : Int)))))) ∧ look e 9 = some (.v (.c (.p (.int .i64 (valL 0 (L.take (L.length - j))))))) ∧ j ≤ L.length ∧ (L.take (L.length - j)).all digB = true) L.length ⟨?_, ?_, ?_, ?_, ?_, ?_, Nat.le_refl _, by simp⟩ ?_
          · simp only [look]; simp [e0]
          · simp only [look]; simp [e5]
          · simp only [look]; simp [k2]
          · simp only [look]; simp [e6, k1]
          · simp only [look]; simp
          · simp only [look]; simp [valL]
          · rintro X j e h ⟨f0, f5, f8, f6, f10, f9, hj, hn⟩ hX
            cases j with
            | zero =>
              obtain ⟨C, eC⟩ : ∃ C : Int, (L.length : Int) - ((0 : Nat) : Int) = C := ⟨_, rfl⟩
              rw [eC] at f10
              have d0 : decide (C < (L.length : Int)) = false := by simp only [decide_eq_false_iff_not]; omega
              rw [Nat.sub_zero, List.take_length] at hn f9
              simp (config := { maxSteps := 4000000, implicitDefEqProofs := false }) only [F_digit_eq, F_units_eq, WK0, WK1, WK2, WK3, WK4, WK5, WK6, WK7, WK8, WK9, WK10, WK11, WK12, WK13, WK14, WK15, WK16, WK17, WK18, WK19, WK20, WK21, WK22, WK23, WK24, WK25, WK26, WK27, WK28, WK29, WK30, look_hit, look_miss, List.map_cons, List.map_nil, Nat.add_zero, max_v, min_v, ↓cnd_t, ↓cnd_f, ↓grd_b, ↓grd_u, startEnv, Option.map_some, List.length_nil, List.length_cons, List.nil_append, List.cons_append, List.getElem?_cons_zero, List.getElem?_cons_succ, List.set_cons_zero, List.set_cons_succ, Bool.not_true, Bool.not_false, reduceIte, Nat.reduceEqDiff, Nat.reduceAdd, Nat.reduceLT, blt_lit, beq_lit, Bool.or_true, Bool.true_or, Bool.or_false, Bool.false_or, Bool.and_true, Bool.true_and, Bool.and_self, cond_true, cond_false, List.append_nil, Iv.eta, Option.map_none, idxO_l0, idxO_l1, decide_true, decide_false, reqs_true, Int.zero_sub, wrap_lit, wrapu_lit, Int.reduceLE, Int.reduceLT, Int.reduceAdd, Int.reduceSub, Int.reduceMul, Int.reduceNeg, Int.reduceEq, Option.bind_some, bin_shr_u64, bin_shl_u64, bin_shr_i64, bin_shl_i64, and_m32', Int.reduceToNat, Int.reducePow, Int.reduceMod, Int.reduceDiv, wrap_u64s, true_or, or_true, true_and, and_true, Option.isSome_none, Option.isSome_some, Nat.reduceLeDiff, Nat.reduceMul, Int.toNat_natCast, Int.cast_ofNat_Int, Int.natCast_zero, Int.natCast_one, List.isEmpty_nil, List.isEmpty_cons, List.replicate_zero, List.replicate_succ, T1, T2, T3, T4, T5, T6, T9, T10, T11, T12, T21, T22, T23, T25, T26, T27, T28, T29, T30, T32, T33, T34, T35, T36, T37, T38, T39, T40, T41, T42, T43, T44, T46, T48, T50, T52, T53, T54, T55, T56, T57, T58, T59, T61, T62, T63, T64, T65, T66, T67, T68, T69, T70, T71, T72, T73, T74, T75, T76, T77, T78, T79, T80, T81, T82, T83, T84, T85, T87, T89, T91, T92, T93, T95, T96, T97, T98, T102, T103, T105, T107, T108, T109, T110, T112, T116, T120, T121, T122, T123, T124, T125, T126, T128, T130, T131, T132, T134, T135, T136, T137, T138, T140, T142, T143, T145, T146, T148, T149, T150, T152, T153, T154, T155, T156, T163, T164, T165, T166, T167, f0, f5, f8, f6, f10, f9, d0]
              refine hQ _ _ ⟨?_, ?_, ?_, ?_, hn⟩
              all_goals (try simp only [look])
              all_goals simp [f0, f5, f8, f9]
            | succ j =>
              obtain ⟨K, eK⟩ : ∃ K : Nat, L.length - (j + 1) = K := ⟨_, rfl⟩
              obtain ⟨C, eC⟩ : ∃ C : Int, (L.length : Int) - ((j + 1 : Nat) : Int) = C := ⟨_, rfl⟩
              have hCK : C = (K : Int) := by omega
              have hK : K < L.length := by omega
              obtain ⟨b, hb⟩ : ∃ b, L[K]? = some b := ⟨_, List.getElem?_eq_getElem hK⟩
              rw [eC] at f10
              rw [eK] at hn f9
              obtain ⟨B, eB⟩ : ∃ B : Int, (b.toNat : Int) = B := ⟨_, rfl⟩
              have d0 : decide (C < (L.length : Int)) = true := by simp only [decide_eq_true_eq]; omega
              have i1 : ∀ hh : Heap, idxO hh (some tdStr) (some (.c (.p (.str (bs L))))) (some (.int .i64 C)) = some (some (sp (.int .u8 B)), hh) := by
                intro hh
                rw [← eB]
                exact idx_txt (by omega) (by rw [hCK]; simpa using hb)
              have w5 : IntKind.i64.wrap (C + 1) = C + 1 := wrap_om (by omega) (by omega)
              have hdg := digit_b eB
              have hV := valL_in hn
              have ht : (L.take K).length = K := by rw [List.length_take]; omega
              rw [ht] at hV
              have hp9 := @pw10_mono (K : Int) 17 (by omega) (by omega) (by omega)
              have h17 : pw10 17 = 100000000000000000 := by decide
              obtain ⟨V, eV⟩ : ∃ V : Int, valL 0 (L.take K) = V := ⟨_, rfl⟩
              rw [eV] at hV f9
              cases hdb : digB b with
              | false =>
                rw [hdb] at hdg
                have hall : L.all digB = false := by
                  rw [Bool.eq_false_iff]
                  intro h2
                  rw [List.all_eq_true] at h2
                  rw [h2 b (List.mem_of_getElem? hb)] at hdb
                  cases hdb
                simp (config := { maxSteps := 4000000, implicitDefEqProofs := false }) only [F_digit_eq, F_units_eq, WK0, WK1, WK2, WK3, WK4, WK5, WK6, WK7, WK8, WK9, WK10, WK11, WK12, WK13, WK14, WK15, WK16, WK17, WK18, WK19, WK20, WK21, WK22, WK23, WK24, WK25, WK26, WK27, WK28, WK29, WK30, look_hit, look_miss, List.map_cons, List.map_nil, Nat.add_zero, max_v, min_v, ↓cnd_t, ↓cnd_f, ↓grd_b, ↓grd_u, startEnv, Option.map_some, List.length_nil, List.length_cons, List.nil_append, List.cons_append, List.getElem?_cons_zero, List.getElem?_cons_succ, List.set_cons_zero, List.set_cons_succ, Bool.not_true, Bool.not_false, reduceIte, Nat.reduceEqDiff, Nat.reduceAdd, Nat.reduceLT, blt_lit, beq_lit, Bool.or_true, Bool.true_or, Bool.or_false, Bool.false_or, Bool.and_true, Bool.true_and, Bool.and_self, cond_true, cond_false, List.append_nil, Iv.eta, Option.map_none, idxO_l0, idxO_l1, decide_true, decide_false, reqs_true, Int.zero_sub, wrap_lit, wrapu_lit, Int.reduceLE, Int.reduceLT, Int.reduceAdd, Int.reduceSub, Int.reduceMul, Int.reduceNeg, Int.reduceEq, Option.bind_some, bin_shr_u64, bin_shl_u64, bin_shr_i64, bin_shl_i64, and_m32', Int.reduceToNat, Int.reducePow, Int.reduceMod, Int.reduceDiv, wrap_u64s, true_or, or_true, true_and, and_true, Option.isSome_none, Option.isSome_some, Nat.reduceLeDiff, Nat.reduceMul, Int.toNat_natCast, Int.cast_ofNat_Int, Int.natCast_zero, Int.natCast_one, List.isEmpty_nil, List.isEmpty_cons, List.replicate_zero, List.replicate_succ, T1, T2, T3, T4, T5, T6, T9, T10, T11, T12, T21, T22, T23, T25, T26, T27, T28, T29, T30, T32, T33, T34, T35, T36, T37, T38, T39, T40, T41, T42, T43, T44, T46, T48, T50, T52, T53, T54, T55, T56, T57, T58, T59, T61, T62, T63, T64, T65, T66, T67, T68, T69, T70, T71, T72, T73, T74, T75, T76, T77, T78, T79, T80, T81, T82, T83, T84, T85, T87, T89, T91, T92, T93, T95, T96, T97, T98, T102, T103, T105, T107, T108, T109, T110, T112, T116, T120, T121, T122, T123, T124, T125, T126, T128, T130, T131, T132, T134, T135, T136, T137, T138, T140, T142, T143, T145, T146, T148, T149, T150, T152, T153, T154, T155, T156, T163, T164, T165, T166, T167, f0, f5, f8, f6, f10, f9, d0, i1, hdg]
                refine hR _ _ ⟨?_, ?_, ?_, hall⟩
                all_goals (try simp only [look])
                all_goals simp
              | true =>
                rw [hdb] at hdg
                have hdb2 := hdb
                simp only [digB, Bool.and_eq_true, decide_eq_true_eq] at hdb2
                have w1 : IntKind.u8.wrap (B - 48) = B - 48 := by rw [IntKind.wrap_u8]; omega
                have w2 : IntKind.i64.wrap (B - 48) = B - 48 := wrap_om (by omega) (by omega)
                have w3 : IntKind.i64.wrap (10 * V) = 10 * V := wrap_om (by omega) (by omega)
                have w4 : IntKind.i64.wrap (10 * V + (B - 48)) = 10 * V + (B - 48) := wrap_om (by omega) (by omega)
                have hst : valL 0 (L.take (L.length - j)) = 10 * V + (B - 48) := by
                  rw [show L.length - j = K + 1 by omega, take_snoc hb, valL_app, eV]
                  simp [valL, eB]
                simp (config := { maxSteps := 4000000, implicitDefEqProofs := false }) only [F_digit_eq, F_units_eq, WK0, WK1, WK2, WK3, WK4, WK5, WK6, WK7, WK8, WK9, WK10, WK11, WK12, WK13, WK14, WK15, WK16, WK17, WK18, WK19, WK20, WK21, WK22, WK23, WK24, WK25, WK26, WK27, WK28, WK29, WK30, look_hit, look_miss, List.map_cons, List.map_nil, Nat.add_zero, max_v, min_v, ↓cnd_t, ↓cnd_f, ↓grd_b, ↓grd_u, startEnv, Option.map_some, List.length_nil, List.length_cons, List.nil_append, List.cons_append, List.getElem?_cons_zero, List.getElem?_cons_succ, List.set_cons_zero, List.set_cons_succ, Bool.not_true, Bool.not_false, reduceIte, Nat.reduceEqDiff, Nat.reduceAdd, Nat.reduceLT, blt_lit, beq_lit, Bool.or_true, Bool.true_or, Bool.or_false, Bool.false_or, Bool.and_true, Bool.true_and, Bool.and_self, cond_true, cond_false, List.append_nil, Iv.eta, Option.map_none, idxO_l0, idxO_l1, decide_true, decide_false, reqs_true, Int.zero_sub, wrap_lit, wrapu_lit, Int.reduceLE, Int.reduceLT, Int.reduceAdd, Int.reduceSub, Int.reduceMul, Int.reduceNeg, Int.reduceEq, Option.bind_some, bin_shr_u64, bin_shl_u64, bin_shr_i64, bin_shl_i64, and_m32', Int.reduceToNat, Int.reducePow, Int.reduceMod, Int.reduceDiv, wrap_u64s, true_or, or_true, true_and, and_true, Option.isSome_none, Option.isSome_some, Nat.reduceLeDiff, Nat.reduceMul, Int.toNat_natCast, Int.cast_ofNat_Int, Int.natCast_zero, Int.natCast_one, List.isEmpty_nil, List.isEmpty_cons, List.replicate_zero, List.replicate_succ, T1, T2, T3, T4, T5, T6, T9, T10, T11, T12, T21, T22, T23, T25, T26, T27, T28, T29, T30, T32, T33, T34, T35, T36, T37, T38, T39, T40, T41, T42, T43, T44, T46, T48, T50, T52, T53, T54, T55, T56, T57, T58, T59, T61, T62, T63, T64, T65, T66, T67, T68, T69, T70, T71, T72, T73, T74, T75, T76, T77, T78, T79, T80, T81, T82, T83, T84, T85, T87, T89, T91, T92, T93, T95, T96, T97, T98, T102, T103, T105, T107, T108, T109, T110, T112, T116, T120, T121, T122, T123, T124, T125, T126, T128, T130, T131, T132, T134, T135, T136, T137, T138, T140, T142, T143, T145, T146, T148, T149, T150, T152, T153, T154, T155, T156, T163, T164, T165, T166, T167, f0, f5, f8, f6, f10, f9, d0, i1, hdg, w1, w2, w3, w4, w5]
                refine hX j _ _ (Nat.lt_succ_self j) ⟨?_, ?_, ?_, ?_, ?_, ?_, by omega, ?_⟩
                · simp only [look]; simp [f0]
                · simp only [look]; simp [f5]
                · simp only [look]; simp [f8]
                · simp only [look]; simp [f6]
                · simp only [look]; simp; omega
                · simp only [look]; rw [hst]; simp
                · rw [show L.length - j = K + 1 by omega, take_snoc hb, List.all_append, hn]; simp [hdb]
        · obtain ⟨f0, f5, f8, f9, hall⟩ := hm
          have hV := valL_in hall
          have hp9 := @pw10_mono (L.length : Int) 18 (by omega) (by omega) (by omega)
          have h18 : pw10 18 = 1000000000000000000 := by decide
          obtain ⟨V, eV⟩ : ∃ V : Int, valL 0 L = V := ⟨_, rfl⟩
          rw [eV] at hV f9
          obtain ⟨m, em⟩ : ∃ m : Int, V * sg = m := ⟨_, rfl⟩
          have hmr : -1000000000000000000 < m ∧ m < 1000000000000000000 := by rw [← em]; rcases hsg with h2 | h2 <;> rw [h2] <;> omega
          have w1 : IntKind.i64.wrap (V * sg) = m := by rw [em]; exact wrap_om (by omega) (by omega)
          rw [hall, eV, em] at hPS2
          by_cases hu : unitsL m D = s
          · have d1 : (!decide (unitsL m D = s)) = false := by simp [hu]
            rw [if_neg (by decide), if_neg (by simpa using hu)] at hPS2
            simp (config := { maxSteps := 4000000, implicitDefEqProofs := false }) only [F_digit_eq, F_units_eq, WK0, WK1, WK2, WK3, WK4, WK5, WK6, WK7, WK8, WK9, WK10, WK11, WK12, WK13, WK14, WK15, WK16, WK17, WK18, WK19, WK20, WK21, WK22, WK23, WK24, WK25, WK26, WK27, WK28, WK29, WK30, look_hit, look_miss, List.map_cons, List.map_nil, Nat.add_zero, max_v, min_v, ↓cnd_t, ↓cnd_f, ↓grd_b, ↓grd_u, startEnv, Option.map_some, List.length_nil, List.length_cons, List.nil_append, List.cons_append, List.getElem?_cons_zero, List.getElem?_cons_succ, List.set_cons_zero, List.set_cons_succ, Bool.not_true, Bool.not_false, reduceIte, Nat.reduceEqDiff, Nat.reduceAdd, Nat.reduceLT, blt_lit, beq_lit, Bool.or_true, Bool.true_or, Bool.or_false, Bool.false_or, Bool.and_true, Bool.true_and, Bool.and_self, cond_true, cond_false, List.append_nil, Iv.eta, Option.map_none, idxO_l0, idxO_l1, decide_true, decide_false, reqs_true, Int.zero_sub, wrap_lit, wrapu_lit, Int.reduceLE, Int.reduceLT, Int.reduceAdd, Int.reduceSub, Int.reduceMul, Int.reduceNeg, Int.reduceEq, Option.bind_some, bin_shr_u64, bin_shl_u64, bin_shr_i64, bin_shl_i64, and_m32', Int.reduceToNat, Int.reducePow, Int.reduceMod, Int.reduceDiv, wrap_u64s, true_or, or_true, true_and, and_true, Option.isSome_none, Option.isSome_some, Nat.reduceLeDiff, Nat.reduceMul, Int.toNat_natCast, Int.cast_ofNat_Int, Int.natCast_zero, Int.natCast_one, List.isEmpty_nil, List.isEmpty_cons, List.replicate_zero, List.replicate_succ, T1, T2, T3, T4, T5, T6, T9, T10, T11, T12, T21, T22, T23, T25, T26, T27, T28, T29, T30, T32, T33, T34, T35, T36, T37, T38, T39, T40, T41, T42, T43, T44, T46, T48, T50, T52, T53, T54, T55, T56, T57, T58, T59, T61, T62, T63, T64, T65, T66, T67, T68, T69, T70, T71, T72, T73, T74, T75, T76, T77, T78, T79, T80, T81, T82, T83, T84, T85, T87, T89, T91, T92, T93, T95, T96, T97, T98, T102, T103, T105, T107, T108, T109, T110, T112, T116, T120, T121, T122, T123, T124, T125, T126, T128, T130, T131, T132, T134, T135, T136, T137, T138, T140, T142, T143, T145, T146, T148, T149, T150, T152, T153, T154, T155, T156, T163, T164, T165, T166, T167, f0, f5, f8, f9, w1, d1]
            repeat' (first | with_reducible refine cnd_split (fun hc => ?_) (fun hc => ?_) | with_reducible refine Reqs.mk ?_ ?_)
            all_goals first
              | exact ⟨by omega, by omega, by omega⟩
              | (refine endS_iib (t := (parseS s)) hr ?_
                 rw [hPS2])
          · have d1 : (!decide (unitsL m D = s)) = true := by simp [hu]
            rw [if_neg (by decide), if_pos hu] at hPS2
            simp (config := { maxSteps := 4000000, implicitDefEqProofs := false }) only [F_digit_eq, F_units_eq, WK0, WK1, WK2, WK3, WK4, WK5, WK6, WK7, WK8, WK9, WK10, WK11, WK12, WK13, WK14, WK15, WK16, WK17, WK18, WK19, WK20, WK21, WK22, WK23, WK24, WK25, WK26, WK27, WK28, WK29, WK30, look_hit, look_miss, List.map_cons, List.map_nil, Nat.add_zero, max_v, min_v, ↓cnd_t, ↓cnd_f, ↓grd_b, ↓grd_u, startEnv, Option.map_some, List.length_nil, List.length_cons, List.nil_append, List.cons_append, List.getElem?_cons_zero, List.getElem?_cons_succ, List.set_cons_zero, List.set_cons_succ, Bool.not_true, Bool.not_false, reduceIte, Nat.reduceEqDiff, Nat.reduceAdd, Nat.reduceLT, blt_lit, beq_lit, Bool.or_true, Bool.true_or, Bool.or_false, Bool.false_or, Bool.and_true, Bool.true_and, Bool.and_self, cond_true, cond_false, List.append_nil, Iv.eta, Option.map_none, idxO_l0, idxO_l1, decide_true, decide_false, reqs_true, Int.zero_sub, wrap_lit, wrapu_lit, Int.reduceLE, Int.reduceLT, Int.reduceAdd, Int.reduceSub, Int.reduceMul, Int.reduceNeg, Int.reduceEq, Option.bind_some, bin_shr_u64, bin_shl_u64, bin_shr_i64, bin_shl_i64, and_m32', Int.reduceToNat, Int.reducePow, Int.reduceMod, Int.reduceDiv, wrap_u64s, true_or, or_true, true_and, and_true, Option.isSome_none, Option.isSome_some, Nat.reduceLeDiff, Nat.reduceMul, Int.toNat_natCast, Int.cast_ofNat_Int, Int.natCast_zero, Int.natCast_one, List.isEmpty_nil, List.isEmpty_cons, List.replicate_zero, List.replicate_succ, T1, T2, T3, T4, T5, T6, T9, T10, T11, T12, T21, T22, T23, T25, T26, T27, T28, T29, T30, T32, T33, T34, T35, T36, T37, T38, T39, T40, T41, T42, T43, T44, T46, T48, T50, T52, T53, T54, T55, T56, T57, T58, T59, T61, T62, T63, T64, T65, T66, T67, T68, T69, T70, T71, T72, T73, T74, T75, T76, T77, T78, T79, T80, T81, T82, T83, T84, T85, T87, T89, T91, T92, T93, T95, T96, T97, T98, T102, T103, T105, T107, T108, T109, T110, T112, T116, T120, T121, T122, T123, T124, T125, T126, T128, T130, T131, T132, T134, T135, T136, T137, T138, T140, T142, T143, T145, T146, T148, T149, T150, T152, T153, T154, T155, T156, T163, T164, T165, T166, T167, f0, f5, f8, f9, w1, d1]
            repeat' (first | with_reducible refine cnd_split (fun hc => ?_) (fun hc => ?_) | with_reducible refine Reqs.mk ?_ ?_)
            all_goals first
              | exact ⟨by omega, by omega, by omega⟩
              | (refine endS_iib (t := (parseS s)) hr ?_
                 rw [hPS2])
        · obtain ⟨f2, f3, f4, hall⟩ := hm
          rw [hall, if_pos (by decide)] at hPS2
          simp (config := { maxSteps := 4000000, implicitDefEqProofs := false }) only [F_digit_eq, F_units_eq, WK0, WK1, WK2, WK3, WK4, WK5, WK6, WK7, WK8, WK9, WK10, WK11, WK12, WK13, WK14, WK15, WK16, WK17, WK18, WK19, WK20, WK21, WK22, WK23, WK24, WK25, WK26, WK27, WK28, WK29, WK30, look_hit, look_miss, List.map_cons, List.map_nil, Nat.add_zero, max_v, min_v, ↓cnd_t, ↓cnd_f, ↓grd_b, ↓grd_u, startEnv, Option.map_some, List.length_nil, List.length_cons, List.nil_append, List.cons_append, List.getElem?_cons_zero, List.getElem?_cons_succ, List.set_cons_zero, List.set_cons_succ, Bool.not_true, Bool.not_false, reduceIte, Nat.reduceEqDiff, Nat.reduceAdd, Nat.reduceLT, blt_lit, beq_lit, Bool.or_true, Bool.true_or, Bool.or_false, Bool.false_or, Bool.and_true, Bool.true_and, Bool.and_self, cond_true, cond_false, List.append_nil, Iv.eta, Option.map_none, idxO_l0, idxO_l1, decide_true, decide_false, reqs_true, Int.zero_sub, wrap_lit, wrapu_lit, Int.reduceLE, Int.reduceLT, Int.reduceAdd, Int.reduceSub, Int.reduceMul, Int.reduceNeg, Int.reduceEq, Option.bind_some, bin_shr_u64, bin_shl_u64, bin_shr_i64, bin_shl_i64, and_m32', Int.reduceToNat, Int.reducePow, Int.reduceMod, Int.reduceDiv, wrap_u64s, true_or, or_true, true_and, and_true, Option.isSome_none, Option.isSome_some, Nat.reduceLeDiff, Nat.reduceMul, Int.toNat_natCast, Int.cast_ofNat_Int, Int.natCast_zero, Int.natCast_one, List.isEmpty_nil, List.isEmpty_cons, List.replicate_zero, List.replicate_succ, T1, T2, T3, T4, T5, T6, T9, T10, T11, T12, T21, T22, T23, T25, T26, T27, T28, T29, T30, T32, T33, T34, T35, T36, T37, T38, T39, T40, T41, T42, T43, T44, T46, T48, T50, T52, T53, T54, T55, T56, T57, T58, T59, T61, T62, T63, T64, T65, T66, T67, T68, T69, T70, T71, T72, T73, T74, T75, T76, T77, T78, T79, T80, T81, T82, T83, T84, T85, T87, T89, T91, T92, T93, T95, T96, T97, T98, T102, T103, T105, T107, T108, T109, T110, T112, T116, T120, T121, T122, T123, T124, T125, T126, T128, T130, T131, T132, T134, T135, T136, T137, T138, T140, T142, T143, T145, T146, T148, T149, T150, T152, T153, T154, T155, T156, T163, T164, T165, T166, T167, f2, f3, f4]
          first
            | (refine endS_iib (t := (parseS s)) hr ?_
               rw [hPS2])
      | cons b0 t0 =>
        have d0 : (!decide (b0 :: t0 = ([] : List UInt8))) = true := by simp
        have i0 : ∀ hh : Heap, idxO hh (some tdStr) (some (.c (.p (.str (bs (b0 :: t0)))))) (some (.int .i64 0)) = some (some (sp (.int .u8 b0.toNat)), hh) := fun hh => idx_txt (by omega) rfl
        by_cases hb0 : b0 = 45
        · have k1 : L = t0 := by rw [← hL, hb0]; rfl
          have k2 : sg = -1 := by rw [← hS, hb0]; rfl
          have d1 : decide ((b0.toNat : Int) = 45) = true := by subst hb0; rfl
          have t1 : ∀ hh : Heap, slcO hh (some tdStr) (some (.c (.p (.str (bs (b0 :: t0)))))) (some (some 1)) (some none) (some none) = some (some (.v (.c (.p (.str (bs L))))), hh) := by
            intro hh
            rw [slc_from (by omega) (by simp; omega), k1]; rfl
          simp (config := { maxSteps := 4000000, implicitDefEqProofs := false }) only [F_digit_eq, F_units_eq, WK0, WK1, WK2, WK3, WK4, WK5, WK6, WK7, WK8, WK9, WK10, WK11, WK12, WK13, WK14, WK15, WK16, WK17, WK18, WK19, WK20, WK21, WK22, WK23, WK24, WK25, WK26, WK27, WK28, WK29, WK30, look_hit, look_miss, List.map_cons, List.map_nil, Nat.add_zero, max_v, min_v, ↓cnd_t, ↓cnd_f, ↓grd_b, ↓grd_u, startEnv, Option.map_some, List.length_nil, List.length_cons, List.nil_append, List.cons_append, List.getElem?_cons_zero, List.getElem?_cons_succ, List.set_cons_zero, List.set_cons_succ, Bool.not_true, Bool.not_false, reduceIte, Nat.reduceEqDiff, Nat.reduceAdd, Nat.reduceLT, blt_lit, beq_lit, Bool.or_true, Bool.true_or, Bool.or_false, Bool.false_or, Bool.and_true, Bool.true_and, Bool.and_self, cond_true, cond_false, List.append_nil, Iv.eta, Option.map_none, idxO_l0, idxO_l1, decide_true, decide_false, reqs_true, Int.zero_sub, wrap_lit, wrapu_lit, Int.reduceLE, Int.reduceLT, Int.reduceAdd, Int.reduceSub, Int.reduceMul, Int.reduceNeg, Int.reduceEq, Option.bind_some, bin_shr_u64, bin_shl_u64, bin_shr_i64, bin_shl_i64, and_m32', Int.reduceToNat, Int.reducePow, Int.reduceMod, Int.reduceDiv, wrap_u64s, true_or, or_true, true_and, and_true, Option.isSome_none, Option.isSome_some, Nat.reduceLeDiff, Nat.reduceMul, Int.toNat_natCast, Int.cast_ofNat_Int, Int.natCast_zero, Int.natCast_one, List.isEmpty_nil, List.isEmpty_cons, List.replicate_zero, List.replicate_succ, T1, T2, T3, T4, T5, T6, T9, T10, T11, T12, T21, T22, T23, T25, T26, T27, T28, T29, T30, T32, T33, T34, T35, T36, T37, T38, T39, T40, T41, T42, T43, T44, T46, T48, T50, T52, T53, T54, T55, T56, T57, T58, T59, T61, T62, T63, T64, T65, T66, T67, T68, T69, T70, T71, T72, T73, T74, T75, T76, T77, T78, T79, T80, T81, T82, T83, T84, T85, T87, T89, T91, T92, T93, T95, T96, T97, T98, T102, T103, T105, T107, T108, T109, T110, T112, T116, T120, T121, T122, T123, T124, T125, T126, T128, T130, T131, T132, T134, T135, T136, T137, T138, T140, T142, T143, T145, T146, T148, T149, T150, T152, T153, T154, T155, T156, T163, T164, T165, T166, T167, e0, e5, e6, d0, i0, d1, t1]
          repeat' (first | with_reducible refine cnd_split (fun hc => ?_) (fun hc => ?_) | with_reducible refine Reqs.mk ?_ ?_)
          all_goals first
            | trivial
            | (refine endS_iib (t := (parseS s)) hr ?_
               rw [hPS]
               simp_all; done)
            | skip
          have c1 : decide (9 < D) = false := by assumption
          have c2 : decide (18 < (L.length : Int)) = false := by first | assumption | (rw [k1]; first | assumption | decide | (simp only [List.length_cons]; assumption))
          have hPS2 : parseS s = if !L.all digB then (0, 0, false) else if unitsL (valL 0 L * sg) D ≠ s then (0, 0, false) else (valL 0 L * sg, D, true) := by
            rw [hPS, c1, c2, if_neg (by decide)]
          simp only [decide_eq_false_iff_not] at c1 c2
          refine loop_ret (i := 2) (fun e h => look e 0 = some (.v (.c (.p (.str (bs s))))) ∧ look e 5 = some (.v (.c (.p (.int .i64 D)))) ∧ look e 8 = some (.v (.c (.p (.int .i64 sg)))) ∧ look e 9 = some (.v (.c (.p (.int .i64 (valL 0 L))))) ∧ L.all digB = true) (fun e h => look e 2 = some (.v (.c (.p (.int .i64 0)))) ∧ look e 3 = some (.v (.c (.p (.int .i64 0)))) ∧ look e 4 = some (.v (.c (.p (.bool false)))) ∧ L.all digB = false) (fun Q' hQ hR => ?_) (fun e h hm => ?_) (fun e h hm => ?_)
          · refine go_loop (α := Nat) (fun j => j) (fun j e h => look e 0 = some (.v (.c (.p (.str (bs s))))) ∧ look e 5 = some (.v (.c (.p (.int .i64 D)))) ∧ look e 8 = some (.v (.c (.p (.int .i64 sg)))) ∧ look e 6 = some (.v (.c (.p (.str (bs L))))) ∧ look e 10 = some (.v (.c (.p (.int .i64 ((L.length : Int) - (j : Int)))))) ∧ look e 9 = some (.v (.c (.p (.int .i64 (valL 0 (L.take (L.length - j))))))) ∧ j ≤ L.length ∧ (L.take (L.length - j)).all digB = true) L.length ⟨?_, ?_, ?_, ?_, ?_, ?_, Nat.le_refl _, by simp⟩ ?_
            · simp only [look]; simp [e0]
            · simp only [look]; simp [e5]
            · simp only [look]; simp [k2]
            · simp only [look]; simp [e6, k1]
            · simp only [look]; simp
            · simp only [look]; simp [valL]
            · rintro X j e h ⟨f0, f5, f8, f6, f10, f9, hj, hn⟩ hX
              cases j with
              | zero =>
                obtain ⟨C, eC⟩ : ∃ C : Int, (L.length : Int) - ((0 : Nat) : Int) = C := ⟨_, rfl⟩
                rw [eC] at f10
                have d0 : decide (C < (L.length : Int)) = false := by simp only [decide_eq_false_iff_not]; omega
                rw [Nat.sub_zero, List.take_length] at hn f9
                simp (config := { maxSteps := 4000000, implicitDefEqProofs := false }) only [F_digit_eq, F_units_eq, WK0, WK1, WK2, WK3, WK4, WK5, WK6, WK7, WK8, WK9, WK10, WK11, WK12, WK13, WK14, WK15, WK16, WK17, WK18, WK19, WK20, WK21, WK22, WK23, WK24, WK25, WK26, WK27, WK28, WK29, WK30, look_hit, look_miss, List.map_cons, List.map_nil, Nat.add_zero, max_v, min_v, ↓cnd_t, ↓cnd_f, ↓grd_b, ↓grd_u, startEnv, Option.map_some, List.length_nil, List.length_cons, List.nil_append, List.cons_append, List.getElem?_cons_zero, List.getElem?_cons_succ, List.set_cons_zero, List.set_cons_succ, Bool.not_true, Bool.not_false, reduceIte, Nat.reduceEqDiff, Nat.reduceAdd, Nat.reduceLT, blt_lit, beq_lit, Bool.or_true, Bool.true_or, Bool.or_false, Bool.false_or, Bool.and_true, Bool.true_and, Bool.and_self, cond_true, cond_false, List.append_nil, Iv.eta, Option.map_none, idxO_l0, idxO_l1, decide_true, decide_false, reqs_true, Int.zero_sub, wrap_lit, wrapu_lit, Int.reduceLE, Int.reduceLT, Int.reduceAdd, Int.reduceSub, Int.reduceMul, Int.reduceNeg, Int.reduceEq, Option.bind_some, bin_shr_u64, bin_shl_u64, bin_shr_i64, bin_shl_i64, and_m32', Int.reduceToNat, Int.reducePow, Int.reduceMod, Int.reduceDiv, wrap_u64s, true_or, or_true, true_and, and_true, Option.isSome_none, Option.isSome_some, Nat.reduceLeDiff, Nat.reduceMul, Int.toNat_natCast, Int.cast_ofNat_Int, Int.natCast_zero, Int.natCast_one, List.isEmpty_nil, List.isEmpty_cons, List.replicate_zero, List.replicate_succ, T1, T2, T3, T4, T5, T6, T9, T10, T11, T12, T21, T22, T23, T25, T26, T27, T28, T29, T30, T32, T33, T34, T35, T36, T37, T38, T39, T40, T41, T42, T43, T44, T46, T48, T50, T52, T53, T54, T55, T56, T57, T58, T59, T61, T62, T63, T64, T65, T66, T67, T68, T69, T70, T71, T72, T73, T74, T75, T76, T77, T78, T79, T80, T81, T82, T83, T84, T85, T87, T89, T91, T92, T93, T95, T96, T97, T98, T102, T103, T105, T107, T108, T109, T110, T112, T116, T120, T121, T122, T123, T124, T125, T126, T128, T130, T131, T132, T134, T135, T136, T137, T138, T140, T142, T143, T145, T146, T148, T149, T150, T152, T153, T154, T155, T156, T163, T164, T165, T166, T167, f0, f5, f8, f6, f10, f9, d0]
                refine hQ _ _ ⟨?_, ?_, ?_, ?_, hn⟩
                all_goals (try simp only [look])
                all_goals simp [f0, f5, f8, f9]
              | succ j =>
                obtain ⟨K, eK⟩ : ∃ K : Nat, L.length - (j + 1) = K := ⟨_, rfl⟩
                obtain ⟨C, eC⟩ : ∃ C : Int, (L.length : Int) - ((j + 1 : Nat) : Int) = C := ⟨_, rfl⟩
                have hCK : C = (K : Int) := by omega
                have hK : K < L.length := by omega
                obtain ⟨b, hb⟩ : ∃ b, L[K]? = some b := ⟨_, List.getElem?_eq_getElem hK⟩
                rw [eC] at f10
                rw [eK] at hn f9
                obtain ⟨B, eB⟩ : ∃ B : Int, (b.toNat : Int) = B := ⟨_, rfl⟩
                have d0 : decide (C < (L.length : Int)) = true := by simp only [decide_eq_true_eq]; omega
                have i1 : ∀ hh : Heap, idxO hh (some tdStr) (some (.c (.p (.str (bs L))))) (some (.int .i64 C)) = some (some (sp (.int .u8 B)), hh) := by
                  intro hh
                  rw [← eB]
                  exact idx_txt (by omega) (by rw [hCK]; simpa using hb)
                have w5 : IntKind.i64.wrap (C + 1) = C + 1 := wrap_om (by omega) (by omega)
                have hdg := digit_b eB
                have hV := valL_in hn
                have ht : (L.take K).length = K := by rw [List.length_take]; omega
                rw [ht] at hV
                have hp9 := @pw10_mono (K : Int) 17 (by omega) (by omega) (by omega)
                have h17 : pw10 17 = 100000000000000000 := by decide
                obtain ⟨V, eV⟩ : ∃ V : Int, valL 0 (L.take K) = V := ⟨_, rfl⟩
                rw [eV] at hV f9
                cases hdb : digB b with
                | false =>
                  rw [hdb] at hdg
                  have hall : L.all digB = false := by
                    rw [Bool.eq_false_iff]
                    intro h2
                    rw [List.all_eq_true] at h2
                    rw [h2 b (List.mem_of_getElem? hb)] at hdb
                    cases hdb
                  simp (config := { maxSteps := 4000000, implicitDefEqProofs := false }) only [F_digit_eq, F_units_eq, WK0, WK1, WK2, WK3, WK4, WK5, WK6, WK7, WK8, WK9, WK10, WK11, WK12, WK13, WK14, WK15, WK16, WK17, WK18, WK19, WK20, WK21, WK22, WK23, WK24, WK25, WK26, WK27, WK28, WK29, WK30, look_hit, look_miss, List.map_cons, List.map_nil, Nat.add_zero, max_v, min_v, ↓cnd_t, ↓cnd_f, ↓grd_b, ↓grd_u, startEnv, Option.map_some, List.length_nil, List.length_cons, List.nil_append, List.cons_append, List.getElem?_cons_zero, List.getElem?_cons_succ, List.set_cons_zero, List.set_cons_succ, Bool.not_true, Bool.not_false, reduceIte, Nat.reduceEqDiff, Nat.reduceAdd, Nat.reduceLT, blt_lit, beq_lit, Bool.or_true, Bool.true_or, Bool.or_false, Bool.false_or, Bool.and_true, Bool.true_and, Bool.and_self, cond_true, cond_false, List.append_nil, Iv.eta, Option.map_none, idxO_l0, idxO_l1, decide_true, decide_false, reqs_true, Int.zero_sub, wrap_lit, wrapu_lit, Int.reduceLE, Int.reduceLT, Int.reduceAdd, Int.reduceSub, Int.reduceMul, Int.reduceNeg, Int.reduceEq, Option.bind_some, bin_shr_u64, bin_shl_u64, bin_shr_i64, bin_shl_i64, and_m32', Int.reduceToNat, Int.reducePow, Int.reduceMod, Int.reduceDiv, wrap_u64s, true_or, or_true, true_and, and_true, Option.isSome_none, Option.isSome_some, Nat.reduceLeDiff, Nat.reduceMul, Int.toNat_natCast, Int.cast_ofNat_Int, Int.natCast_zero, Int.natCast_one, List.isEmpty_nil, List.isEmpty_cons, List.replicate_zero, List.replicate_succ, T1, T2, T3, T4, T5, T6, T9, T10, T11, T12, T21, T22, T23, T25, T26, T27, T28, T29, T30, T32, T33, T34, T35, T36, T37, T38, T39, T40, T41, T42, T43, T44, T46, T48, T50, T52, T53, T54, T55, T56, T57, T58, T59, T61, T62, T63, T64, T65, T66, T67, T68, T69, T70, T71, T72, T73, T74, T75, T76, T77, T78, T79, T80, T81, T82, T83, T84, T85, T87, T89, T91, T92, T93, T95, T96, T97, T98, T102, T103, T105, T107, T108, T109, T110, T112, T116, T120, T121, T122, T123, T124, T125, T126, T128, T130, T131, T132, T134, T135, T136, T137, T138, T140, T142, T143, T145, T146, T148, T149, T150, T152, T153, T154, T155, T156, T163, T164, T165, T166, T167, f0, f5, f8, f6, f10, f9, d0, i1, hdg]
                  refine hR _ _ ⟨?_, ?_, ?_, hall⟩
                  all_goals (try simp only [look])
                  all_goals simp
                | true =>
                  rw [hdb] at hdg
                  have hdb2 := hdb
                  simp only [digB, Bool.and_eq_true, decide_eq_true_eq] at hdb2
                  have w1 : IntKind.u8.wrap (B - 48) = B - 48 := by rw [IntKind.wrap_u8]; omega
                  have w2 : IntKind.i64.wrap (B - 48) = B - 48 := wrap_om (by omega) (by omega)
                  have w3 : IntKind.i64.wrap (10 * V) = 10 * V := wrap_om (by omega) (by omega)
                  have w4 : IntKind.i64.wrap (10 * V + (B - 48)) = 10 * V + (B - 48) := wrap_om (by omega) (by omega)
                  have hst : valL 0 (L.take (L.length - j)) = 10 * V + (B - 48) := by
                    rw [show L.length - j = K + 1 by omega, take_snoc hb, valL_app, eV]
                    simp [valL, eB]
                  simp (config := { maxSteps := 4000000, implicitDefEqProofs := false }) only [F_digit_eq, F_units_eq, WK0, WK1, WK2, WK3, WK4, WK5, WK6, WK7, WK8, WK9, WK10, WK11, WK12, WK13, WK14, WK15, WK16, WK17, WK18, WK19, WK20, WK21, WK22, WK23, WK24, WK25, WK26, WK27, WK28, WK29, WK30, look_hit, look_miss, List.map_cons, List.map_nil, Nat.add_zero, max_v, min_v, ↓cnd_t, ↓cnd_f, ↓grd_b, ↓grd_u, startEnv, Option.map_some, List.length_nil, List.length_cons, List.nil_append, List.cons_append, List.getElem?_cons_zero, List.getElem?_cons_succ, List.set_cons_zero, List.set_cons_succ, Bool.not_true, Bool.not_false, reduceIte, Nat.reduceEqDiff, Nat.reduceAdd, Nat.reduceLT, blt_lit, beq_lit, Bool.or_true, Bool.true_or, Bool.or_false, Bool.false_or, Bool.and_true, Bool.true_and, Bool.and_self, cond_true, cond_false, List.append_nil, Iv.eta, Option.map_none, idxO_l0, idxO_l1, decide_true, decide_false, reqs_true, Int.zero_sub, wrap_lit, wrapu_lit, Int.reduceLE, Int.reduceLT, Int.reduceAdd, Int.reduceSub, Int.reduceMul, Int.reduceNeg, Int.reduceEq, Option.bind_some, bin_shr_u64, bin_shl_u64, bin_shr_i64, bin_shl_i64, and_m32', Int.reduceToNat, Int.reducePow, Int.reduceMod, Int.reduceDiv, wrap_u64s, true_or, or_true, true_and, and_true, Option.isSome_none, Option.isSome_some, Nat.reduceLeDiff, Nat.reduceMul, Int.toNat_natCast, Int.cast_ofNat_Int, Int.natCast_zero, Int.natCast_one, List.isEmpty_nil, List.isEmpty_cons, List.replicate_zero, List.replicate_succ, T1, T2, T3, T4, T5, T6, T9, T10, T11, T12, T21, T22, T23, T25, T26, T27, T28, T29, T30, T32, T33, T34, T35, T36, T37, T38, T39, T40, T41, T42, T43, T44, T46, T48, T50, T52, T53, T54, T55, T56, T57, T58, T59, T61, T62, T63, T64, T65, T66, T67, T68, T69, T70, T71, T72, T73, T74, T75, T76, T77, T78, T79, T80, T81, T82, T83, T84, T85, T87, T89, T91, T92, T93, T95, T96, T97, T98, T102, T103, T105, T107, T108, T109, T110, T112, T116, T120, T121, T122, T123, T124, T125, T126, T128, T130, T131, T132, T134, T135, T136, T137, T138, T140, T142, T143, T145, T146, T148, T149, T150, T152, T153, T154, T155, T156, T163, T164, T165, T166, T167, f0, f5, f8, f6, f10, f9, d0, i1, hdg, w1, w2, w3, w4, w5]
                  refine hX j _ _ (Nat.lt_succ_self j) ⟨?_, ?_, ?_, ?_, ?_, ?_, by omega, ?_⟩
                  · simp only [look]; simp [f0]
                  · simp only [look]; simp [f5]
                  · simp only [look]; simp [f8]
                  · simp only [look]; simp [f6]
                  · simp only [look]; simp; omega
                  · simp only [look]; rw [hst]; simp
                  · rw [show L.length - j = K + 1 by omega, take_snoc hb, List.all_append, hn]; simp [hdb]
          · obtain ⟨f0, f5, f8, f9, hall⟩ := hm
            have hV := valL_in hall
            have hp9 := @pw10_mono (L.length : Int) 18 (by omega) (by omega) (by omega)
            have h18 : pw10 18 = 1000000000000000000 := by decide
            obtain ⟨V, eV⟩ : ∃ V : Int, valL 0 L = V := ⟨_, rfl⟩
            rw [eV] at hV f9
            obtain ⟨m, em⟩ : ∃ m : Int, V * sg = m := ⟨_, rfl⟩
            have hmr : -1000000000000000000 < m ∧ m < 1000000000000000000 := by rw [← em]; rcases hsg with h2 | h2 <;> rw [h2] <;> omega
            have w1 : IntKind.i64.wrap (V * sg) = m := by rw [em]; exact wrap_om (by omega) (by omega)
            rw [hall, eV, em] at hPS2
            by_cases hu : unitsL m D = s
            · have d1 : (!decide (unitsL m D = s)) = false := by simp [hu]
              rw [if_neg (by decide), if_neg (by simpa using hu)] at hPS2
              simp (config := { maxSteps := 4000000, implicitDefEqProofs := false }) only [F_digit_eq, F_units_eq, WK0, WK1, WK2, WK3, WK4, WK5, WK6, WK7, WK8, WK9, WK10, WK11, WK12, WK13, WK14, WK15, WK16, WK17, WK18, WK19, WK20, WK21, WK22, WK23, WK24, WK25, WK26, WK27, WK28, WK29, WK30, look_hit, look_miss, List.map_cons, List.map_nil, Nat.add_zero, max_v, min_v, ↓cnd_t, ↓cnd_f, ↓grd_b, ↓grd_u, startEnv, Option.map_some, List.length_nil, List.length_cons, List.nil_append, List.cons_append, List.getElem?_cons_zero, List.getElem?_cons_succ, List.set_cons_zero, List.set_cons_succ, Bool.not_true, Bool.not_false, reduceIte, Nat.reduceEqDiff, Nat.reduceAdd, Nat.reduceLT, blt_lit, beq_lit, Bool.or_true, Bool.true_or, Bool.or_false, Bool.false_or, Bool.and_true, Bool.true_and, Bool.and_self, cond_true, cond_false, List.append_nil, Iv.eta, Option.map_none, idxO_l0, idxO_l1, decide_true, decide_false, reqs_true, Int.zero_sub, wrap_lit, wrapu_lit, Int.reduceLE, Int.reduceLT, Int.reduceAdd, Int.reduceSub, Int.reduceMul, Int.reduceNeg, Int.reduceEq, Option.bind_some, bin_shr_u64, bin_shl_u64, bin_shr_i64, bin_shl_i64, and_m32', Int.reduceToNat, Int.reducePow, Int.reduceMod, Int.reduceDiv, wrap_u64s, true_or, or_true, true_and, and_true, Option.isSome_none, Option.isSome_some, Nat.reduceLeDiff, Nat.reduceMul, Int.toNat_natCast, Int.cast_ofNat_Int, Int.natCast_zero, Int.natCast_one, List.isEmpty_nil, List.isEmpty_cons, List.replicate_zero, List.replicate_succ, T1, T2, T3, T4, T5, T6, T9, T10, T11, T12, T21, T22, T23, T25, T26, T27, T28, T29, T30, T32, T33, T34, T35, T36, T37, T38, T39, T40, T41, T42, T43, T44, T46, T48, T50, T52, T53, T54, T55, T56, T57, T58, T59, T61, T62, T63, T64, T65, T66, T67, T68, T69, T70, T71, T72, T73, T74, T75, T76, T77, T78, T79, T80, T81, T82, T83, T84, T85, T87, T89, T91, T92, T93, T95, T96, T97, T98, T102, T103, T105, T107, T108, T109, T110, T112, T116, T120, T121, T122, T123, T124, T125, T126, T128, T130, T131, T132, T134, T135, T136, T137, T138, T140, T142, T143, T145, T146, T148, T149, T150, T152, T153, T154, T155, T156, T163, T164, T165, T166, T167, f0, f5, f8, f9, w1, d1]
              repeat' (first | with_reducible refine cnd_split (fun hc => ?_) (fun hc => ?_) | with_reducible refine Reqs.mk ?_ ?_)
              all_goals first
                | exact ⟨by omega, by omega, by omega⟩
                | (refine endS_iib (t := (parseS s)) hr ?_
                   rw [hPS2])
            · have d1 : (!decide (unitsL m D = s)) = true := by simp [hu]
              rw [if_neg (by decide), if_pos hu] at hPS2
              simp (config := { maxSteps := 4000000, implicitDefEqProofs := false }) only [F_digit_eq, F_units_eq, WK0, WK1, WK2, WK3, WK4, WK5, WK6, WK7, WK8, WK9, WK10, WK11, WK12, WK13, WK14, WK15, WK16, WK17, WK18, WK19, WK20, WK21, WK22, WK23, WK24, WK25, WK26, WK27, WK28, WK29, WK30, look_hit, look_miss, List.map_cons, List.map_nil, Nat.add_zero, max_v, min_v, ↓cnd_t, ↓cnd_f, ↓grd_b, ↓grd_u, startEnv, Option.map_some, List.length_nil, List.length_cons, List.nil_append, List.cons_append, List.getElem?_cons_zero, List.getElem?_cons_succ, List.set_cons_zero, List.set_cons_succ, Bool.not_true, Bool.not_false, reduceIte, Nat.reduceEqDiff, Nat.reduceAdd, Nat.reduceLT, blt_lit, beq_lit, Bool.or_true, Bool.true_or, Bool.or_false, Bool.false_or, Bool.and_true, Bool.true_and, Bool.and_self, cond_true, cond_false, List.append_nil, Iv.eta, Option.map_none, idxO_l0, idxO_l1, decide_true, decide_false, reqs_true, Int.zero_sub, wrap_lit, wrapu_lit, Int.reduceLE, Int.reduceLT, Int.reduceAdd, Int.reduceSub, Int.reduceMul, Int.reduceNeg, Int.reduceEq, Option.bind_some, bin_shr_u64, bin_shl_u64, bin_shr_i64, bin_shl_i64, and_m32', Int.reduceToNat, Int.reducePow, Int.reduceMod, Int.reduceDiv, wrap_u64s, true_or, or_true, true_and, and_true, Option.isSome_none, Option.isSome_some, Nat.reduceLeDiff, Nat.reduceMul, Int.toNat_natCast, Int.cast_ofNat_Int, Int.natCast_zero, Int.natCast_one, List.isEmpty_nil, List.isEmpty_cons, List.replicate_zero, List.replicate_succ, T1, T2, T3, T4, T5, T6, T9, T10, T11, T12, T21, T22, T23, T25, T26, T27, T28, T29, T30, T32, T33, T34, T35, T36, T37, T38, T39, T40, T41, T42, T43, T44, T46, T48, T50, T52, T53, T54, T55, T56, T57, T58, T59, T61, T62, T63, T64, T65, T66, T67, T68, T69, T70, T71, T72, T73, T74, T75, T76, T77, T78, T79, T80, T81, T82, T83, T84, T85, T87, T89, T91, T92, T93, T95, T96, T97, T98, T102, T103, T105, T107, T108, T109, T110, T112, T116, T120, T121, T122, T123, T124, T125, T126, T128, T130, T131, T132, T134, T135, T136, T137, T138, T140, T142, T143, T145, T146, T148, T149, T150, T152, T153, T154, T155, T156, T163, T164, T165, T166, T167, f0, f5, f8, f9, w1, d1]
              repeat' (first | with_reducible refine cnd_split (fun hc => ?_) (fun hc => ?_) | with_reducible refine Reqs.mk ?_ ?_)
              all_goals first
                | exact ⟨by omega, by omega, by omega⟩
                | (refine endS_iib (t := (parseS s)) hr ?_
                   rw [hPS2])
          · obtain ⟨f2, f3, f4, hall⟩ := hm
            rw [hall, if_pos (by decide)] at hPS2
            simp (config := { maxSteps := 4000000, implicitDefEqProofs := false }) only [F_digit_eq, F_units_eq, WK0, WK1, WK2, WK3, WK4, WK5, WK6, WK7, WK8, WK9, WK10, WK11, WK12, WK13, WK14, WK15, WK16, WK17, WK18, WK19, WK20, WK21, WK22, WK23, WK24, WK25, WK26, WK27, WK28, WK29, WK30, look_hit, look_miss, List.map_cons, List.map_nil, Nat.add_zero, max_v, min_v, ↓cnd_t, ↓cnd_f, ↓grd_b, ↓grd_u, startEnv, Option.map_some, List.length_nil, List.length_cons, List.nil_append, List.cons_append, List.getElem?_cons_zero, List.getElem?_cons_succ, List.set_cons_zero, List.set_cons_succ, Bool.not_true, Bool.not_false, reduceIte, Nat.reduceEqDiff, Nat.reduceAdd, Nat.reduceLT, blt_lit, beq_lit, Bool.or_true, Bool.true_or, Bool.or_false, Bool.false_or, Bool.and_true, Bool.true_and, Bool.and_self, cond_true, cond_false, List.append_nil, Iv.eta, Option.map_none, idxO_l0, idxO_l1, decide_true, decide_false, reqs_true, Int.zero_sub, wrap_lit, wrapu_lit, Int.reduceLE, Int.reduceLT, Int.reduceAdd, Int.reduceSub, Int.reduceMul, Int.reduceNeg, Int.reduceEq, Option.bind_some, bin_shr_u64, bin_shl_u64, bin_shr_i64, bin_shl_i64, and_m32', Int.reduceToNat, Int.reducePow, Int.reduceMod, Int.reduceDiv, wrap_u64s, true_or, or_true, true_and, and_true, Option.isSome_none, Option.isSome_some, Nat.reduceLeDiff, Nat.reduceMul, Int.toNat_natCast, Int.cast_ofNat_Int, Int.natCast_zero, Int.natCast_one, List.isEmpty_nil, List.isEmpty_cons, List.replicate_zero, List.replicate_succ, T1, T2, T3, T4, T5, T6, T9, T10, T11, T12, T21, T22, T23, T25, T26, T27, T28, T29, T30, T32, T33, T34, T35, T36, T37, T38, T39, T40, T41, T42, T43, T44, T46, T48, T50, T52, T53, T54, T55, T56, T57, T58, T59, T61, T62, T63, T64, T65, T66, T67, T68, T69, T70, T71, T72, T73, T74, T75, T76, T77, T78, T79, T80, T81, T82, T83, T84, T85, T87, T89, T91, T92, T93, T95, T96, T97, T98, T102, T103, T105, T107, T108, T109, T110, T112, T116, T120, T121, T122, T123, T124, T125, T126, T128, T130, T131, T132, T134, T135, T136, T137, T138, T140, T142, T143, T145, T146, T148, T149, T150, T152, T153, T154, T155, T156, T163, T164, T165, T166, T167, f2, f3, f4]
            first
              | (refine endS_iib (t := (parseS s)) hr ?_
                 rw [hPS2])
        · have k1 : L = b0 :: t0 := by rw [← hL]; unfold restS; rw [if_neg (by simpa using hb0)]
          have k2 : sg = 1 := by rw [← hS]; unfold signS; rw [if_neg (by simpa using hb0)]
          have d1 : decide ((b0.toNat : Int) = 45) = false := by
            simp only [decide_eq_false_iff_not]
            intro h2
            exact hb0 (UInt8.toNat_inj.1 (by have : b0.toNat = 45 := by omega
                                             rw [this]; rfl))
          simp (config := { maxSteps := 4000000, implicitDefEqProofs := false }) only [F_digit_eq, F_units_eq, WK0, WK1, WK2, WK3, WK4, WK5, WK6, WK7, WK8, WK9, WK10, WK11, WK12, WK13, WK14, WK15, WK16, WK17, WK18, WK19, WK20, WK21, WK22, WK23, WK24, WK25, WK26, WK27, WK28, WK29, WK30, look_hit, look_miss, List.map_cons, List.map_nil, Nat.add_zero, max_v, min_v, ↓cnd_t, ↓cnd_f, ↓grd_b, ↓grd_u, startEnv, Option.map_some, List.length_nil, List.length_cons, List.nil_append, List.cons_append, List.getElem?_cons_zero, List.getElem?_cons_succ, List.set_cons_zero, List.set_cons_succ, Bool.not_true, Bool.not_false, reduceIte, Nat.reduceEqDiff, Nat.reduceAdd, Nat.reduceLT, blt_lit, beq_lit, Bool.or_true, Bool.true_or, Bool.or_false, Bool.false_or, Bool.and_true, Bool.true_and, Bool.and_self, cond_true, cond_false, List.append_nil, Iv.eta, Option.map_none, idxO_l0, idxO_l1, decide_true, decide_false, reqs_true, Int.zero_sub, wrap_lit, wrapu_lit, Int.reduceLE, Int.reduceLT, Int.reduceAdd, Int.reduceSub, Int.reduceMul, Int.reduceNeg, Int.reduceEq, Option.bind_some, bin_shr_u64, bin_shl_u64, bin_shr_i64, bin_shl_i64, and_m32', Int.reduceToNat, Int.reducePow, Int.reduceMod, Int.reduceDiv, wrap_u64s, true_or, or_true, true_and, and_true, Option.isSome_none, Option.isSome_some, Nat.reduceLeDiff, Nat.reduceMul, Int.toNat_natCast, Int.cast_ofNat_Int, Int.natCast_zero, Int.natCast_one, List.isEmpty_nil, List.isEmpty_cons, List.replicate_zero, List.replicate_succ, T1, T2, T3, T4, T5, T6, T9, T10, T11, T12, T21, T22, T23, T25, T26, T27, T28, T29, T30, T32, T33, T34, T35, T36, T37, T38, T39, T40, T41, T42, T43, T44, T46, T48, T50, T52, T53, T54, T55, T56, T57, T58, T59, T61, T62, T63, T64, T65, T66, T67, T68, T69, T70, T71, T72, T73, T74, T75, T76, T77, T78, T79, T80, T81, T82, T83, T84, T85, T87, T89, T91, T92, T93, T95, T96, T97, T98, T102, T103, T105, T107, T108, T109, T110, T112, T116, T120, T121, T122, T123, T124, T125, T126, T128, T130, T131, T132, T134, T135, T136, T137, T138, T140, T142, T143, T145, T146, T148, T149, T150, T152, T153, T154, T155, T156, T163, T164, T165, T166, T167, e0, e5, e6, d0, i0, d1]
          repeat' (first | with_reducible refine cnd_split (fun hc => ?_) (fun hc => ?_) | with_reducible refine Reqs.mk ?_ ?_)
          all_goals first
            | trivial
            | (refine endS_iib (t := (parseS s)) hr ?_
               rw [hPS]
               simp_all; done)
            | skip
          have c1 : decide (9 < D) = false := by assumption
          have c2 : decide (18 < (L.length : Int)) = false := by first | assumption | (rw [k1]; first | assumption | decide | (simp only [List.length_cons]; assumption))
          have hPS2 : parseS s = if !L.all digB then (0, 0, false) else if unitsL (valL 0 L * sg) D ≠ s then (0, 0, false) else (valL 0 L * sg, D, true) := by
            rw [hPS, c1, c2, if_neg (by decide)]
          simp only [decide_eq_false_iff_not] at c1 c2
          refine loop_ret (i := 2) (fun e h => look e 0 = some (.v (.c (.p (.str (bs s))))) ∧ look e 5 = some (.v (.c (.p (.int .i64 D)))) ∧ look e 8 = some (.v (.c (.p (.int .i64 sg)))) ∧ look e 9 = some (.v (.c (.p (.int .i64 (valL 0 L))))) ∧ L.all digB = true) (fun e h => look e 2 = some (.v (.c (.p (.int .i64 0)))) ∧ look e 3 = some (.v (.c (.p (.int .i64 0)))) ∧ look e 4 = some (.v (.c (.p (.bool false)))) ∧ L.all digB = false) (fun Q' hQ hR => ?_) (fun e h hm => ?_) (fun e h hm => ?_)
          · refine go_loop (α := Nat) (fun j => j) (fun j e h => look e 0 = some (.v (.c (.p (.str (bs s))))) ∧ look e 5 = some (.v (.c (.p (.int .i64 D)))) ∧ look e 8 = some (.v (.c (.p (.int .i64 sg)))) ∧ look e 6 = some (.v (.c (.p (.str (bs L))))) ∧ look e 10 = some (.v (.c (.p (.int .i64 ((L.length : Int) - (j : Int)))))) ∧ look e 9 = some (.v (.c (.p (.int .i64 (valL 0 (L.take (L.length - j))))))) ∧ j ≤ L.length ∧ (L.take (L.length - j)).all digB = true) L.length ⟨?_, ?_, ?_, ?_, ?_, ?_, Nat.le_refl _, by simp⟩ ?_
            · simp only [look]; simp [e0]
            · simp only [look]; simp [e5]
            · simp only [look]; simp [k2]
            · simp only [look]; simp [e6, k1]
            · simp only [look]; simp
            · simp only [look]; simp [valL]
            · rintro X j e h ⟨f0, f5, f8, f6, f10, f9, hj, hn⟩ hX
              cases j with
              | zero =>
                obtain ⟨C, eC⟩ : ∃ C : Int, (L.length : Int) - ((0 : Nat) : Int) = C := ⟨_, rfl⟩
                rw [eC] at f10
                have d0 : decide (C < (L.length : Int)) = false := by simp only [decide_eq_false_iff_not]; omega
                rw [Nat.sub_zero, List.take_length] at hn f9
                simp (config := { maxSteps := 4000000, implicitDefEqProofs := false }) only [F_digit_eq, F_units_eq, WK0, WK1, WK2, WK3, WK4, WK5, WK6, WK7, WK8, WK9, WK10, WK11, WK12, WK13, WK14, WK15, WK16, WK17, WK18, WK19, WK20, WK21, WK22, WK23, WK24, WK25, WK26, WK27, WK28, WK29, WK30, look_hit, look_miss, List.map_cons, List.map_nil, Nat.add_zero, max_v, min_v, ↓cnd_t, ↓cnd_f, ↓grd_b, ↓grd_u, startEnv, Option.map_some, List.length_nil, List.length_cons, List.nil_append, List.cons_append, List.getElem?_cons_zero, List.getElem?_cons_succ, List.set_cons_zero, List.set_cons_succ, Bool.not_true, Bool.not_false, reduceIte, Nat.reduceEqDiff, Nat.reduceAdd, Nat.reduceLT, blt_lit, beq_lit, Bool.or_true, Bool.true_or, Bool.or_false, Bool.false_or, Bool.and_true, Bool.true_and, Bool.and_self, cond_true, cond_false, List.append_nil, Iv.eta, Option.map_none, idxO_l0, idxO_l1, decide_true, decide_false, reqs_true, Int.zero_sub, wrap_lit, wrapu_lit, Int.reduceLE, Int.reduceLT, Int.reduceAdd, Int.reduceSub, Int.reduceMul, Int.reduceNeg, Int.reduceEq, Option.bind_some, bin_shr_u64, bin_shl_u64, bin_shr_i64, bin_shl_i64, and_m32', Int.reduceToNat, Int.reducePow, Int.reduceMod, Int.reduceDiv, wrap_u64s, true_or, or_true, true_and, and_true, Option.isSome_none, Option.isSome_some, Nat.reduceLeDiff, Nat.reduceMul, Int.toNat_natCast, Int.cast_ofNat_Int, Int.natCast_zero, Int.natCast_one, List.isEmpty_nil, List.isEmpty_cons, List.replicate_zero, List.replicate_succ, T1, T2, T3, T4, T5, T6, T9, T10, T11, T12, T21, T22, T23, T25, T26, T27, T28, T29, T30, T32, T33, T34, T35, T36, T37, T38, T39, T40, T41, T42, T43, T44, T46, T48, T50, T52, T53, T54, T55, T56, T57, T58, T59, T61, T62, T63, T64, T65, T66, T67, T68, T69, T70, T71, T72, T73, T74, T75, T76, T77, T78, T79, T80, T81, T82, T83, T84, T85, T87, T89, T91, T92, T93, T95, T96, T97, T98, T102, T103, T105, T107, T108, T109, T110, T112, T116, T120, T121, T122, T123, T124, T125, T126, T128, T130, T131, T132, T134, T135, T136, T137, T138, T140, T142, T143, T145, T146, T148, T149, T150, T152, T153, T154, T155, T156, T163, T164, T165, T166, T167, f0, f5, f8, f6, f10, f9, d0]
                refine hQ _ _ ⟨?_, ?_, ?_, ?_, hn⟩
                all_goals (try simp only [look])
                all_goals simp [f0, f5, f8, f9]
              | succ j =>
                obtain ⟨K, eK⟩ : ∃ K : Nat, L.length - (j + 1) = K := ⟨_, rfl⟩
                obtain ⟨C, eC⟩ : ∃ C : Int, (L.length : Int) - ((j + 1 : Nat) : Int) = C := ⟨_, rfl⟩
                have hCK : C = (K : Int) := by omega
                have hK : K < L.length := by omega
                obtain ⟨b, hb⟩ : ∃ b, L[K]? = some b := ⟨_, List.getElem?_eq_getElem hK⟩
                rw [eC] at f10
                rw [eK] at hn f9
                obtain ⟨B, eB⟩ : ∃ B : Int, (b.toNat : Int) = B := ⟨_, rfl⟩
                have d0 : decide (C < (L.length : Int)) = true := by simp only [decide_eq_true_eq]; omega
                have i1 : ∀ hh : Heap, idxO hh (some tdStr) (some (.c (.p (.str (bs L))))) (some (.int .i64 C)) = some (some (sp (.int .u8 B)), hh) := by
                  intro hh
                  rw [← eB]
                  exact idx_txt (by omega) (by rw [hCK]; simpa using hb)
                have w5 : IntKind.i64.wrap (C + 1) = C + 1 := wrap_om (by omega) (by omega)
                have hdg := digit_b eB
                have hV := valL_in hn
                have ht : (L.take K).length = K := by rw [List.length_take]; omega
                rw [ht] at hV
                have hp9 := @pw10_mono (K : Int) 17 (by omega) (by omega) (by omega)
                have h17 : pw10 17 = 100000000000000000 := by decide
                obtain ⟨V, eV⟩ : ∃ V : Int, valL 0 (L.take K) = V := ⟨_, rfl⟩
                rw [eV] at hV f9
                cases hdb : digB b with
                | false =>
                  rw [hdb] at hdg
                  have hall : L.all digB = false := by
                    rw [Bool.eq_false_iff]
                    intro h2
                    rw [List.all_eq_true] at h2
                    rw [h2 b (List.mem_of_getElem? hb)] at hdb
                    cases hdb
                  simp (config := { maxSteps := 4000000, implicitDefEqProofs := false }) only [F_digit_eq, F_units_eq, WK0, WK1, WK2, WK3, WK4, WK5, WK6, WK7, WK8, WK9, WK10, WK11, WK12, WK13, WK14, WK15, WK16, WK17, WK18, WK19, WK20, WK21, WK22, WK23, WK24, WK25, WK26, WK27, WK28, WK29, WK30, look_hit, look_miss, List.map_cons, List.map_nil, Nat.add_zero, max_v, min_v, ↓cnd_t, ↓cnd_f, ↓grd_b, ↓grd_u, startEnv, Option.map_some, List.length_nil, List.length_cons, List.nil_append, List.cons_append, List.getElem?_cons_zero, List.getElem?_cons_succ, List.set_cons_zero, List.set_cons_succ, Bool.not_true, Bool.not_false, reduceIte, Nat.reduceEqDiff, Nat.reduceAdd, Nat.reduceLT, blt_lit, beq_lit, Bool.or_true, Bool.true_or, Bool.or_false, Bool.false_or, Bool.and_true, Bool.true_and, Bool.and_self, cond_true, cond_false, List.append_nil, Iv.eta, Option.map_none, idxO_l0, idxO_l1, decide_true, decide_false, reqs_true, Int.zero_sub, wrap_lit, wrapu_lit, Int.reduceLE, Int.reduceLT, Int.reduceAdd, Int.reduceSub, Int.reduceMul, Int.reduceNeg, Int.reduceEq, Option.bind_some, bin_shr_u64, bin_shl_u64, bin_shr_i64, bin_shl_i64, and_m32', Int.reduceToNat, Int.reducePow, Int.reduceMod, Int.reduceDiv, wrap_u64s, true_or, or_true, true_and, and_true, Option.isSome_none, Option.isSome_some, Nat.reduceLeDiff, Nat.reduceMul, Int.toNat_natCast, Int.cast_ofNat_Int, Int.natCast_zero, Int.natCast_one, List.isEmpty_nil, List.isEmpty_cons, List.replicate_zero, List.replicate_succ, T1, T2, T3, T4, T5, T6, T9, T10, T11, T12, T21, T22, T23, T25, T26, T27, T28, T29, T30, T32, T33, T34, T35, T36, T37, T38, T39, T40, T41, T42, T43, T44, T46, T48, T50, T52, T53, T54, T55, T56, T57, T58, T59, T61, T62, T63, T64, T65, T66, T67, T68, T69, T70, T71, T72, T73, T74, T75, T76, T77, T78, T79, T80, T81, T82, T83, T84, T85, T87, T89, T91, T92, T93, T95, T96, T97, T98, T102, T103, T105, T107, T108, T109, T110, T112, T116, T120, T121, T122, T123, T124, T125, T126, T128, T130, T131, T132, T134, T135, T136, T137, T138, T140, T142, T143, T145, T146, T148, T149, T150, T152, T153, T154, T155, T156, T163, T164, T165, T166, T167, f0, f5, f8, f6, f10, f9, d0, i1, hdg]
                  refine hR _ _ ⟨?_, ?_, ?_, hall⟩
                  all_goals (try simp only [look])
                  all_goals simp
                | true =>
                  rw [hdb] at hdg
                  have hdb2 := hdb
                  simp only [digB, Bool.and_eq_true, decide_eq_true_eq] at hdb2
                  have w1 : IntKind.u8.wrap (B - 48) = B - 48 := by rw [IntKind.wrap_u8]; omega
                  have w2 : IntKind.i64.wrap (B - 48) = B - 48 := wrap_om (by omega) (by omega)
                  have w3 : IntKind.i64.wrap (10 * V) = 10 * V := wrap_om (by omega) (by omega)
                  have w4 : IntKind.i64.wrap (10 * V + (B - 48)) = 10 * V + (B - 48) := wrap_om (by omega) (by omega)
                  have hst : valL 0 (L.take (L.length - j)) = 10 * V + (B - 48) := by
                    rw [show L.length - j = K + 1 by omega, take_snoc hb, valL_app, eV]
                    simp [valL, eB]
                  simp (config := { maxSteps := 4000000, implicitDefEqProofs := false }) only [F_digit_eq, F_units_eq, WK0, WK1, WK2, WK3, WK4, WK5, WK6, WK7, WK8, WK9, WK10, WK11, WK12, WK13, WK14, WK15, WK16, WK17, WK18, WK19, WK20, WK21, WK22, WK23, WK24, WK25, WK26, WK27, WK28, WK29, WK30, look_hit, look_miss, List.map_cons, List.map_nil, Nat.add_zero, max_v, min_v, ↓cnd_t, ↓cnd_f, ↓grd_b, ↓grd_u, startEnv, Option.map_some, List.length_nil, List.length_cons, List.nil_append, List.cons_append, List.getElem?_cons_zero, List.getElem?_cons_succ, List.set_cons_zero, List.set_cons_succ, Bool.not_true, Bool.not_false, reduceIte, Nat.reduceEqDiff, Nat.reduceAdd, Nat.reduceLT, blt_lit, beq_lit, Bool.or_true, Bool.true_or, Bool.or_false, Bool.false_or, Bool.and_true, Bool.true_and, Bool.and_self, cond_true, cond_false, List.append_nil, Iv.eta, Option.map_none, idxO_l0, idxO_l1, decide_true, decide_false, reqs_true, Int.zero_sub, wrap_lit, wrapu_lit, Int.reduceLE, Int.reduceLT, Int.reduceAdd, Int.reduceSub, Int.reduceMul, Int.reduceNeg, Int.reduceEq, Option.bind_some, bin_shr_u64, bin_shl_u64, bin_shr_i64, bin_shl_i64, and_m32', Int.reduceToNat, Int.reducePow, Int.reduceMod, Int.reduceDiv, wrap_u64s, true_or, or_true, true_and, and_true, Option.isSome_none, Option.isSome_some, Nat.reduceLeDiff, Nat.reduceMul, Int.toNat_natCast, Int.cast_ofNat_Int, Int.natCast_zero, Int.natCast_one, List.isEmpty_nil, List.isEmpty_cons, List.replicate_zero, List.replicate_succ, T1, T2, T3, T4, T5, T6, T9, T10, T11, T12, T21, T22, T23, T25, T26, T27, T28, T29, T30, T32, T33, T34, T35, T36, T37, T38, T39, T40, T41, T42, T43, T44, T46, T48, T50, T52, T53, T54, T55, T56, T57, T58, T59, T61, T62, T63, T64, T65, T66, T67, T68, T69, T70, T71, T72, T73, T74, T75, T76, T77, T78, T79, T80, T81, T82, T83, T84, T85, T87, T89, T91, T92, T93, T95, T96, T97, T98, T102, T103, T105, T107, T108, T109, T110, T112, T116, T120, T121, T122, T123, T124, T125, T126, T128, T130, T131, T132, T134, T135, T136, T137, T138, T140, T142, T143, T145, T146, T148, T149, T150, T152, T153, T154, T155, T156, T163, T164, T165, T166, T167, f0, f5, f8, f6, f10, f9, d0, i1, hdg, w1, w2, w3, w4, w5]
                  refine hX j _ _ (Nat.lt_succ_self j) ⟨?_, ?_, ?_, ?_, ?_, ?_, by omega, ?_⟩
                  · simp only [look]; simp [f0]
                  · simp only [look]; simp [f5]
                  · simp only [look]; simp [f8]
                  · simp only [look]; simp [f6]
                  · simp only [look]; simp; omega
                  · simp only [look]; rw [hst]; simp
                  · rw [show L.length - j = K + 1 by omega, take_snoc hb, List.all_append, hn]; simp [hdb]
          · obtain ⟨f0, f5, f8, f9, hall⟩ := hm
            have hV := valL_in hall
            have hp9 := @pw10_mono (L.length : Int) 18 (by omega) (by omega) (by omega)
            have h18 : pw10 18 = 1000000000000000000 := by decide
            obtain ⟨V, eV⟩ : ∃ V : Int, valL 0 L = V := ⟨_, rfl⟩
            rw [eV] at hV f9
            obtain ⟨m, em⟩ : ∃ m : Int, V * sg = m := ⟨_, rfl⟩
            have hmr : -1000000000000000000 < m ∧ m < 1000000000000000000 := by rw [← em]; rcases hsg with h2 | h2 <;> rw [h2] <;> omega
            have w1 : IntKind.i64.wrap (V * sg) = m := by rw [em]; exact wrap_om (by omega) (by omega)
            rw [hall, eV, em] at hPS2
            by_cases hu : unitsL m D = s
            · have d1 : (!decide (unitsL m D = s)) = false := by simp [hu]
              rw [if_neg (by decide), if_neg (by simpa using hu)] at hPS2
              simp (config := { maxSteps := 4000000, implicitDefEqProofs := false }) only [F_digit_eq, F_units_eq, WK0, WK1, WK2, WK3, WK4, WK5, WK6, WK7, WK8, WK9, WK10, WK11, WK12, WK13, WK14, WK15, WK16, WK17, WK18, WK19, WK20, WK21, WK22, WK23, WK24, WK25, WK26, WK27, WK28, WK29, WK30, look_hit, look_miss, List.map_cons, List.map_nil, Nat.add_zero, max_v, min_v, ↓cnd_t, ↓cnd_f, ↓grd_b, ↓grd_u, startEnv, Option.map_some, List.length_nil, List.length_cons, List.nil_append, List.cons_append, List.getElem?_cons_zero, List.getElem?_cons_succ, List.set_cons_zero, List.set_cons_succ, Bool.not_true, Bool.not_false, reduceIte, Nat.reduceEqDiff, Nat.reduceAdd, Nat.reduceLT, blt_lit, beq_lit, Bool.or_true, Bool.true_or, Bool.or_false, Bool.false_or, Bool.and_true, Bool.true_and, Bool.and_self, cond_true, cond_false, List.append_nil, Iv.eta, Option.map_none, idxO_l0, idxO_l1, decide_true, decide_false, reqs_true, Int.zero_sub, wrap_lit, wrapu_lit, Int.reduceLE, Int.reduceLT, Int.reduceAdd, Int.reduceSub, Int.reduceMul, Int.reduceNeg, Int.reduceEq, Option.bind_some, bin_shr_u64, bin_shl_u64, bin_shr_i64, bin_shl_i64, and_m32', Int.reduceToNat, Int.reducePow, Int.reduceMod, Int.reduceDiv, wrap_u64s, true_or, or_true, true_and, and_true, Option.isSome_none, Option.isSome_some, Nat.reduceLeDiff, Nat.reduceMul, Int.toNat_natCast, Int.cast_ofNat_Int, Int.natCast_zero, Int.natCast_one, List.isEmpty_nil, List.isEmpty_cons, List.replicate_zero, List.replicate_succ, T1, T2, T3, T4, T5, T6, T9, T10, T11, T12, T21, T22, T23, T25, T26, T27, T28, T29, T30, T32, T33, T34, T35, T36, T37, T38, T39, T40, T41, T42, T43, T44, T46, T48, T50, T52, T53, T54, T55, T56, T57, T58, T59, T61, T62, T63, T64, T65, T66, T67, T68, T69, T70, T71, T72, T73, T74, T75, T76, T77, T78, T79, T80, T81, T82, T83, T84, T85, T87, T89, T91, T92, T93, T95, T96, T97, T98, T102, T103, T105, T107, T108, T109, T110, T112, T116, T120, T121, T122, T123, T124, T125, T126, T128, T130, T131, T132, T134, T135, T136, T137, T138, T140, T142, T143, T145, T146, T148, T149, T150, T152, T153, T154, T155, T156, T163, T164, T165, T166, T167, f0, f5, f8, f9, w1, d1]
              repeat' (first | with_reducible refine cnd_split (fun hc => ?_) (fun hc => ?_) | with_reducible refine Reqs.mk ?_ ?_)
              all_goals first
                | exact ⟨by omega, by omega, by omega⟩
                | (refine endS_iib (t := (parseS s)) hr ?_
                   rw [hPS2])
            · have d1 : (!decide (unitsL m D = s)) = true := by simp [hu]
              rw [if_neg (by decide), if_pos hu] at hPS2
              simp (config := { maxSteps := 4000000, implicitDefEqProofs := false }) only [F_digit_eq, F_units_eq, WK0, WK1, WK2, WK3, WK4, WK5, WK6, WK7, WK8, WK9, WK10, WK11, WK12, WK13, WK14, WK15, WK16, WK17, WK18, WK19, WK20, WK21, WK22, WK23, WK24, WK25, WK26, WK27, WK28, WK29, WK30, look_hit, look_miss, List.map_cons, List.map_nil, Nat.add_zero, max_v, min_v, ↓cnd_t, ↓cnd_f, ↓grd_b, ↓grd_u, startEnv, Option.map_some, List.length_nil, List.length_cons, List.nil_append, List.cons_append, List.getElem?_cons_zero, List.getElem?_cons_succ, List.set_cons_zero, List.set_cons_succ, Bool.not_true, Bool.not_false, reduceIte, Nat.reduceEqDiff, Nat.reduceAdd, Nat.reduceLT, blt_lit, beq_lit, Bool.or_true, Bool.true_or, Bool.or_false, Bool.false_or, Bool.and_true, Bool.true_and, Bool.and_self, cond_true, cond_false, List.append_nil, Iv.eta, Option.map_none, idxO_l0, idxO_l1, decide_true, decide_false, reqs_true, Int.zero_sub, wrap_lit, wrapu_lit, Int.reduceLE, Int.reduceLT, Int.reduceAdd, Int.reduceSub, Int.reduceMul, Int.reduceNeg, Int.reduceEq, Option.bind_some, bin_shr_u64, bin_shl_u64, bin_shr_i64, bin_shl_i64, and_m32', Int.reduceToNat, Int.reducePow, Int.reduceMod, Int.reduceDiv, wrap_u64s, true_or, or_true, true_and, and_true, Option.isSome_none, Option.isSome_some, Nat.reduceLeDiff, Nat.reduceMul, Int.toNat_natCast, Int.cast_ofNat_Int, Int.natCast_zero, Int.natCast_one, List.isEmpty_nil, List.isEmpty_cons, List.replicate_zero, List.replicate_succ, T1, T2, T3, T4, T5, T6, T9, T10, T11, T12, T21, T22, T23, T25, T26, T27, T28, T29, T30, T32, T33, T34, T35, T36, T37, T38, T39, T40, T41, T42, T43, T44, T46, T48, T50, T52, T53, T54, T55, T56, T57, T58, T59, T61, T62, T63, T64, T65, T66, T67, T68, T69, T70, T71, T72, T73, T74, T75, T76, T77, T78, T79, T80, T81, T82, T83, T84, T85, T87, T89, T91, T92, T93, T95, T96, T97, T98, T102, T103, T105, T107, T108, T109, T110, T112, T116, T120, T121, T122, T123, T124, T125, T126, T128, T130, T131, T132, T134, T135, T136, T137, T138, T140, T142, T143, T145, T146, T148, T149, T150, T152, T153, T154, T155, T156, T163, T164, T165, T166, T167, f0, f5, f8, f9, w1, d1]
              repeat' (first | with_reducible refine cnd_split (fun hc => ?_) (fun hc => ?_) | with_reducible refine Reqs.mk ?_ ?_)
              all_goals first
                | exact ⟨by omega, by omega, by omega⟩
                | (refine endS_iib (t := (parseS s)) hr ?_
                   rw [hPS2])
          · obtain ⟨f2, f3, f4, hall⟩ := hm
            rw [hall, if_pos (by decide)] at hPS2
            simp (config := { maxSteps := 4000000, implicitDefEqProofs := false }) only [F_digit_eq, F_units_eq, WK0, WK1, WK2, WK3, WK4, WK5, WK6, WK7, WK8, WK9, WK10, WK11, WK12, WK13, WK14, WK15, WK16, WK17, WK18, WK19, WK20, WK21, WK22, WK23, WK24, WK25, WK26, WK27, WK28, WK29, WK30, look_hit, look_miss, List.map_cons, List.map_nil, Nat.add_zero, max_v, min_v, ↓cnd_t, ↓cnd_f, ↓grd_b, ↓grd_u, startEnv, Option.map_some, List.length_nil, List.length_cons, List.nil_append, List.cons_append, List.getElem?_cons_zero, List.getElem?_cons_succ, List.set_cons_zero, List.set_cons_succ, Bool.not_true, Bool.not_false, reduceIte, Nat.reduceEqDiff, Nat.reduceAdd, Nat.reduceLT, blt_lit, beq_lit, Bool.or_true, Bool.true_or, Bool.or_false, Bool.false_or, Bool.and_true, Bool.true_and, Bool.and_self, cond_true, cond_false, List.append_nil, Iv.eta, Option.map_none, idxO_l0, idxO_l1, decide_true, decide_false, reqs_true, Int.zero_sub, wrap_lit, wrapu_lit, Int.reduceLE, Int.reduceLT, Int.reduceAdd, Int.reduceSub, Int.reduceMul, Int.reduceNeg, Int.reduceEq, Option.bind_some, bin_shr_u64, bin_shl_u64, bin_shr_i64, bin_shl_i64, and_m32', Int.reduceToNat, Int.reducePow, Int.reduceMod, Int.reduceDiv, wrap_u64s, true_or, or_true, true_and, and_true, Option.isSome_none, Option.isSome_some, Nat.reduceLeDiff, Nat.reduceMul, Int.toNat_natCast, Int.cast_ofNat_Int, Int.natCast_zero, Int.natCast_one, List.isEmpty_nil, List.isEmpty_cons, List.replicate_zero, List.replicate_succ, T1, T2, T3, T4, T5, T6, T9, T10, T11, T12, T21, T22, T23, T25, T26, T27, T28, T29, T30, T32, T33, T34, T35, T36, T37, T38, T39, T40, T41, T42, T43, T44, T46, T48, T50, T52, T53, T54, T55, T56, T57, T58, T59, T61, T62, T63, T64, T65, T66, T67, T68, T69, T70, T71, T72, T73, T74, T75, T76, T77, T78, T79, T80, T81, T82, T83, T84, T85, T87, T89, T91, T92, T93, T95, T96, T97, T98, T102, T103, T105, T107, T108, T109, T110, T112, T116, T120, T121, T122, T123, T124, T125, T126, T128, T130, T131, T132, T134, T135, T136, T137, T138, T140, T142, T143, T145, T146, T148, T149, T150, T152, T153, T154, T155, T156, T163, T164, T165, T166, T167, f2, f3, f4]
            first
              | (refine endS_iib (t := (parseS s)) hr ?_
                 rw [hPS2])
  · cases hF

end Go.Proofs.YtcnapkdccjibpaaGreatDoor.Eng
