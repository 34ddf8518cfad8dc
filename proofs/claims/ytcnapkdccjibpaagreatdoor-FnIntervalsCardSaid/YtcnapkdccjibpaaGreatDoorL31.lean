/- What functions of the program compute, and that the program computes it: part 31. -/
import Derived.Test.YtcnapkdccjibpaaGreatDoorTab
import Derived.Test.YtcnapkdccjibpaaGreatDoorEng16
import Derived.Laws.BitsLemmas
import Derived.Laws.Bits64
import Derived.Laws.Bits64b
import Derived.Lib.Mul64
import Derived.Lib.BitFns
import Derived.Laws.Externs
import Derived.Test.YtcnapkdccjibpaaGreatDoorL1
import Derived.Test.YtcnapkdccjibpaaGreatDoorL2
import Derived.Test.YtcnapkdccjibpaaGreatDoorL23
import Derived.Test.YtcnapkdccjibpaaGreatDoorL28
import Derived.Test.YtcnapkdccjibpaaGreatDoorL29
import Derived.Test.YtcnapkdccjibpaaGreatDoorL30
namespace Go.Proofs.YtcnapkdccjibpaaGreatDoor.Eng
open Go Go.RowKit
set_option linter.unusedVariables false
set_option linter.unusedSimpArgs false
set_option maxRecDepth 100000
set_option maxHeartbeats 1000000
-- impl.readDigits
theorem impl_readDigits_readDigs_ok : Fn Tryz.prog 69 F_readDigs := by
  refine fn_of_go (O := orc [⟨39, F_cutTwo, .inl strings_Cut_cutTwo_ok⟩, ⟨48, F_within, .inl impl_within_within_ok⟩, ⟨82, F_units, .inl impl_digitsText_units_ok⟩, ⟨90, F_trimPre, .inl strings_TrimPrefix_trimPre_ok⟩, ⟨91, F_trimDig, .inl strings_Trim_trimDig_ok⟩]) mixed T_ok (orc_sound _) Tryz.func69 (by kernel_rfl) rfl Tryz.ntmps69 (by kernel_rfl) Tryz.results69 ?_
  intro args g pre r new hF hpre
  unfold F_readDigs at hF
  split at hF
  · rename_i s
    simp only [Option.some.injEq, Prod.mk.injEq] at hF
    obtain ⟨rfl, hr, rfl⟩ := hF
    refine ⟨by simp, ?_⟩
    obtain ⟨s, rfl⟩ : ∃ l, s = bs l := ⟨_, (bs_of s).symm⟩
    try simp only [bs_data] at hpre
    try simp only [bs_data] at hr
    obtain ⟨w0, pt, po, hC⟩ : ∃ w0 pt po, Lib.cut s [46] = (w0, pt, po) := ⟨_, _, _, rfl⟩
    obtain ⟨un, hU⟩ : ∃ un, Lib.trimPrefix w0 [45] = un := ⟨_, rfl⟩
    have l1 := cut_len s [46]
    have l2 := pre_len w0 [45]
    rw [hC] at l1
    rw [hU] at l2
    simp only at l1
    have hPI : parseI s = if (po != decide (0 < (pt.length : Int))) || (decide (9 < (pt.length : Int)) || (!within un.length 1 9 || !(un ++ pt).all digB)) then (0, 0, false)
      else (if un = w0 then valL 0 (un ++ pt) else -valL 0 (un ++ pt), (pt.length : Int), decide (unitsL (if un = w0 then valL 0 (un ++ pt) else -valL 0 (un ++ pt)) pt.length = s)) := by
      unfold parseI; simp only [hC, hU]
    have s1 : shortL un = true := shortL_of (by omega)
    have s2 : shortL pt = true := shortL_of (by omega)
    have s3 := trim_dig (un ++ pt)
    simp (config := { maxSteps := 4000000, implicitDefEqProofs := false }) only [F_cutTwo_eq, F_trimDig_eq, F_trimPre_eq, F_units_eq, F_within_eq, WK0, WK1, WK2, WK3, WK4, WK5, WK6, WK7, WK8, WK9, WK10, WK11, WK12, WK13, WK14, WK15, WK16, WK17, WK18, WK19, WK20, WK21, WK22, WK23, WK24, WK25, WK26, WK27, WK28, WK29, WK30, look_hit, look_miss, List.map_cons, List.map_nil, Nat.add_zero, max_v, min_v, ↓cnd_t, ↓cnd_f, ↓grd_b, ↓grd_u, startEnv, Option.map_some, List.length_nil, List.length_cons, List.nil_append, List.cons_append, List.getElem?_cons_zero, List.getElem?_cons_succ, List.set_cons_zero, List.set_cons_succ, Bool.not_true, Bool.not_false, reduceIte, Nat.reduceEqDiff, Nat.reduceAdd, Nat.reduceLT, blt_lit, beq_lit, Bool.or_true, Bool.true_or, Bool.or_false, Bool.false_or, Bool.and_true, Bool.true_and, Bool.and_self, cond_true, cond_false, List.append_nil, Iv.eta, Option.map_none, idxO_l0, idxO_l1, decide_true, decide_false, reqs_true, Int.zero_sub, wrap_lit, wrapu_lit, Int.reduceLE, Int.reduceLT, Int.reduceAdd, Int.reduceSub, Int.reduceMul, Int.reduceNeg, Int.reduceEq, Option.bind_some, bin_shr_u64, bin_shl_u64, bin_shr_i64, bin_shl_i64, and_m32', Int.reduceToNat, Int.reducePow, Int.reduceMod, Int.reduceDiv, wrap_u64s, true_or, or_true, true_and, and_true, Option.isSome_none, Option.isSome_some, Nat.reduceLeDiff, Nat.reduceMul, Int.toNat_natCast, Int.cast_ofNat_Int, Int.natCast_zero, Int.natCast_one, List.isEmpty_nil, List.isEmpty_cons, List.replicate_zero, List.replicate_succ, T1, T2, T3, T4, T5, T6, T9, T10, T11, T12, T21, T22, T23, T25, T26, T27, T28, T29, T30, T32, T33, T34, T35, T36, T37, T38, T39, T40, T41, T42, T43, T44, T46, T48, T50, T52, T53, T54, T55, T56, T57, T58, T59, T61, T62, T63, T64, T65, T66, T67, T68, T69, T70, T71, T72, T73, T74, T75, T76, T77, T78, T79, T80, T81, T82, T83, T84, T85, T87, T89, T91, T92, T93, T95, T96, T97, T98, T102, T103, T105, T107, T108, T109, T110, T112, T116, T120, T121, T122, T123, T124, T125, T126, T128, T130, T131, T132, T134, T135, T136, T137, T138, T140, T142, T143, T145, T146, T148, T149, T150, T152, T153, T154, T155, T156, T163, T164, T165, T166, T167, hC, hU, s1, s2]
    repeat' (first | with_reducible refine cnd_split (fun hc => ?_) (fun hc => ?_) | with_reducible refine Reqs.mk ?_ ?_)
    all_goals first
      | exact hpre
      | trivial
      | (simp only [List.length_append]; omega)
      | (refine endS_iib (t := (parseI s)) hr ?_
         rw [hPI]
         have hc2 := hc
         simp_all; done)
      | (refine endS_iib (t := (parseI s)) hr ?_
         have k1 : (po == decide (0 < (pt.length : Int))) = true := by assumption
         have k2 : decide (9 < (pt.length : Int)) = false := by assumption
         have k3 : within (un.length : Int) 1 9 = true := by assumption
         have k4 : decide (Lib.trimS (un ++ pt) [48, 49, 50, 51, 52, 53, 54, 55, 56, 57] = []) = false := by assumption
         rw [s3] at k4
         rw [hPI, bne, k1, k2, k3, k4]
         rfl)
      | skip
    have c1 : (po == decide (0 < (pt.length : Int))) = true := by assumption
    have c2 : decide (9 < (pt.length : Int)) = false := by assumption
    have c3 : within (un.length : Int) 1 9 = true := by assumption
    have c4 : decide (Lib.trimS (un ++ pt) [48, 49, 50, 51, 52, 53, 54, 55, 56, 57] = []) = true := by assumption
    rw [s3] at c4
    have hPI2 : parseI s = (if un = w0 then valL 0 (un ++ pt) else -valL 0 (un ++ pt), (pt.length : Int), decide (unitsL (if un = w0 then valL 0 (un ++ pt) else -valL 0 (un ++ pt)) pt.length = s)) := by
      have k1 : (po != decide (0 < (pt.length : Int))) = false := by rw [bne, c1]; rfl
      rw [hPI, k1, c2, c3, c4, if_neg (by decide)]
    have b1 : 1 ≤ un.length ∧ un.length ≤ 9 := by
      simp only [within, Bool.and_eq_true, decide_eq_true_eq] at c3; omega
    have b2 : pt.length ≤ 9 := by
      simp only [decide_eq_false_iff_not] at c2; omega
    obtain ⟨L, hL⟩ : ∃ L, un ++ pt = L := ⟨_, rfl⟩
    have hLl : L.length = un.length + pt.length := by rw [← hL]; simp
    rw [hL] at hPI2 c4
    have sB : shortB L = true := by simp [shortB]; omega
    have hv := fun i => @valL_in (L.take i) (by rw [List.all_eq_true] at c4 ⊢; exact fun x hx => c4 x (List.mem_of_mem_take hx))
    simp (config := { maxSteps := 4000000, implicitDefEqProofs := false }) only [F_cutTwo_eq, F_trimDig_eq, F_trimPre_eq, F_units_eq, F_within_eq, WK0, WK1, WK2, WK3, WK4, WK5, WK6, WK7, WK8, WK9, WK10, WK11, WK12, WK13, WK14, WK15, WK16, WK17, WK18, WK19, WK20, WK21, WK22, WK23, WK24, WK25, WK26, WK27, WK28, WK29, WK30, look_hit, look_miss, List.map_cons, List.map_nil, Nat.add_zero, max_v, min_v, ↓cnd_t, ↓cnd_f, ↓grd_b, ↓grd_u, startEnv, Option.map_some, List.length_nil, List.length_cons, List.nil_append, List.cons_append, List.getElem?_cons_zero, List.getElem?_cons_succ, List.set_cons_zero, List.set_cons_succ, Bool.not_true, Bool.not_false, reduceIte, Nat.reduceEqDiff, Nat.reduceAdd, Nat.reduceLT, blt_lit, beq_lit, Bool.or_true, Bool.true_or, Bool.or_false, Bool.false_or, Bool.and_true, Bool.true_and, Bool.and_self, cond_true, cond_false, List.append_nil, Iv.eta, Option.map_none, idxO_l0, idxO_l1, decide_true, decide_false, reqs_true, Int.zero_sub, wrap_lit, wrapu_lit, Int.reduceLE, Int.reduceLT, Int.reduceAdd, Int.reduceSub, Int.reduceMul, Int.reduceNeg, Int.reduceEq, Option.bind_some, bin_shr_u64, bin_shl_u64, bin_shr_i64, bin_shl_i64, and_m32', Int.reduceToNat, Int.reducePow, Int.reduceMod, Int.reduceDiv, wrap_u64s, true_or, or_true, true_and, and_true, Option.isSome_none, Option.isSome_some, Nat.reduceLeDiff, Nat.reduceMul, Int.toNat_natCast, Int.cast_ofNat_Int, Int.natCast_zero, Int.natCast_one, List.isEmpty_nil, List.isEmpty_cons, List.replicate_zero, List.replicate_succ, T1, T2, T3, T4, T5, T6, T9, T10, T11, T12, T21, T22, T23, T25, T26, T27, T28, T29, T30, T32, T33, T34, T35, T36, T37, T38, T39, T40, T41, T42, T43, T44, T46, T48, T50, T52, T53, T54, T55, T56, T57, T58, T59, T61, T62, T63, T64, T65, T66, T67, T68, T69, T70, T71, T72, T73, T74, T75, T76, T77, T78, T79, T80, T81, T82, T83, T84, T85, T87, T89, T91, T92, T93, T95, T96, T97, T98, T102, T103, T105, T107, T108, T109, T110, T112, T116, T120, T121, T122, T123, T124, T125, T126, T128, T130, T131, T132, T134, T135, T136, T137, T138, T140, T142, T143, T145, T146, T148, T149, T150, T152, T153, T154, T155, T156, T163, T164, T165, T166, T167, hL, sB]
    refine go_loop (α := Nat) (fun j => j) (fun j e h => look e 0 = some (.v (.c (.p (.str (bs s))))) ∧ look e 5 = some (.v (.c (.p (.str (bs w0))))) ∧ look e 9 = some (.v (.c (.p (.str (bs un))))) ∧ look e 8 = some (.v (.c (.p (.int .i64 (pt.length : Int))))) ∧ look e 47 = some (.v (.c (.row 0 0 L.length 1))) ∧ look e 48 = some (.v (.c (.p (.int .i64 (L.length : Int))))) ∧ look e 49 = some (.v (.c (.p (.int .i64 ((L.length : Int) - (j : Int)))))) ∧ look e 10 = some (.v (.c (.p (.int .i64 (valL 0 (L.take (L.length - j))))))) ∧ h = [byteL L] ∧ j ≤ L.length) L.length ⟨rfl, rfl, rfl, rfl, rfl, rfl, ?_, ?_, rfl, Nat.le_refl _⟩ ?_
    · show some (SV.v (.c (.p (.int .i64 0)))) = _
      congr 5; omega
    · show some (SV.v (.c (.p (.int .i64 0)))) = _
      rw [Nat.sub_self]; rfl
    · rintro X j e h ⟨e0, e5, e9, e8, e47, e48, e49, e10, rfl, hj⟩ hX
      cases j with
      | zero =>
        obtain ⟨C, eC⟩ : ∃ C : Int, (L.length : Int) - ((0 : Nat) : Int) = C := ⟨_, rfl⟩
        have hV := hv L.length
        rw [List.take_length] at hV
        obtain ⟨V, eV⟩ : ∃ V : Int, valL 0 (L.take (L.length - 0)) = V := ⟨_, rfl⟩
        have eV2 : valL 0 L = V := by rw [← eV, Nat.sub_zero, List.take_length]
        rw [eV2] at hV
        have hp := @pw10_in (L.length : Int) (by omega)
        rw [eC] at e49
        rw [eV] at e10
        have d0 : decide (C < (L.length : Int)) = false := by simp only [decide_eq_false_iff_not]; omega
        by_cases hu : un = w0
        · have d1 : (!decide (un = w0)) = false := by simp [hu]
          have hPI3 : parseI s = (V, (pt.length : Int), decide (unitsL V pt.length = s)) := by
            rw [hPI2, if_pos hu, eV2]
          simp (config := { maxSteps := 4000000, implicitDefEqProofs := false }) only [F_cutTwo_eq, F_trimDig_eq, F_trimPre_eq, F_units_eq, F_within_eq, WK0, WK1, WK2, WK3, WK4, WK5, WK6, WK7, WK8, WK9, WK10, WK11, WK12, WK13, WK14, WK15, WK16, WK17, WK18, WK19, WK20, WK21, WK22, WK23, WK24, WK25, WK26, WK27, WK28, WK29, WK30, look_hit, look_miss, List.map_cons, List.map_nil, Nat.add_zero, max_v, min_v, ↓cnd_t, ↓cnd_f, ↓grd_b, ↓grd_u, startEnv, Option.map_some, List.length_nil, List.length_cons, List.nil_append, List.cons_append, List.getElem?_cons_zero, List.getElem?_cons_succ, List.set_cons_zero, List.set_cons_succ, Bool.not_true, Bool.not_false, reduceIte, Nat.reduceEqDiff, Nat.reduceAdd, Nat.reduceLT, blt_lit, beq_lit, Bool.or_true, Bool.true_or, Bool.or_false, Bool.false_or, Bool.and_true, Bool.true_and, Bool.and_self, cond_true, cond_false, List.append_nil, Iv.eta, Option.map_none, idxO_l0, idxO_l1, decide_true, decide_false, reqs_true, Int.zero_sub, wrap_lit, wrapu_lit, Int.reduceLE, Int.reduceLT, Int.reduceAdd, Int.reduceSub, Int.reduceMul, Int.reduceNeg, Int.reduceEq, Option.bind_some, bin_shr_u64, bin_shl_u64, bin_shr_i64, bin_shl_i64, and_m32', Int.reduceToNat, Int.reducePow, Int.reduceMod, Int.reduceDiv, wrap_u64s, true_or, or_true, true_and, and_true, Option.isSome_none, Option.isSome_some, Nat.reduceLeDiff, Nat.reduceMul, Int.toNat_natCast, Int.cast_ofNat_Int, Int.natCast_zero, Int.natCast_one, List.isEmpty_nil, List.isEmpty_cons, List.replicate_zero, List.replicate_succ, T1, T2, T3, T4, T5, T6, T9, T10, T11, T12, T21, T22, T23, T25, T26, T27, T28, T29, T30, T32, T33, T34, T35, T36, T37, T38, T39, T40, T41, T42, T43, T44, T46, T48, T50, T52, T53, T54, T55, T56, T57, T58, T59, T61, T62, T63, T64, T65, T66, T67, T68, T69, T70, T71, T72, T73, T74, T75, T76, T77, T78, T79, T80, T81, T82, T83, T84, T85, T87, T89, T91, T92, T93, T95, T96, T97, T98, T102, T103, T105, T107, T108, T109, T110, T112, T116, T120, T121, T122, T123, T124, T125, T126, T128, T130, T131, T132, T134, T135, T136, T137, T138, T140, T142, T143, T145, T146, T148, T149, T150, T152, T153, T154, T155, T156, T163, T164, T165, T166, T167, e0, e5, e9, e8, e47, e48, e49, e10, d0, d1]
          repeat' (first | with_reducible refine cnd_split (fun hc => ?_) (fun hc => ?_) | with_reducible refine Reqs.mk ?_ ?_)
          all_goals first
            | exact ⟨by omega, by omega, by omega⟩
            | (refine endS_iib (t := (parseI s)) hr ?_
               rw [hPI3])
        · have d1 : (!decide (un = w0)) = true := by simp [hu]
          have w1 : IntKind.i64.wrap (-V) = -V := wrap_om (by omega) (by omega)
          have hPI3 : parseI s = (-V, (pt.length : Int), decide (unitsL (-V) pt.length = s)) := by
            rw [hPI2, if_neg hu, eV2]
          simp (config := { maxSteps := 4000000, implicitDefEqProofs := false }) only [F_cutTwo_eq, F_trimDig_eq, F_trimPre_eq, F_units_eq, F_within_eq, WK0, WK1, WK2, WK3, WK4, WK5, WK6, WK7, WK8, WK9, WK10, WK11, WK12, WK13, WK14, WK15, WK16, WK17, WK18, WK19, WK20, WK21, WK22, WK23, WK24, WK25, WK26, WK27, WK28, WK29, WK30, look_hit, look_miss, List.map_cons, List.map_nil, Nat.add_zero, max_v, min_v, ↓cnd_t, ↓cnd_f, ↓grd_b, ↓grd_u, startEnv, Option.map_some, List.length_nil, List.length_cons, List.nil_append, List.cons_append, List.getElem?_cons_zero, List.getElem?_cons_succ, List.set_cons_zero, List.set_cons_succ, Bool.not_true, Bool.not_false, reduceIte, Nat.reduceEqDiff, Nat.reduceAdd, Nat.reduceLT, blt_lit, beq_lit, Bool.or_true, Bool.true_or, Bool.or_false, Bool.false_or, Bool.and_true, Bool.true_and, Bool.and_self, cond_true, cond_false, List.append_nil, Iv.eta, Option.map_none, idxO_l0, idxO_l1, decide_true, decide_false, reqs_true, Int.zero_sub, wrap_lit, wrapu_lit, Int.reduceLE, Int.reduceLT, Int.reduceAdd, Int.reduceSub, Int.reduceMul, Int.reduceNeg, Int.reduceEq, Option.bind_some, bin_shr_u64, bin_shl_u64, bin_shr_i64, bin_shl_i64, and_m32', Int.reduceToNat, Int.reducePow, Int.reduceMod, Int.reduceDiv, wrap_u64s, true_or, or_true, true_and, and_true, Option.isSome_none, Option.isSome_some, Nat.reduceLeDiff, Nat.reduceMul, Int.toNat_natCast, Int.cast_ofNat_Int, Int.natCast_zero, Int.natCast_one, List.isEmpty_nil, List.isEmpty_cons, List.replicate_zero, List.replicate_succ, T1, T2, T3, T4, T5, T6, T9, T10, T11, T12, T21, T22, T23, T25, T26, T27, T28, T29, T30, T32, T33, T34, T35, T36, T37, T38, T39, T40, T41, T42, T43, T44, T46, T48, T50, T52, T53, T54, T55, T56, T57, T58, T59, T61, T62, T63, T64, T65, T66, T67, T68, T69, T70, T71, T72, T73, T74, T75, T76, T77, T78, T79, T80, T81, T82, T83, T84, T85, T87, T89, T91, T92, T93, T95, T96, T97, T98, T102, T103, T105, T107, T108, T109, T110, T112, T116, T120, T121, T122, T123, T124, T125, T126, T128, T130, T131, T132, T134, T135, T136, T137, T138, T140, T142, T143, T145, T146, T148, T149, T150, T152, T153, T154, T155, T156, T163, T164, T165, T166, T167, e0, e5, e9, e8, e47, e48, e49, e10, d0, d1, w1]
          repeat' (first | with_reducible refine cnd_split (fun hc => ?_) (fun hc => ?_) | with_reducible refine Reqs.mk ?_ ?_)
          all_goals first
            | exact ⟨by omega, by omega, by omega⟩
            | (refine endS_iib (t := (parseI s)) hr ?_
               rw [hPI3])
      | succ j =>
        obtain ⟨K, eK⟩ : ∃ K : Nat, L.length - (j + 1) = K := ⟨_, rfl⟩
        obtain ⟨C, eC⟩ : ∃ C : Int, (L.length : Int) - ((j + 1 : Nat) : Int) = C := ⟨_, rfl⟩
        have hCK : C = (K : Int) := by omega
        have hK : K < L.length := by omega
        obtain ⟨b, hb⟩ : ∃ b, L[K]? = some b := ⟨_, List.getElem?_eq_getElem hK⟩
        have hdb : digB b = true := by rw [List.all_eq_true] at c4; exact c4 b (List.mem_of_getElem? hb)
        simp only [digB, Bool.and_eq_true, decide_eq_true_eq] at hdb
        have hV := hv K
        have ht : (L.take K).length = K := by rw [List.length_take]; omega
        rw [ht] at hV
        have hp := @pw10_in (K : Int) (by omega)
        have hp9 := @pw10_mono (K : Int) 17 (by omega) (by omega) (by omega)
        have h17 : pw10 17 = 100000000000000000 := by decide
        obtain ⟨V, eV⟩ : ∃ V : Int, valL 0 (L.take K) = V := ⟨_, rfl⟩
        rw [eV] at hV
        rw [eK, eV] at e10
        rw [eC] at e49
        obtain ⟨B, eB⟩ : ∃ B : Int, (b.toNat : Int) = B := ⟨_, rfl⟩
        have d0 : decide (C < (L.length : Int)) = true := by simp only [decide_eq_true_eq]; omega
        have i1 : ∀ hh : Heap, iadO hh (some (tdRow [PC.int .u8 0])) (some (.c (.row 0 0 L.length 1))) (some (.int .i64 C)) = some (some (.v (.c (.ptr (.own 0 K)))), hh) := by
          intro hh
          rw [iadO_row rfl (by simp only [Bool.and_eq_true, decide_eq_true_eq]; omega), hCK]; simp
        have i2 : (byteL L)[K]? = some (.int .u8 B) := by
          unfold byteL; rw [List.getElem?_map, hb]; simp [eB]
        have w1 : IntKind.u8.wrap (B - 48) = B - 48 := by rw [IntKind.wrap_u8]; omega
        have w2 : IntKind.i64.wrap (B - 48) = B - 48 := wrap_om (by omega) (by omega)
        have w3 : IntKind.i64.wrap (10 * V) = 10 * V := wrap_om (by omega) (by omega)
        have w4 : IntKind.i64.wrap (10 * V + (B - 48)) = 10 * V + (B - 48) := wrap_om (by omega) (by omega)
        have w5 : IntKind.i64.wrap (C + 1) = C + 1 := wrap_om (by omega) (by omega)
        have hst : valL 0 (L.take (L.length - j)) = 10 * V + (B - 48) := by
          rw [show L.length - j = K + 1 by omega, List.take_add_one, hb, valL_app, eV]
          simp [valL, eB]
        simp (config := { maxSteps := 4000000, implicitDefEqProofs := false }) only [F_cutTwo_eq, F_trimDig_eq, F_trimPre_eq, F_units_eq, F_within_eq, WK0, WK1, WK2, WK3, WK4, WK5, WK6, WK7, WK8, WK9, WK10, WK11, WK12, WK13, WK14, WK15, WK16, WK17, WK18, WK19, WK20, WK21, WK22, WK23, WK24, WK25, WK26, WK27, WK28, WK29, WK30, look_hit, look_miss, List.map_cons, List.map_nil, Nat.add_zero, max_v, min_v, ↓cnd_t, ↓cnd_f, ↓grd_b, ↓grd_u, startEnv, Option.map_some, List.length_nil, List.length_cons, List.nil_append, List.cons_append, List.getElem?_cons_zero, List.getElem?_cons_succ, List.set_cons_zero, List.set_cons_succ, Bool.not_true, Bool.not_false, reduceIte, Nat.reduceEqDiff, Nat.reduceAdd, Nat.reduceLT, blt_lit, beq_lit, Bool.or_true, Bool.true_or, Bool.or_false, Bool.false_or, Bool.and_true, Bool.true_and, Bool.and_self, cond_true, cond_false, List.append_nil, Iv.eta, Option.map_none, idxO_l0, idxO_l1, decide_true, decide_false, reqs_true, Int.zero_sub, wrap_lit, wrapu_lit, Int.reduceLE, Int.reduceLT, Int.reduceAdd, Int.reduceSub, Int.reduceMul, Int.reduceNeg, Int.reduceEq, Option.bind_some, bin_shr_u64, bin_shl_u64, bin_shr_i64, bin_shl_i64, and_m32', Int.reduceToNat, Int.reducePow, Int.reduceMod, Int.reduceDiv, wrap_u64s, true_or, or_true, true_and, and_true, Option.isSome_none, Option.isSome_some, Nat.reduceLeDiff, Nat.reduceMul, Int.toNat_natCast, Int.cast_ofNat_Int, Int.natCast_zero, Int.natCast_one, List.isEmpty_nil, List.isEmpty_cons, List.replicate_zero, List.replicate_succ, T1, T2, T3, T4, T5, T6, T9, T10, T11, T12, T21, T22, T23, T25, T26, T27, T28, T29, T30, T32, T33, T34, T35, T36, T37, T38, T39, T40, T41, T42, T43, T44, T46, T48, T50, T52, T53, T54, T55, T56, T57, T58, T59, T61, T62, T63, T64, T65, T66, T67, T68, T69, T70, T71, T72, T73, T74, T75, T76, T77, T78, T79, T80, T81, T82, T83, T84, T85, T87, T89, T91, T92, T93, T95, T96, T97, T98, T102, T103, T105, T107, T108, T109, T110, T112, T116, T120, T121, T122, T123, T124, T125, T126, T128, T130, T131, T132, T134, T135, T136, T137, T138, T140, T142, T143, T145, T146, T148, T149, T150, T152, T153, T154, T155, T156, T163, T164, T165, T166, T167, e0, e5, e9, e8, e47, e48, e49, e10, d0, i1, i2, w1, w2, w3, w4, w5]
        refine hX j _ _ (Nat.lt_succ_self j) ⟨?_, ?_, ?_, ?_, ?_, ?_, ?_, ?_, rfl, by omega⟩
        all_goals (try simp only [look])
        all_goals first
          | (simp [e0, e5, e9, e8, e47, e48]; done)
          | (rw [hst]; simp; done)
          | (simp; omega)
  · cases hF

end Go.Proofs.YtcnapkdccjibpaaGreatDoor.Eng
