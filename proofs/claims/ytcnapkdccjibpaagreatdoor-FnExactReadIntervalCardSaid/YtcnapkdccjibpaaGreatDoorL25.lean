/- What functions of the program compute, and that the program computes it: part 25. -/
import Derived.Test.YtcnapkdccjibpaaGreatDoorTab
import Derived.Test.YtcnapkdccjibpaaGreatDoorEng16
import Derived.Laws.BitsLemmas
import Derived.Laws.Bits64
import Derived.Laws.Bits64b
import Derived.Lib.Mul64
import Derived.Lib.BitFns
import Derived.Laws.Externs
import Derived.Test.YtcnapkdccjibpaaGreatDoorL1
import Derived.Test.YtcnapkdccjibpaaGreatDoorL2
import Derived.Test.YtcnapkdccjibpaaGreatDoorL6
import Derived.Test.YtcnapkdccjibpaaGreatDoorL24
namespace Go.Proofs.YtcnapkdccjibpaaGreatDoor.Eng
open Go Go.RowKit
set_option linter.unusedVariables false
set_option linter.unusedSimpArgs false
set_option maxRecDepth 100000
set_option maxHeartbeats 1000000
-- impl.digitsText
theorem impl_digitsText_units_ok : Fn Tryz.prog 82 F_units := by
  refine fn_of_go (O := orc [⟨71, F_pow10, .inl impl_powerOfTen_pow10_ok⟩, ⟨99, F_dec, .inl impl_Decimal_dec_ok⟩, ⟨100, F_repeat1, .inl strings_Repeat_repeat1_ok⟩]) mixed T_ok (orc_sound _) Tryz.func82 (by kernel_rfl) rfl Tryz.ntmps82 (by kernel_rfl) Tryz.results82 ?_
  intro args g pre r new hF hpre
  unfold F_units at hF
  split at hF
  · rename_i m d
    simp only [Option.some.injEq, Prod.mk.injEq] at hF
    obtain ⟨rfl, hr, rfl⟩ := hF
    refine ⟨by simp, ?_⟩
    have ok := units_ok hpre
    obtain ⟨a0, a1, pa, pb, zP, ut, ur, uw, uq, ux⟩ := ok
    have hU : unitsL m d = (if m < 0 then [45] else []) ++ Lib.itoa (absZ m / pw10 d) ++ (if d = 0 then [] else [46] ++ zeros d (Lib.itoa (absZ m % pw10 d))) := rfl
    have k1 := @itoa_len (absZ m / pw10 d) (by omega) (by omega)
    have k2 := @itoa_len (absZ m % pw10 d) (by omega) (by omega)
    have k3 := fun h1 => @itoa_len_d (absZ m % pw10 d) d ux.1 ux.2 h1
    obtain ⟨s1, hs1⟩ : ∃ s1, Lib.itoa (absZ m / pw10 d) = s1 := ⟨_, rfl⟩
    obtain ⟨s2, hs2⟩ : ∃ s2, Lib.itoa (absZ m % pw10 d) = s2 := ⟨_, rfl⟩
    rw [hs1, hs2] at hU
    rw [hs1] at k1
    rw [hs2] at k2 k3
    obtain ⟨sg, hsg⟩ : ∃ sg : List UInt8, (if m < 0 then [45] else []) = sg := ⟨_, rfl⟩
    have sgl : sg.length ≤ 1 := by rw [← hsg]; split <;> simp
    rw [hsg] at hU
    obtain ⟨rp, hrp⟩ : ∃ rp, Lib.repeatL [48] (IntKind.i64.wrap (d - (s2.length : Int))).toNat = rp := ⟨_, rfl⟩
    have rpe : rp = List.replicate (d.toNat - s2.length) 48 := by
      rw [← hrp, rep_48, wrap_om (by omega) (by omega)]
      congr 1; omega
    have rpl : rp.length ≤ 9 := by rw [rpe, List.length_replicate]; omega
    have c1 : shortL sg = true := shortL_of (by omega)
    have c2' : shortL s1 = true := shortL_of (by omega)
    have c3 : shortL s2 = true := shortL_of (by omega)
    have c4' : shortL rp = true := shortL_of (by omega)
    have c5 : shortL (sg ++ s1) = true := shortL_of (by simp; omega)
    have c6' : shortL (sg ++ s1 ++ [46]) = true := shortL_of (by simp; omega)
    have c8 : shortL (s1 ++ [46]) = true := shortL_of (by simp; omega)
    have c7 : shortL (sg ++ s1 ++ [46] ++ rp) = true := shortL_of (by simp; omega)
    have c9 : shortL (s1 ++ [46] ++ rp) = true := shortL_of (by simp; omega)
    by_cases h0 : m < 0
    · have e0 : decide (m < 0) = true := by simpa using h0
      have em : IntKind.i64.wrap (-m) = absZ m := by unfold absZ; rw [if_pos h0]; exact wrap_om (by omega) (by omega)
      have es : sg = [45] := by rw [← hsg, if_pos h0]
      by_cases hd : d = 0
      · have e1 : decide (d = 0) = true := by simpa using hd
        simp (config := { maxSteps := 4000000, implicitDefEqProofs := false }) only [F_dec_eq, F_pow10_eq, F_repeat1_eq, WK0, WK1, WK2, WK3, WK4, WK5, WK6, WK7, WK8, WK9, WK10, WK11, WK12, WK13, WK14, WK15, WK16, WK17, WK18, WK19, WK20, WK21, WK22, WK23, WK24, WK25, WK26, WK27, WK28, WK29, WK30, look_hit, look_miss, List.map_cons, List.map_nil, Nat.add_zero, max_v, min_v, ↓cnd_t, ↓cnd_f, ↓grd_b, ↓grd_u, startEnv, Option.map_some, List.length_nil, List.length_cons, List.nil_append, List.cons_append, List.getElem?_cons_zero, List.getElem?_cons_succ, List.set_cons_zero, List.set_cons_succ, Bool.not_true, Bool.not_false, reduceIte, Nat.reduceEqDiff, Nat.reduceAdd, Nat.reduceLT, blt_lit, beq_lit, Bool.or_true, Bool.true_or, Bool.or_false, Bool.false_or, Bool.and_true, Bool.true_and, Bool.and_self, cond_true, cond_false, List.append_nil, Iv.eta, Option.map_none, idxO_l0, idxO_l1, decide_true, decide_false, reqs_true, Int.zero_sub, wrap_lit, wrapu_lit, Int.reduceLE, Int.reduceLT, Int.reduceAdd, Int.reduceSub, Int.reduceMul, Int.reduceNeg, Int.reduceEq, Option.bind_some, bin_shr_u64, bin_shl_u64, bin_shr_i64, bin_shl_i64, and_m32', Int.reduceToNat, Int.reducePow, Int.reduceMod, Int.reduceDiv, wrap_u64s, true_or, or_true, true_and, and_true, Option.isSome_none, Option.isSome_some, Nat.reduceLeDiff, Nat.reduceMul, Int.toNat_natCast, Int.cast_ofNat_Int, Int.natCast_zero, Int.natCast_one, List.isEmpty_nil, List.isEmpty_cons, List.replicate_zero, List.replicate_succ, T1, T2, T3, T4, T5, T6, T9, T10, T11, T12, T21, T22, T23, T25, T26, T27, T28, T29, T30, T32, T33, T34, T35, T36, T37, T38, T39, T40, T41, T42, T43, T44, T46, T48, T50, T52, T53, T54, T55, T56, T57, T58, T59, T61, T62, T63, T64, T65, T66, T67, T68, T69, T70, T71, T72, T73, T74, T75, T76, T77, T78, T79, T80, T81, T82, T83, T84, T85, T87, T89, T91, T92, T93, T95, T96, T97, T98, T102, T103, T105, T107, T108, T109, T110, T112, T116, T120, T121, T122, T123, T124, T125, T126, T128, T130, T131, T132, T134, T135, T136, T137, T138, T140, T142, T143, T145, T146, T148, T149, T150, T152, T153, T154, T155, T156, T163, T164, T165, T166, T167, bin_rem_c, bin_quo_c, e0, em, ← es, zP, ut, ur, uw, hs1, hs2, e1, c1, c2']
        repeat' (first | with_reducible refine cnd_split (fun hc => ?_) (fun hc => ?_) | with_reducible refine Reqs.mk ?_ ?_)
        all_goals first | trivial | (refine endS_s (t := (unitsL m d)) hr ?_; rw [hU, if_pos hd]; simp) | omega
      · have e1 : decide (d = 0) = false := by simpa using hd
        have k4 := k3 (by omega)
        simp (config := { maxSteps := 4000000, implicitDefEqProofs := false }) only [F_dec_eq, F_pow10_eq, F_repeat1_eq, WK0, WK1, WK2, WK3, WK4, WK5, WK6, WK7, WK8, WK9, WK10, WK11, WK12, WK13, WK14, WK15, WK16, WK17, WK18, WK19, WK20, WK21, WK22, WK23, WK24, WK25, WK26, WK27, WK28, WK29, WK30, look_hit, look_miss, List.map_cons, List.map_nil, Nat.add_zero, max_v, min_v, ↓cnd_t, ↓cnd_f, ↓grd_b, ↓grd_u, startEnv, Option.map_some, List.length_nil, List.length_cons, List.nil_append, List.cons_append, List.getElem?_cons_zero, List.getElem?_cons_succ, List.set_cons_zero, List.set_cons_succ, Bool.not_true, Bool.not_false, reduceIte, Nat.reduceEqDiff, Nat.reduceAdd, Nat.reduceLT, blt_lit, beq_lit, Bool.or_true, Bool.true_or, Bool.or_false, Bool.false_or, Bool.and_true, Bool.true_and, Bool.and_self, cond_true, cond_false, List.append_nil, Iv.eta, Option.map_none, idxO_l0, idxO_l1, decide_true, decide_false, reqs_true, Int.zero_sub, wrap_lit, wrapu_lit, Int.reduceLE, Int.reduceLT, Int.reduceAdd, Int.reduceSub, Int.reduceMul, Int.reduceNeg, Int.reduceEq, Option.bind_some, bin_shr_u64, bin_shl_u64, bin_shr_i64, bin_shl_i64, and_m32', Int.reduceToNat, Int.reducePow, Int.reduceMod, Int.reduceDiv, wrap_u64s, true_or, or_true, true_and, and_true, Option.isSome_none, Option.isSome_some, Nat.reduceLeDiff, Nat.reduceMul, Int.toNat_natCast, Int.cast_ofNat_Int, Int.natCast_zero, Int.natCast_one, List.isEmpty_nil, List.isEmpty_cons, List.replicate_zero, List.replicate_succ, T1, T2, T3, T4, T5, T6, T9, T10, T11, T12, T21, T22, T23, T25, T26, T27, T28, T29, T30, T32, T33, T34, T35, T36, T37, T38, T39, T40, T41, T42, T43, T44, T46, T48, T50, T52, T53, T54, T55, T56, T57, T58, T59, T61, T62, T63, T64, T65, T66, T67, T68, T69, T70, T71, T72, T73, T74, T75, T76, T77, T78, T79, T80, T81, T82, T83, T84, T85, T87, T89, T91, T92, T93, T95, T96, T97, T98, T102, T103, T105, T107, T108, T109, T110, T112, T116, T120, T121, T122, T123, T124, T125, T126, T128, T130, T131, T132, T134, T135, T136, T137, T138, T140, T142, T143, T145, T146, T148, T149, T150, T152, T153, T154, T155, T156, T163, T164, T165, T166, T167, bin_rem_c, bin_quo_c, e0, em, ← es, zP, ut, ur, uw, hs1, hs2, e1, hrp, c1, c2', c3, c4', c5, c6', c7]
        repeat' (first | with_reducible refine cnd_split (fun hc => ?_) (fun hc => ?_) | with_reducible refine Reqs.mk ?_ ?_)
        all_goals first | trivial | (refine endS_s (t := (unitsL m d)) hr ?_; rw [hU, if_neg hd, rpe]; simp [zeros]) | omega | (rw [wrap_om (by omega) (by omega)]; omega) | (simp; done)
    · have e0 : decide (m < 0) = false := by simpa using h0
      have em : absZ m = m := by unfold absZ; rw [if_neg h0]
      have es : sg = [] := by rw [← hsg, if_neg h0]
      rw [em] at ut ur uw hs1 hs2 uq ux
      by_cases hd : d = 0
      · have e1 : decide (d = 0) = true := by simpa using hd
        simp (config := { maxSteps := 4000000, implicitDefEqProofs := false }) only [F_dec_eq, F_pow10_eq, F_repeat1_eq, WK0, WK1, WK2, WK3, WK4, WK5, WK6, WK7, WK8, WK9, WK10, WK11, WK12, WK13, WK14, WK15, WK16, WK17, WK18, WK19, WK20, WK21, WK22, WK23, WK24, WK25, WK26, WK27, WK28, WK29, WK30, look_hit, look_miss, List.map_cons, List.map_nil, Nat.add_zero, max_v, min_v, ↓cnd_t, ↓cnd_f, ↓grd_b, ↓grd_u, startEnv, Option.map_some, List.length_nil, List.length_cons, List.nil_append, List.cons_append, List.getElem?_cons_zero, List.getElem?_cons_succ, List.set_cons_zero, List.set_cons_succ, Bool.not_true, Bool.not_false, reduceIte, Nat.reduceEqDiff, Nat.reduceAdd, Nat.reduceLT, blt_lit, beq_lit, Bool.or_true, Bool.true_or, Bool.or_false, Bool.false_or, Bool.and_true, Bool.true_and, Bool.and_self, cond_true, cond_false, List.append_nil, Iv.eta, Option.map_none, idxO_l0, idxO_l1, decide_true, decide_false, reqs_true, Int.zero_sub, wrap_lit, wrapu_lit, Int.reduceLE, Int.reduceLT, Int.reduceAdd, Int.reduceSub, Int.reduceMul, Int.reduceNeg, Int.reduceEq, Option.bind_some, bin_shr_u64, bin_shl_u64, bin_shr_i64, bin_shl_i64, and_m32', Int.reduceToNat, Int.reducePow, Int.reduceMod, Int.reduceDiv, wrap_u64s, true_or, or_true, true_and, and_true, Option.isSome_none, Option.isSome_some, Nat.reduceLeDiff, Nat.reduceMul, Int.toNat_natCast, Int.cast_ofNat_Int, Int.natCast_zero, Int.natCast_one, List.isEmpty_nil, List.isEmpty_cons, List.replicate_zero, List.replicate_succ, T1, T2, T3, T4, T5, T6, T9, T10, T11, T12, T21, T22, T23, T25, T26, T27, T28, T29, T30, T32, T33, T34, T35, T36, T37, T38, T39, T40, T41, T42, T43, T44, T46, T48, T50, T52, T53, T54, T55, T56, T57, T58, T59, T61, T62, T63, T64, T65, T66, T67, T68, T69, T70, T71, T72, T73, T74, T75, T76, T77, T78, T79, T80, T81, T82, T83, T84, T85, T87, T89, T91, T92, T93, T95, T96, T97, T98, T102, T103, T105, T107, T108, T109, T110, T112, T116, T120, T121, T122, T123, T124, T125, T126, T128, T130, T131, T132, T134, T135, T136, T137, T138, T140, T142, T143, T145, T146, T148, T149, T150, T152, T153, T154, T155, T156, T163, T164, T165, T166, T167, bin_rem_c, bin_quo_c, e0, zP, ut, ur, uw, hs1, hs2, e1, c1, c2']
        repeat' (first | with_reducible refine cnd_split (fun hc => ?_) (fun hc => ?_) | with_reducible refine Reqs.mk ?_ ?_)
        all_goals first | trivial | (refine endS_s (t := (unitsL m d)) hr ?_; rw [hU, if_pos hd, es]; simp) | omega
      · have e1 : decide (d = 0) = false := by simpa using hd
        have k4 := k3 (by omega)
        simp (config := { maxSteps := 4000000, implicitDefEqProofs := false }) only [F_dec_eq, F_pow10_eq, F_repeat1_eq, WK0, WK1, WK2, WK3, WK4, WK5, WK6, WK7, WK8, WK9, WK10, WK11, WK12, WK13, WK14, WK15, WK16, WK17, WK18, WK19, WK20, WK21, WK22, WK23, WK24, WK25, WK26, WK27, WK28, WK29, WK30, look_hit, look_miss, List.map_cons, List.map_nil, Nat.add_zero, max_v, min_v, ↓cnd_t, ↓cnd_f, ↓grd_b, ↓grd_u, startEnv, Option.map_some, List.length_nil, List.length_cons, List.nil_append, List.cons_append, List.getElem?_cons_zero, List.getElem?_cons_succ, List.set_cons_zero, List.set_cons_succ, Bool.not_true, Bool.not_false, reduceIte, Nat.reduceEqDiff, Nat.reduceAdd, Nat.reduceLT, blt_lit, beq_lit, Bool.or_true, Bool.true_or, Bool.or_false, Bool.false_or, Bool.and_true, Bool.true_and, Bool.and_self, cond_true, cond_false, List.append_nil, Iv.eta, Option.map_none, idxO_l0, idxO_l1, decide_true, decide_false, reqs_true, Int.zero_sub, wrap_lit, wrapu_lit, Int.reduceLE, Int.reduceLT, Int.reduceAdd, Int.reduceSub, Int.reduceMul, Int.reduceNeg, Int.reduceEq, Option.bind_some, bin_shr_u64, bin_shl_u64, bin_shr_i64, bin_shl_i64, and_m32', Int.reduceToNat, Int.reducePow, Int.reduceMod, Int.reduceDiv, wrap_u64s, true_or, or_true, true_and, and_true, Option.isSome_none, Option.isSome_some, Nat.reduceLeDiff, Nat.reduceMul, Int.toNat_natCast, Int.cast_ofNat_Int, Int.natCast_zero, Int.natCast_one, List.isEmpty_nil, List.isEmpty_cons, List.replicate_zero, List.replicate_succ, T1, T2, T3, T4, T5, T6, T9, T10, T11, T12, T21, T22, T23, T25, T26, T27, T28, T29, T30, T32, T33, T34, T35, T36, T37, T38, T39, T40, T41, T42, T43, T44, T46, T48, T50, T52, T53, T54, T55, T56, T57, T58, T59, T61, T62, T63, T64, T65, T66, T67, T68, T69, T70, T71, T72, T73, T74, T75, T76, T77, T78, T79, T80, T81, T82, T83, T84, T85, T87, T89, T91, T92, T93, T95, T96, T97, T98, T102, T103, T105, T107, T108, T109, T110, T112, T116, T120, T121, T122, T123, T124, T125, T126, T128, T130, T131, T132, T134, T135, T136, T137, T138, T140, T142, T143, T145, T146, T148, T149, T150, T152, T153, T154, T155, T156, T163, T164, T165, T166, T167, bin_rem_c, bin_quo_c, e0, zP, ut, ur, uw, hs1, hs2, e1, hrp, c1, c2', c3, c4', c8, c9]
        repeat' (first | with_reducible refine cnd_split (fun hc => ?_) (fun hc => ?_) | with_reducible refine Reqs.mk ?_ ?_)
        all_goals first | trivial | (refine endS_s (t := (unitsL m d)) hr ?_; rw [hU, if_neg hd, rpe, es]; simp [zeros]) | omega | (rw [wrap_om (by omega) (by omega)]; omega) | (simp; done)
  · cases hF

-- spec.l03Units
theorem spec_l03Units_units_ok : Fn Tryz.prog 84 F_units := by
  refine fn_of_go (O := orc [⟨64, F_pow10, .inl spec_l03Power_pow10_ok⟩, ⟨101, F_dec, .inl spec_l01Dec_dec_ok⟩]) mixed T_ok (orc_sound _) Tryz.func84 (by kernel_rfl) rfl Tryz.ntmps84 (by kernel_rfl) Tryz.results84 ?_
  intro args g pre r new hF hpre
  unfold F_units at hF
  split at hF
  · rename_i m d
    simp only [Option.some.injEq, Prod.mk.injEq] at hF
    obtain ⟨rfl, hr, rfl⟩ := hF
    refine ⟨by simp, ?_⟩
    have ok := units_ok hpre
    obtain ⟨a0, a1, pa, pb, zP, ut, ur, uw, uq, ux⟩ := ok
    have hU : unitsL m d = (if m < 0 then [45] else []) ++ Lib.itoa (absZ m / pw10 d) ++ (if d = 0 then [] else [46] ++ zeros d (Lib.itoa (absZ m % pw10 d))) := rfl
    have k1 := @itoa_len (absZ m / pw10 d) (by omega) (by omega)
    have k2 := @itoa_len (absZ m % pw10 d) (by omega) (by omega)
    have k3 := fun h1 => @itoa_len_d (absZ m % pw10 d) d ux.1 ux.2 h1
    obtain ⟨s1, hs1⟩ : ∃ s1, Lib.itoa (absZ m / pw10 d) = s1 := ⟨_, rfl⟩
    obtain ⟨s2, hs2⟩ : ∃ s2, Lib.itoa (absZ m % pw10 d) = s2 := ⟨_, rfl⟩
    rw [hs1, hs2] at hU
    rw [hs1] at k1
    rw [hs2] at k2 k3
    obtain ⟨sg, hsg⟩ : ∃ sg : List UInt8, (if m < 0 then [45] else []) = sg := ⟨_, rfl⟩
    have sgl : sg.length ≤ 1 := by rw [← hsg]; split <;> simp
    rw [hsg] at hU
    have c1 : shortL sg = true := shortL_of (by omega)
    have c2' : shortL s1 = true := shortL_of (by omega)
    have c3 : shortL s2 = true := shortL_of (by omega)
    have c5 : shortL (sg ++ s1) = true := shortL_of (by simp; omega)
    have c6' : shortL (sg ++ s1 ++ [46]) = true := shortL_of (by simp; omega)
    have c8 : shortL (s1 ++ [46]) = true := shortL_of (by simp; omega)
    have LOOP : ∀ (body : Code) (Q : Ex → St → Prop) (T' : Tab) (O : Orc) (g' : Gv) (e : Env) (N : Nat), d ≠ 0 → N = d.toNat - s2.length →
        look e 1 = some (.v (.c (.p (.int .i64 d)))) → look e 7 = some (.v (.c (.p (.str (bs (sg ++ s1)))))) → look e 8 = some (.v (.c (.p (.str (bs s2))))) →
        (∀ (X : St → Prop) (k : Nat) (e' : Env), k ≤ N → look e' 1 = some (.v (.c (.p (.int .i64 d)))) → look e' 7 = some (.v (.c (.p (.str (bs (sg ++ s1)))))) → look e' 8 = some (.v (.c (.p (.str (bs (List.replicate (N - k) 48 ++ s2)))))) →
          (∀ (j : Nat) (e'' : Env), j + 1 = k → look e'' 1 = some (.v (.c (.p (.int .i64 d)))) → look e'' 7 = some (.v (.c (.p (.str (bs (sg ++ s1)))))) → look e'' 8 = some (.v (.c (.p (.str (bs (List.replicate (N - j) 48 ++ s2)))))) → X ⟨e'', []⟩) →
          goS T' O g' body (some ⟨e', []⟩) (seqK X Q)) → goS T' O g' (.loop body) (some ⟨e, []⟩) Q := by
      intro body Q T' O g' e N hd hN l1 l7 l8 step
      refine go_loop (α := Nat) (fun k => k) (fun k e h => h = [] ∧ k ≤ N ∧ look e 1 = some (.v (.c (.p (.int .i64 d)))) ∧ look e 7 = some (.v (.c (.p (.str (bs (sg ++ s1)))))) ∧ look e 8 = some (.v (.c (.p (.str (bs (List.replicate (N - k) 48 ++ s2))))))) N ⟨rfl, Nat.le_refl _, l1, l7, by simpa using l8⟩ ?_
      rintro X k e' h ⟨rfl, hk, m1, m7, m8⟩ hX
      exact step X k e' hk m1 m7 m8 fun j e'' hj n1 n7 n8 => hX j e'' [] (by omega) ⟨rfl, by omega, n1, n7, n8⟩
    have len2 : ∀ (N k : Nat), N = d.toNat - s2.length → k ≤ N → (s2.length : Int) ≤ d → ((List.replicate (N - k) (48 : UInt8) ++ s2).length : Int) = d - k := by
      intro N k hN hk hle
      rw [List.length_append, List.length_replicate]; omega
    have grow1 : ∀ (N j : Nat), j + 1 ≤ N → [(48 : UInt8)] ++ (List.replicate (N - (j + 1)) 48 ++ s2) = List.replicate (N - j) 48 ++ s2 := by
      intro N j h
      rw [show N - j = N - (j + 1) + 1 by omega, List.replicate_succ]; rfl
    have fin : ∀ (N : Nat), N = d.toNat - s2.length → d ≠ 0 → sg ++ s1 ++ [46] ++ (List.replicate N 48 ++ s2) = unitsL m d := by
      intro N hN hd
      rw [hU, if_neg hd, hN]; simp [zeros]
    by_cases h0 : m < 0
    · have e0 : decide (m < 0) = true := by simpa using h0
      have em : IntKind.i64.wrap (-m) = absZ m := by unfold absZ; rw [if_pos h0]; exact wrap_om (by omega) (by omega)
      have es : sg = [45] := by rw [← hsg, if_pos h0]
      by_cases hd : d = 0
      · have e1 : decide (d = 0) = true := by simpa using hd
        simp (config := { maxSteps := 4000000, implicitDefEqProofs := false }) only [F_dec_eq, F_pow10_eq, WK0, WK1, WK2, WK3, WK4, WK5, WK6, WK7, WK8, WK9, WK10, WK11, WK12, WK13, WK14, WK15, WK16, WK17, WK18, WK19, WK20, WK21, WK22, WK23, WK24, WK25, WK26, WK27, WK28, WK29, WK30, look_hit, look_miss, List.map_cons, List.map_nil, Nat.add_zero, max_v, min_v, ↓cnd_t, ↓cnd_f, ↓grd_b, ↓grd_u, startEnv, Option.map_some, List.length_nil, List.length_cons, List.nil_append, List.cons_append, List.getElem?_cons_zero, List.getElem?_cons_succ, List.set_cons_zero, List.set_cons_succ, Bool.not_true, Bool.not_false, reduceIte, Nat.reduceEqDiff, Nat.reduceAdd, Nat.reduceLT, blt_lit, beq_lit, Bool.or_true, Bool.true_or, Bool.or_false, Bool.false_or, Bool.and_true, Bool.true_and, Bool.and_self, cond_true, cond_false, List.append_nil, Iv.eta, Option.map_none, idxO_l0, idxO_l1, decide_true, decide_false, reqs_true, Int.zero_sub, wrap_lit, wrapu_lit, Int.reduceLE, Int.reduceLT, Int.reduceAdd, Int.reduceSub, Int.reduceMul, Int.reduceNeg, Int.reduceEq, Option.bind_some, bin_shr_u64, bin_shl_u64, bin_shr_i64, bin_shl_i64, and_m32', Int.reduceToNat, Int.reducePow, Int.reduceMod, Int.reduceDiv, wrap_u64s, true_or, or_true, true_and, and_true, Option.isSome_none, Option.isSome_some, Nat.reduceLeDiff, Nat.reduceMul, Int.toNat_natCast, Int.cast_ofNat_Int, Int.natCast_zero, Int.natCast_one, List.isEmpty_nil, List.isEmpty_cons, List.replicate_zero, List.replicate_succ, T1, T2, T3, T4, T5, T6, T9, T10, T11, T12, T21, T22, T23, T25, T26, T27, T28, T29, T30, T32, T33, T34, T35, T36, T37, T38, T39, T40, T41, T42, T43, T44, T46, T48, T50, T52, T53, T54, T55, T56, T57, T58, T59, T61, T62, T63, T64, T65, T66, T67, T68, T69, T70, T71, T72, T73, T74, T75, T76, T77, T78, T79, T80, T81, T82, T83, T84, T85, T87, T89, T91, T92, T93, T95, T96, T97, T98, T102, T103, T105, T107, T108, T109, T110, T112, T116, T120, T121, T122, T123, T124, T125, T126, T128, T130, T131, T132, T134, T135, T136, T137, T138, T140, T142, T143, T145, T146, T148, T149, T150, T152, T153, T154, T155, T156, T163, T164, T165, T166, T167, bin_rem_c, bin_quo_c, e0, em, ← es, zP, ut, ur, uw, hs1, hs2, e1, c1, c2']
        repeat' (first | with_reducible refine cnd_split (fun hc => ?_) (fun hc => ?_) | with_reducible refine Reqs.mk ?_ ?_)
        all_goals first | trivial | (refine endS_s (t := (unitsL m d)) hr ?_; rw [hU, if_pos hd]; simp) | omega
      · have e1 : decide (d = 0) = false := by simpa using hd
        have k4 := k3 (by omega)
        simp (config := { maxSteps := 4000000, implicitDefEqProofs := false }) only [F_dec_eq, F_pow10_eq, WK0, WK1, WK2, WK3, WK4, WK5, WK6, WK7, WK8, WK9, WK10, WK11, WK12, WK13, WK14, WK15, WK16, WK17, WK18, WK19, WK20, WK21, WK22, WK23, WK24, WK25, WK26, WK27, WK28, WK29, WK30, look_hit, look_miss, List.map_cons, List.map_nil, Nat.add_zero, max_v, min_v, ↓cnd_t, ↓cnd_f, ↓grd_b, ↓grd_u, startEnv, Option.map_some, List.length_nil, List.length_cons, List.nil_append, List.cons_append, List.getElem?_cons_zero, List.getElem?_cons_succ, List.set_cons_zero, List.set_cons_succ, Bool.not_true, Bool.not_false, reduceIte, Nat.reduceEqDiff, Nat.reduceAdd, Nat.reduceLT, blt_lit, beq_lit, Bool.or_true, Bool.true_or, Bool.or_false, Bool.false_or, Bool.and_true, Bool.true_and, Bool.and_self, cond_true, cond_false, List.append_nil, Iv.eta, Option.map_none, idxO_l0, idxO_l1, decide_true, decide_false, reqs_true, Int.zero_sub, wrap_lit, wrapu_lit, Int.reduceLE, Int.reduceLT, Int.reduceAdd, Int.reduceSub, Int.reduceMul, Int.reduceNeg, Int.reduceEq, Option.bind_some, bin_shr_u64, bin_shl_u64, bin_shr_i64, bin_shl_i64, and_m32', Int.reduceToNat, Int.reducePow, Int.reduceMod, Int.reduceDiv, wrap_u64s, true_or, or_true, true_and, and_true, Option.isSome_none, Option.isSome_some, Nat.reduceLeDiff, Nat.reduceMul, Int.toNat_natCast, Int.cast_ofNat_Int, Int.natCast_zero, Int.natCast_one, List.isEmpty_nil, List.isEmpty_cons, List.replicate_zero, List.replicate_succ, T1, T2, T3, T4, T5, T6, T9, T10, T11, T12, T21, T22, T23, T25, T26, T27, T28, T29, T30, T32, T33, T34, T35, T36, T37, T38, T39, T40, T41, T42, T43, T44, T46, T48, T50, T52, T53, T54, T55, T56, T57, T58, T59, T61, T62, T63, T64, T65, T66, T67, T68, T69, T70, T71, T72, T73, T74, T75, T76, T77, T78, T79, T80, T81, T82, T83, T84, T85, T87, T89, T91, T92, T93, T95, T96, T97, T98, T102, T103, T105, T107, T108, T109, T110, T112, T116, T120, T121, T122, T123, T124, T125, T126, T128, T130, T131, T132, T134, T135, T136, T137, T138, T140, T142, T143, T145, T146, T148, T149, T150, T152, T153, T154, T155, T156, T163, T164, T165, T166, T167, bin_rem_c, bin_quo_c, e0, em, zP, ut, ur, uw, hs1, hs2, e1, ← es, c1, c2', c3, c5, c6']
        repeat' (first | with_reducible refine cnd_split (fun hc => ?_) (fun hc => ?_) | with_reducible refine Reqs.mk ?_ ?_)
        all_goals first | trivial | omega | skip
        refine LOOP _ _ _ _ _ _ _ hd rfl rfl rfl rfl ?_
        intro X k e hk l1 l7 l8 hX
        have ln := len2 _ k rfl hk k4
        cases k with
        | zero =>
          have f0 : decide (((List.replicate (d.toNat - s2.length - 0) (48 : UInt8) ++ s2).length : Int) < d) = false := by rw [ln]; simp only [decide_eq_false_iff_not]; omega
          have f1 : shortL (List.replicate (d.toNat - s2.length - 0) (48 : UInt8) ++ s2) = true := shortL_of (by omega)
          simp (config := { maxSteps := 4000000, implicitDefEqProofs := false }) only [F_dec_eq, F_pow10_eq, WK0, WK1, WK2, WK3, WK4, WK5, WK6, WK7, WK8, WK9, WK10, WK11, WK12, WK13, WK14, WK15, WK16, WK17, WK18, WK19, WK20, WK21, WK22, WK23, WK24, WK25, WK26, WK27, WK28, WK29, WK30, look_hit, look_miss, List.map_cons, List.map_nil, Nat.add_zero, max_v, min_v, ↓cnd_t, ↓cnd_f, ↓grd_b, ↓grd_u, startEnv, Option.map_some, List.length_nil, List.length_cons, List.nil_append, List.cons_append, List.getElem?_cons_zero, List.getElem?_cons_succ, List.set_cons_zero, List.set_cons_succ, Bool.not_true, Bool.not_false, reduceIte, Nat.reduceEqDiff, Nat.reduceAdd, Nat.reduceLT, blt_lit, beq_lit, Bool.or_true, Bool.true_or, Bool.or_false, Bool.false_or, Bool.and_true, Bool.true_and, Bool.and_self, cond_true, cond_false, List.append_nil, Iv.eta, Option.map_none, idxO_l0, idxO_l1, decide_true, decide_false, reqs_true, Int.zero_sub, wrap_lit, wrapu_lit, Int.reduceLE, Int.reduceLT, Int.reduceAdd, Int.reduceSub, Int.reduceMul, Int.reduceNeg, Int.reduceEq, Option.bind_some, bin_shr_u64, bin_shl_u64, bin_shr_i64, bin_shl_i64, and_m32', Int.reduceToNat, Int.reducePow, Int.reduceMod, Int.reduceDiv, wrap_u64s, true_or, or_true, true_and, and_true, Option.isSome_none, Option.isSome_some, Nat.reduceLeDiff, Nat.reduceMul, Int.toNat_natCast, Int.cast_ofNat_Int, Int.natCast_zero, Int.natCast_one, List.isEmpty_nil, List.isEmpty_cons, List.replicate_zero, List.replicate_succ, T1, T2, T3, T4, T5, T6, T9, T10, T11, T12, T21, T22, T23, T25, T26, T27, T28, T29, T30, T32, T33, T34, T35, T36, T37, T38, T39, T40, T41, T42, T43, T44, T46, T48, T50, T52, T53, T54, T55, T56, T57, T58, T59, T61, T62, T63, T64, T65, T66, T67, T68, T69, T70, T71, T72, T73, T74, T75, T76, T77, T78, T79, T80, T81, T82, T83, T84, T85, T87, T89, T91, T92, T93, T95, T96, T97, T98, T102, T103, T105, T107, T108, T109, T110, T112, T116, T120, T121, T122, T123, T124, T125, T126, T128, T130, T131, T132, T134, T135, T136, T137, T138, T140, T142, T143, T145, T146, T148, T149, T150, T152, T153, T154, T155, T156, T163, T164, T165, T166, T167, bin_rem_c, bin_quo_c, l1, l7, l8, f0, f1, c5, c6']
          refine endS_s (t := (unitsL m d)) hr ?_
          exact fin _ (by omega) hd
        | succ j =>
          have f0 : decide (((List.replicate (d.toNat - s2.length - (j + 1)) (48 : UInt8) ++ s2).length : Int) < d) = true := by rw [ln]; simp only [decide_eq_true_eq]; omega
          have f1 : shortL (List.replicate (d.toNat - s2.length - (j + 1)) (48 : UInt8) ++ s2) = true := shortL_of (by omega)
          have f2 := grow1 (d.toNat - s2.length) j (by omega)
          simp (config := { maxSteps := 4000000, implicitDefEqProofs := false }) only [F_dec_eq, F_pow10_eq, WK0, WK1, WK2, WK3, WK4, WK5, WK6, WK7, WK8, WK9, WK10, WK11, WK12, WK13, WK14, WK15, WK16, WK17, WK18, WK19, WK20, WK21, WK22, WK23, WK24, WK25, WK26, WK27, WK28, WK29, WK30, look_hit, look_miss, List.map_cons, List.map_nil, Nat.add_zero, max_v, min_v, ↓cnd_t, ↓cnd_f, ↓grd_b, ↓grd_u, startEnv, Option.map_some, List.length_nil, List.length_cons, List.nil_append, List.cons_append, List.getElem?_cons_zero, List.getElem?_cons_succ, List.set_cons_zero, List.set_cons_succ, Bool.not_true, Bool.not_false, reduceIte, Nat.reduceEqDiff, Nat.reduceAdd, Nat.reduceLT, blt_lit, beq_lit, Bool.or_true, Bool.true_or, Bool.or_false, Bool.false_or, Bool.and_true, Bool.true_and, Bool.and_self, cond_true, cond_false, List.append_nil, Iv.eta, Option.map_none, idxO_l0, idxO_l1, decide_true, decide_false, reqs_true, Int.zero_sub, wrap_lit, wrapu_lit, Int.reduceLE, Int.reduceLT, Int.reduceAdd, Int.reduceSub, Int.reduceMul, Int.reduceNeg, Int.reduceEq, Option.bind_some, bin_shr_u64, bin_shl_u64, bin_shr_i64, bin_shl_i64, and_m32', Int.reduceToNat, Int.reducePow, Int.reduceMod, Int.reduceDiv, wrap_u64s, true_or, or_true, true_and, and_true, Option.isSome_none, Option.isSome_some, Nat.reduceLeDiff, Nat.reduceMul, Int.toNat_natCast, Int.cast_ofNat_Int, Int.natCast_zero, Int.natCast_one, List.isEmpty_nil, List.isEmpty_cons, List.replicate_zero, List.replicate_succ, T1, T2, T3, T4, T5, T6, T9, T10, T11, T12, T21, T22, T23, T25, T26, T27, T28, T29, T30, T32, T33, T34, T35, T36, T37, T38, T39, T40, T41, T42, T43, T44, T46, T48, T50, T52, T53, T54, T55, T56, T57, T58, T59, T61, T62, T63, T64, T65, T66, T67, T68, T69, T70, T71, T72, T73, T74, T75, T76, T77, T78, T79, T80, T81, T82, T83, T84, T85, T87, T89, T91, T92, T93, T95, T96, T97, T98, T102, T103, T105, T107, T108, T109, T110, T112, T116, T120, T121, T122, T123, T124, T125, T126, T128, T130, T131, T132, T134, T135, T136, T137, T138, T140, T142, T143, T145, T146, T148, T149, T150, T152, T153, T154, T155, T156, T163, T164, T165, T166, T167, bin_rem_c, bin_quo_c, l1, l7, l8, f0, f1, c5, f2]
          refine hX j _ rfl ?_ ?_ ?_
          all_goals (try simp only [look])
          all_goals simp [l1, l7]
    · have e0 : decide (m < 0) = false := by simpa using h0
      have em : absZ m = m := by unfold absZ; rw [if_neg h0]
      have es : sg = [] := by rw [← hsg, if_neg h0]
      rw [em] at ut ur uw hs1 hs2 uq ux
      by_cases hd : d = 0
      · have e1 : decide (d = 0) = true := by simpa using hd
        simp (config := { maxSteps := 4000000, implicitDefEqProofs := false }) only [F_dec_eq, F_pow10_eq, WK0, WK1, WK2, WK3, WK4, WK5, WK6, WK7, WK8, WK9, WK10, WK11, WK12, WK13, WK14, WK15, WK16, WK17, WK18, WK19, WK20, WK21, WK22, WK23, WK24, WK25, WK26, WK27, WK28, WK29, WK30, look_hit, look_miss, List.map_cons, List.map_nil, Nat.add_zero, max_v, min_v, ↓cnd_t, ↓cnd_f, ↓grd_b, ↓grd_u, startEnv, Option.map_some, List.length_nil, List.length_cons, List.nil_append, List.cons_append, List.getElem?_cons_zero, List.getElem?_cons_succ, List.set_cons_zero, List.set_cons_succ, Bool.not_true, Bool.not_false, reduceIte, Nat.reduceEqDiff, Nat.reduceAdd, Nat.reduceLT, blt_lit, beq_lit, Bool.or_true, Bool.true_or, Bool.or_false, Bool.false_or, Bool.and_true, Bool.true_and, Bool.and_self, cond_true, cond_false, List.append_nil, Iv.eta, Option.map_none, idxO_l0, idxO_l1, decide_true, decide_false, reqs_true, Int.zero_sub, wrap_lit, wrapu_lit, Int.reduceLE, Int.reduceLT, Int.reduceAdd, Int.reduceSub, Int.reduceMul, Int.reduceNeg, Int.reduceEq, Option.bind_some, bin_shr_u64, bin_shl_u64, bin_shr_i64, bin_shl_i64, and_m32', Int.reduceToNat, Int.reducePow, Int.reduceMod, Int.reduceDiv, wrap_u64s, true_or, or_true, true_and, and_true, Option.isSome_none, Option.isSome_some, Nat.reduceLeDiff, Nat.reduceMul, Int.toNat_natCast, Int.cast_ofNat_Int, Int.natCast_zero, Int.natCast_one, List.isEmpty_nil, List.isEmpty_cons, List.replicate_zero, List.replicate_succ, T1, T2, T3, T4, T5, T6, T9, T10, T11, T12, T21, T22, T23, T25, T26, T27, T28, T29, T30, T32, T33, T34, T35, T36, T37, T38, T39, T40, T41, T42, T43, T44, T46, T48, T50, T52, T53, T54, T55, T56, T57, T58, T59, T61, T62, T63, T64, T65, T66, T67, T68, T69, T70, T71, T72, T73, T74, T75, T76, T77, T78, T79, T80, T81, T82, T83, T84, T85, T87, T89, T91, T92, T93, T95, T96, T97, T98, T102, T103, T105, T107, T108, T109, T110, T112, T116, T120, T121, T122, T123, T124, T125, T126, T128, T130, T131, T132, T134, T135, T136, T137, T138, T140, T142, T143, T145, T146, T148, T149, T150, T152, T153, T154, T155, T156, T163, T164, T165, T166, T167, bin_rem_c, bin_quo_c, e0, zP, ut, ur, uw, hs1, hs2, e1, c1, c2']
        repeat' (first | with_reducible refine cnd_split (fun hc => ?_) (fun hc => ?_) | with_reducible refine Reqs.mk ?_ ?_)
        all_goals first | trivial | (refine endS_s (t := (unitsL m d)) hr ?_; rw [hU, if_pos hd, es]; simp) | omega
      · have e1 : decide (d = 0) = false := by simpa using hd
        have k4 := k3 (by omega)
        simp (config := { maxSteps := 4000000, implicitDefEqProofs := false }) only [F_dec_eq, F_pow10_eq, WK0, WK1, WK2, WK3, WK4, WK5, WK6, WK7, WK8, WK9, WK10, WK11, WK12, WK13, WK14, WK15, WK16, WK17, WK18, WK19, WK20, WK21, WK22, WK23, WK24, WK25, WK26, WK27, WK28, WK29, WK30, look_hit, look_miss, List.map_cons, List.map_nil, Nat.add_zero, max_v, min_v, ↓cnd_t, ↓cnd_f, ↓grd_b, ↓grd_u, startEnv, Option.map_some, List.length_nil, List.length_cons, List.nil_append, List.cons_append, List.getElem?_cons_zero, List.getElem?_cons_succ, List.set_cons_zero, List.set_cons_succ, Bool.not_true, Bool.not_false, reduceIte, Nat.reduceEqDiff, Nat.reduceAdd, Nat.reduceLT, blt_lit, beq_lit, Bool.or_true, Bool.true_or, Bool.or_false, Bool.false_or, Bool.and_true, Bool.true_and, Bool.and_self, cond_true, cond_false, List.append_nil, Iv.eta, Option.map_none, idxO_l0, idxO_l1, decide_true, decide_false, reqs_true, Int.zero_sub, wrap_lit, wrapu_lit, Int.reduceLE, Int.reduceLT, Int.reduceAdd, Int.reduceSub, Int.reduceMul, Int.reduceNeg, Int.reduceEq, Option.bind_some, bin_shr_u64, bin_shl_u64, bin_shr_i64, bin_shl_i64, and_m32', Int.reduceToNat, Int.reducePow, Int.reduceMod, Int.reduceDiv, wrap_u64s, true_or, or_true, true_and, and_true, Option.isSome_none, Option.isSome_some, Nat.reduceLeDiff, Nat.reduceMul, Int.toNat_natCast, Int.cast_ofNat_Int, Int.natCast_zero, Int.natCast_one, List.isEmpty_nil, List.isEmpty_cons, List.replicate_zero, List.replicate_succ, T1, T2, T3, T4, T5, T6, T9, T10, T11, T12, T21, T22, T23, T25, T26, T27, T28, T29, T30, T32, T33, T34, T35, T36, T37, T38, T39, T40, T41, T42, T43, T44, T46, T48, T50, T52, T53, T54, T55, T56, T57, T58, T59, T61, T62, T63, T64, T65, T66, T67, T68, T69, T70, T71, T72, T73, T74, T75, T76, T77, T78, T79, T80, T81, T82, T83, T84, T85, T87, T89, T91, T92, T93, T95, T96, T97, T98, T102, T103, T105, T107, T108, T109, T110, T112, T116, T120, T121, T122, T123, T124, T125, T126, T128, T130, T131, T132, T134, T135, T136, T137, T138, T140, T142, T143, T145, T146, T148, T149, T150, T152, T153, T154, T155, T156, T163, T164, T165, T166, T167, bin_rem_c, bin_quo_c, e0, zP, ut, ur, uw, hs1, hs2, e1, c1, c2', c3, c8]
        repeat' (first | with_reducible refine cnd_split (fun hc => ?_) (fun hc => ?_) | with_reducible refine Reqs.mk ?_ ?_)
        all_goals first | trivial | omega | skip
        have es1 : sg ++ s1 = s1 := by rw [es]; rfl
        rw [es1] at LOOP fin
        refine LOOP _ _ _ _ _ _ _ hd rfl rfl rfl rfl ?_
        intro X k e hk l1 l7 l8 hX
        have ln := len2 _ k rfl hk k4
        cases k with
        | zero =>
          have f0 : decide (((List.replicate (d.toNat - s2.length - 0) (48 : UInt8) ++ s2).length : Int) < d) = false := by rw [ln]; simp only [decide_eq_false_iff_not]; omega
          have f1 : shortL (List.replicate (d.toNat - s2.length - 0) (48 : UInt8) ++ s2) = true := shortL_of (by omega)
          simp (config := { maxSteps := 4000000, implicitDefEqProofs := false }) only [F_dec_eq, F_pow10_eq, WK0, WK1, WK2, WK3, WK4, WK5, WK6, WK7, WK8, WK9, WK10, WK11, WK12, WK13, WK14, WK15, WK16, WK17, WK18, WK19, WK20, WK21, WK22, WK23, WK24, WK25, WK26, WK27, WK28, WK29, WK30, look_hit, look_miss, List.map_cons, List.map_nil, Nat.add_zero, max_v, min_v, ↓cnd_t, ↓cnd_f, ↓grd_b, ↓grd_u, startEnv, Option.map_some, List.length_nil, List.length_cons, List.nil_append, List.cons_append, List.getElem?_cons_zero, List.getElem?_cons_succ, List.set_cons_zero, List.set_cons_succ, Bool.not_true, Bool.not_false, reduceIte, Nat.reduceEqDiff, Nat.reduceAdd, Nat.reduceLT, blt_lit, beq_lit, Bool.or_true, Bool.true_or, Bool.or_false, Bool.false_or, Bool.and_true, Bool.true_and, Bool.and_self, cond_true, cond_false, List.append_nil, Iv.eta, Option.map_none, idxO_l0, idxO_l1, decide_true, decide_false, reqs_true, Int.zero_sub, wrap_lit, wrapu_lit, Int.reduceLE, Int.reduceLT, Int.reduceAdd, Int.reduceSub, Int.reduceMul, Int.reduceNeg, Int.reduceEq, Option.bind_some, bin_shr_u64, bin_shl_u64, bin_shr_i64, bin_shl_i64, and_m32', Int.reduceToNat, Int.reducePow, Int.reduceMod, Int.reduceDiv, wrap_u64s, true_or, or_true, true_and, and_true, Option.isSome_none, Option.isSome_some, Nat.reduceLeDiff, Nat.reduceMul, Int.toNat_natCast, Int.cast_ofNat_Int, Int.natCast_zero, Int.natCast_one, List.isEmpty_nil, List.isEmpty_cons, List.replicate_zero, List.replicate_succ, T1, T2, T3, T4, T5, T6, T9, T10, T11, T12, T21, T22, T23, T25, T26, T27, T28, T29, T30, T32, T33, T34, T35, T36, T37, T38, T39, T40, T41, T42, T43, T44, T46, T48, T50, T52, T53, T54, T55, T56, T57, T58, T59, T61, T62, T63, T64, T65, T66, T67, T68, T69, T70, T71, T72, T73, T74, T75, T76, T77, T78, T79, T80, T81, T82, T83, T84, T85, T87, T89, T91, T92, T93, T95, T96, T97, T98, T102, T103, T105, T107, T108, T109, T110, T112, T116, T120, T121, T122, T123, T124, T125, T126, T128, T130, T131, T132, T134, T135, T136, T137, T138, T140, T142, T143, T145, T146, T148, T149, T150, T152, T153, T154, T155, T156, T163, T164, T165, T166, T167, bin_rem_c, bin_quo_c, l1, l7, l8, f0, f1, c2', c8]
          refine endS_s (t := (unitsL m d)) hr ?_
          exact fin _ (by omega) hd
        | succ j =>
          have f0 : decide (((List.replicate (d.toNat - s2.length - (j + 1)) (48 : UInt8) ++ s2).length : Int) < d) = true := by rw [ln]; simp only [decide_eq_true_eq]; omega
          have f1 : shortL (List.replicate (d.toNat - s2.length - (j + 1)) (48 : UInt8) ++ s2) = true := shortL_of (by omega)
          have f2 := grow1 (d.toNat - s2.length) j (by omega)
          simp (config := { maxSteps := 4000000, implicitDefEqProofs := false }) only [F_dec_eq, F_pow10_eq, WK0, WK1, WK2, WK3, WK4, WK5, WK6, WK7, WK8, WK9, WK10, WK11, WK12, WK13, WK14, WK15, WK16, WK17, WK18, WK19, WK20, WK21, WK22, WK23, WK24, WK25, WK26, WK27, WK28, WK29, WK30, look_hit, look_miss, List.map_cons, List.map_nil, Nat.add_zero, max_v, min_v, ↓cnd_t, ↓cnd_f, ↓grd_b, ↓grd_u, startEnv, Option.map_some, List.length_nil, List.length_cons, List.nil_append, List.cons_append, List.getElem?_cons_zero, List.getElem?_cons_succ, List.set_cons_zero, List.set_cons_succ, Bool.not_true, Bool.not_false, reduceIte, Nat.reduceEqDiff, Nat.reduceAdd, Nat.reduceLT, blt_lit, beq_lit, Bool.or_true, Bool.true_or, Bool.or_false, Bool.false_or, Bool.and_true, Bool.true_and, Bool.and_self, cond_true, cond_false, List.append_nil, Iv.eta, Option.map_none, idxO_l0, idxO_l1, decide_true, decide_false, reqs_true, Int.zero_sub, wrap_lit, wrapu_lit, Int.reduceLE, Int.reduceLT, Int.reduceAdd, Int.reduceSub, Int.reduceMul, Int.reduceNeg, Int.reduceEq, Option.bind_some, bin_shr_u64, bin_shl_u64, bin_shr_i64, bin_shl_i64, and_m32', Int.reduceToNat, Int.reducePow, Int.reduceMod, Int.reduceDiv, wrap_u64s, true_or, or_true, true_and, and_true, Option.isSome_none, Option.isSome_some, Nat.reduceLeDiff, Nat.reduceMul, Int.toNat_natCast, Int.cast_ofNat_Int, Int.natCast_zero, Int.natCast_one, List.isEmpty_nil, List.isEmpty_cons, List.replicate_zero, List.replicate_succ, T1, T2, T3, T4, T5, T6, T9, T10, T11, T12, T21, T22, T23, T25, T26, T27, T28, T29, T30, T32, T33, T34, T35, T36, T37, T38, T39, T40, T41, T42, T43, T44, T46, T48, T50, T52, T53, T54, T55, T56, T57, T58, T59, T61, T62, T63, T64, T65, T66, T67, T68, T69, T70, T71, T72, T73, T74, T75, T76, T77, T78, T79, T80, T81, T82, T83, T84, T85, T87, T89, T91, T92, T93, T95, T96, T97, T98, T102, T103, T105, T107, T108, T109, T110, T112, T116, T120, T121, T122, T123, T124, T125, T126, T128, T130, T131, T132, T134, T135, T136, T137, T138, T140, T142, T143, T145, T146, T148, T149, T150, T152, T153, T154, T155, T156, T163, T164, T165, T166, T167, bin_rem_c, bin_quo_c, l1, l7, l8, f0, f1, c2', f2]
          refine hX j _ rfl ?_ ?_ ?_
          all_goals (try simp only [look])
          all_goals simp [l1, l7]
  · cases hF

end Go.Proofs.YtcnapkdccjibpaaGreatDoor.Eng
