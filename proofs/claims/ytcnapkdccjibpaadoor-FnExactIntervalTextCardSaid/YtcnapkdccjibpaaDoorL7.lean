/- What functions of the program compute, and that the program computes it: part 7. -/
import Derived.Test.YtcnapkdccjibpaaDoorTab
import Derived.Test.YtcnapkdccjibpaaDoorEng16
import Derived.Laws.BitsLemmas
import Derived.Laws.Bits64
import Derived.Laws.Bits64b
import Derived.Lib.Mul64
import Derived.Lib.BitFns
import Derived.Laws.Externs
import Derived.Test.YtcnapkdccjibpaaDoorL1
import Derived.Test.YtcnapkdccjibpaaDoorL2
import Derived.Test.YtcnapkdccjibpaaDoorL3
import Derived.Test.YtcnapkdccjibpaaDoorL4
import Derived.Test.YtcnapkdccjibpaaDoorL5
import Derived.Test.YtcnapkdccjibpaaDoorL6
namespace Go.Proofs.YtcnapkdccjibpaaDoor.Eng
open Go Go.RowKit
set_option linter.unusedVariables false
set_option linter.unusedSimpArgs false
set_option maxRecDepth 100000
set_option maxHeartbeats 1000000
-- impl.digitsText
theorem impl_digitsText_units_ok : Fn Tryd.prog 18 F_units := by
  refine fn_of_go (O := orc [⟨17, F_pow10, .inl impl_powerOfTen_pow10_ok⟩, ⟨27, F_dec, .inl impl_Decimal_dec_ok⟩, ⟨28, F_repeat1, .inl strings_Repeat_repeat1_ok⟩]) mixed T_ok (orc_sound _) Tryd.func18 (by kernel_rfl) rfl Tryd.ntmps18 (by kernel_rfl) Tryd.results18 ?_
  intro args g pre r new hF hpre
  unfold F_units at hF
  split at hF
  · rename_i m d
    simp only [Option.some.injEq, Prod.mk.injEq] at hF
    obtain ⟨rfl, hr, rfl⟩ := hF
    refine ⟨by simp, ?_⟩
    have ok := units_ok hpre
    obtain ⟨a0, a1, pa, pb, zP, ut, ur, uw, uq, ux⟩ := ok
    have hU : unitsL m d = (if m < 0 then [45] else []) ++ Lib.itoa (absZ m / pw10 d) ++ (if d = 0 then [] else [46] ++ zeros d (Lib.itoa (absZ m % pw10 d))) := rfl
    have k1 := @itoa_len (absZ m / pw10 d) (by omega) (by omega)
    have k2 := @itoa_len (absZ m % pw10 d) (by omega) (by omega)
    have k3 := fun h1 => @itoa_len_d (absZ m % pw10 d) d ux.1 ux.2 h1
    obtain ⟨s1, hs1⟩ : ∃ s1, Lib.itoa (absZ m / pw10 d) = s1 := ⟨_, rfl⟩
    obtain ⟨s2, hs2⟩ : ∃ s2, Lib.itoa (absZ m % pw10 d) = s2 := ⟨_, rfl⟩
    rw [hs1, hs2] at hU
    rw [hs1] at k1
    rw [hs2] at k2 k3
    obtain ⟨sg, hsg⟩ : ∃ sg : List UInt8, (if m < 0 then [45] else []) = sg := ⟨_, rfl⟩
    have sgl : sg.length ≤ 1 := by rw [← hsg]; split <;> simp
    rw [hsg] at hU
    obtain ⟨rp, hrp⟩ : ∃ rp, Lib.repeatL [48] (IntKind.i64.wrap (d - (s2.length : Int))).toNat = rp := ⟨_, rfl⟩
    have rpe : rp = List.replicate (d.toNat - s2.length) 48 := by
      rw [← hrp, rep_48, wrap_om (by omega) (by omega)]
      congr 1; omega
    have rpl : rp.length ≤ 9 := by rw [rpe, List.length_replicate]; omega
    have c1 : shortL sg = true := shortL_of (by omega)
    have c2' : shortL s1 = true := shortL_of (by omega)
    have c3 : shortL s2 = true := shortL_of (by omega)
    have c4' : shortL rp = true := shortL_of (by omega)
    have c5 : shortL (sg ++ s1) = true := shortL_of (by simp; omega)
    have c6' : shortL (sg ++ s1 ++ [46]) = true := shortL_of (by simp; omega)
    have c8 : shortL (s1 ++ [46]) = true := shortL_of (by simp; omega)
    have c7 : shortL (sg ++ s1 ++ [46] ++ rp) = true := shortL_of (by simp; omega)
    have c9 : shortL (s1 ++ [46] ++ rp) = true := shortL_of (by simp; omega)
    by_cases h0 : m < 0
    · have e0 : decide (m < 0) = true := by simpa using h0
      have em : IntKind.i64.wrap (-m) = absZ m := by unfold absZ; rw [if_pos h0]; exact wrap_om (by omega) (by omega)
      have es : sg = [45] := by rw [← hsg, if_pos h0]
      by_cases hd : d = 0
      · have e1 : decide (d = 0) = true := by simpa using hd
        simp (config := { maxSteps := 4000000, implicitDefEqProofs := false }) only [F_dec_eq, F_pow10_eq, F_repeat1_eq, WK0, WK1, WK2, WK3, WK4, WK5, WK6, WK7, WK8, WK9, WK10, WK11, WK12, WK13, WK14, WK15, WK16, WK17, WK18, WK19, WK20, WK21, WK22, WK23, WK24, WK25, WK26, WK27, WK28, look_hit, look_miss, List.map_cons, List.map_nil, Nat.add_zero, max_v, min_v, ↓cnd_t, ↓cnd_f, ↓grd_b, ↓grd_u, startEnv, Option.map_some, List.length_nil, List.length_cons, List.nil_append, List.cons_append, List.getElem?_cons_zero, List.getElem?_cons_succ, List.set_cons_zero, List.set_cons_succ, Bool.not_true, Bool.not_false, reduceIte, Nat.reduceEqDiff, Nat.reduceAdd, Nat.reduceLT, blt_lit, beq_lit, Bool.or_true, Bool.true_or, Bool.or_false, Bool.false_or, Bool.and_true, Bool.true_and, Bool.and_self, cond_true, cond_false, List.append_nil, Iv.eta, Option.map_none, idxO_l0, idxO_l1, decide_true, decide_false, reqs_true, Int.zero_sub, wrap_lit, wrapu_lit, Int.reduceLE, Int.reduceLT, Int.reduceAdd, Int.reduceSub, Int.reduceMul, Int.reduceNeg, Int.reduceEq, Option.bind_some, bin_shr_u64, bin_shl_u64, bin_shr_i64, bin_shl_i64, and_m32', Int.reduceToNat, Int.reducePow, Int.reduceMod, Int.reduceDiv, wrap_u64s, true_or, or_true, true_and, and_true, Option.isSome_none, Option.isSome_some, Nat.reduceLeDiff, Nat.reduceMul, Int.toNat_natCast, Int.cast_ofNat_Int, Int.natCast_zero, Int.natCast_one, List.isEmpty_nil, List.isEmpty_cons, List.replicate_zero, List.replicate_succ, T1, T2, T3, T4, T5, T6, T9, T10, T11, T12, T21, T22, T23, T24, T25, T26, T27, T28, T29, T30, T31, T32, T34, T35, T36, T37, T38, T39, T40, T41, T42, T43, T44, T45, T47, T48, T50, T51, T53, T56, T60, T61, T62, T63, T64, T65, T67, T69, T70, T71, T72, T74, T76, T77, T78, T79, T80, T82, T83, T84, T85, T86, T92, T93, T94, T95, T96, T99, bin_rem_c, bin_quo_c, e0, em, ← es, zP, ut, ur, uw, hs1, hs2, e1, c1, c2']
        repeat' (first | with_reducible refine cnd_split (fun hc => ?_) (fun hc => ?_) | with_reducible refine Reqs.mk ?_ ?_)
        all_goals first | trivial | (refine endS_s (t := (unitsL m d)) hr ?_; rw [hU, if_pos hd]; simp) | omega
      · have e1 : decide (d = 0) = false := by simpa using hd
        have k4 := k3 (by omega)
        simp (config := { maxSteps := 4000000, implicitDefEqProofs := false }) only [F_dec_eq, F_pow10_eq, F_repeat1_eq, WK0, WK1, WK2, WK3, WK4, WK5, WK6, WK7, WK8, WK9, WK10, WK11, WK12, WK13, WK14, WK15, WK16, WK17, WK18, WK19, WK20, WK21, WK22, WK23, WK24, WK25, WK26, WK27, WK28, look_hit, look_miss, List.map_cons, List.map_nil, Nat.add_zero, max_v, min_v, ↓cnd_t, ↓cnd_f, ↓grd_b, ↓grd_u, startEnv, Option.map_some, List.length_nil, List.length_cons, List.nil_append, List.cons_append, List.getElem?_cons_zero, List.getElem?_cons_succ, List.set_cons_zero, List.set_cons_succ, Bool.not_true, Bool.not_false, reduceIte, Nat.reduceEqDiff, Nat.reduceAdd, Nat.reduceLT, blt_lit, beq_lit, Bool.or_true, Bool.true_or, Bool.or_false, Bool.false_or, Bool.and_true, Bool.true_and, Bool.and_self, cond_true, cond_false, List.append_nil, Iv.eta, Option.map_none, idxO_l0, idxO_l1, decide_true, decide_false, reqs_true, Int.zero_sub, wrap_lit, wrapu_lit, Int.reduceLE, Int.reduceLT, Int.reduceAdd, Int.reduceSub, Int.reduceMul, Int.reduceNeg, Int.reduceEq, Option.bind_some, bin_shr_u64, bin_shl_u64, bin_shr_i64, bin_shl_i64, and_m32', Int.reduceToNat, Int.reducePow, Int.reduceMod, Int.reduceDiv, wrap_u64s, true_or, or_true, true_and, and_true, Option.isSome_none, Option.isSome_some, Nat.reduceLeDiff, Nat.reduceMul, Int.toNat_natCast, Int.cast_ofNat_Int, Int.natCast_zero, Int.natCast_one, List.isEmpty_nil, List.isEmpty_cons, List.replicate_zero, List.replicate_succ, T1, T2, T3, T4, T5, T6, T9, T10, T11, T12, T21, T22, T23, T24, T25, T26, T27, T28, T29, T30, T31, T32, T34, T35, T36, T37, T38, T39, T40, T41, T42, T43, T44, T45, T47, T48, T50, T51, T53, T56, T60, T61, T62, T63, T64, T65, T67, T69, T70, T71, T72, T74, T76, T77, T78, T79, T80, T82, T83, T84, T85, T86, T92, T93, T94, T95, T96, T99, bin_rem_c, bin_quo_c, e0, em, ← es, zP, ut, ur, uw, hs1, hs2, e1, hrp, c1, c2', c3, c4', c5, c6', c7]
        repeat' (first | with_reducible refine cnd_split (fun hc => ?_) (fun hc => ?_) | with_reducible refine Reqs.mk ?_ ?_)
        all_goals first | trivial | (refine endS_s (t := (unitsL m d)) hr ?_; rw [hU, if_neg hd, rpe]; simp [zeros]) | omega | (rw [wrap_om (by omega) (by omega)]; omega) | (simp; done)
    · have e0 : decide (m < 0) = false := by simpa using h0
      have em : absZ m = m := by unfold absZ; rw [if_neg h0]
      have es : sg = [] := by rw [← hsg, if_neg h0]
      rw [em] at ut ur uw hs1 hs2 uq ux
      by_cases hd : d = 0
      · have e1 : decide (d = 0) = true := by simpa using hd
        simp (config := { maxSteps := 4000000, implicitDefEqProofs := false }) only [F_dec_eq, F_pow10_eq, F_repeat1_eq, WK0, WK1, WK2, WK3, WK4, WK5, WK6, WK7, WK8, WK9, WK10, WK11, WK12, WK13, WK14, WK15, WK16, WK17, WK18, WK19, WK20, WK21, WK22, WK23, WK24, WK25, WK26, WK27, WK28, look_hit, look_miss, List.map_cons, List.map_nil, Nat.add_zero, max_v, min_v, ↓cnd_t, ↓cnd_f, ↓grd_b, ↓grd_u, startEnv, Option.map_some, List.length_nil, List.length_cons, List.nil_append, List.cons_append, List.getElem?_cons_zero, List.getElem?_cons_succ, List.set_cons_zero, List.set_cons_succ, Bool.not_true, Bool.not_false, reduceIte, Nat.reduceEqDiff, Nat.reduceAdd, Nat.reduceLT, blt_lit, beq_lit, Bool.or_true, Bool.true_or, Bool.or_false, Bool.false_or, Bool.and_true, Bool.true_and, Bool.and_self, cond_true, cond_false, List.append_nil, Iv.eta, Option.map_none, idxO_l0, idxO_l1, decide_true, decide_false, reqs_true, Int.zero_sub, wrap_lit, wrapu_lit, Int.reduceLE, Int.reduceLT, Int.reduceAdd, Int.reduceSub, Int.reduceMul, Int.reduceNeg, Int.reduceEq, Option.bind_some, bin_shr_u64, bin_shl_u64, bin_shr_i64, bin_shl_i64, and_m32', Int.reduceToNat, Int.reducePow, Int.reduceMod, Int.reduceDiv, wrap_u64s, true_or, or_true, true_and, and_true, Option.isSome_none, Option.isSome_some, Nat.reduceLeDiff, Nat.reduceMul, Int.toNat_natCast, Int.cast_ofNat_Int, Int.natCast_zero, Int.natCast_one, List.isEmpty_nil, List.isEmpty_cons, List.replicate_zero, List.replicate_succ, T1, T2, T3, T4, T5, T6, T9, T10, T11, T12, T21, T22, T23, T24, T25, T26, T27, T28, T29, T30, T31, T32, T34, T35, T36, T37, T38, T39, T40, T41, T42, T43, T44, T45, T47, T48, T50, T51, T53, T56, T60, T61, T62, T63, T64, T65, T67, T69, T70, T71, T72, T74, T76, T77, T78, T79, T80, T82, T83, T84, T85, T86, T92, T93, T94, T95, T96, T99, bin_rem_c, bin_quo_c, e0, zP, ut, ur, uw, hs1, hs2, e1, c1, c2']
        repeat' (first | with_reducible refine cnd_split (fun hc => ?_) (fun hc => ?_) | with_reducible refine Reqs.mk ?_ ?_)
        all_goals first | trivial | (refine endS_s (t := (unitsL m d)) hr ?_; rw [hU, if_pos hd, es]; simp) | omega
      · have e1 : decide (d = 0) = false := by simpa using hd
        have k4 := k3 (by omega)
        simp (config := { maxSteps := 4000000, implicitDefEqProofs := false }) only [F_dec_eq, F_pow10_eq, F_repeat1_eq, WK0, WK1, WK2, WK3, WK4, WK5, WK6, WK7, WK8, WK9, WK10, WK11, WK12, WK13, WK14, WK15, WK16, WK17, WK18, WK19, WK20, WK21, WK22, WK23, WK24, WK25, WK26, WK27, WK28, look_hit, look_miss, List.map_cons, List.map_nil, Nat.add_zero, max_v, min_v, ↓cnd_t, ↓cnd_f, ↓grd_b, ↓grd_u, startEnv, Option.map_some, List.length_nil, List.length_cons, List.nil_append, List.cons_append, List.getElem?_cons_zero, List.getElem?_cons_succ, List.set_cons_zero, List.set_cons_succ, Bool.not_true, Bool.not_false, reduceIte, Nat.reduceEqDiff, Nat.reduceAdd, Nat.reduceLT, blt_lit, beq_lit, Bool.or_true, Bool.true_or, Bool.or_false, Bool.false_or, Bool.and_true, Bool.true_and, Bool.and_self, cond_true, cond_false, List.append_nil, Iv.eta, Option.map_none, idxO_l0, idxO_l1, decide_true, decide_false, reqs_true, Int.zero_sub, wrap_lit, wrapu_lit, Int.reduceLE, Int.reduceLT, Int.reduceAdd, Int.reduceSub, Int.reduceMul, Int.reduceNeg, Int.reduceEq, Option.bind_some, bin_shr_u64, bin_shl_u64, bin_shr_i64, bin_shl_i64, and_m32', Int.reduceToNat, Int.reducePow, Int.reduceMod, Int.reduceDiv, wrap_u64s, true_or, or_true, true_and, and_true, Option.isSome_none, Option.isSome_some, Nat.reduceLeDiff, Nat.reduceMul, Int.toNat_natCast, Int.cast_ofNat_Int, Int.natCast_zero, Int.natCast_one, List.isEmpty_nil, List.isEmpty_cons, List.replicate_zero, List.replicate_succ, T1, T2, T3, T4, T5, T6, T9, T10, T11, T12, T21, T22, T23, T24, T25, T26, T27, T28, T29, T30, T31, T32, T34, T35, T36, T37, T38, T39, T40, T41, T42, T43, T44, T45, T47, T48, T50, T51, T53, T56, T60, T61, T62, T63, T64, T65, T67, T69, T70, T71, T72, T74, T76, T77, T78, T79, T80, T82, T83, T84, T85, T86, T92, T93, T94, T95, T96, T99, bin_rem_c, bin_quo_c, e0, zP, ut, ur, uw, hs1, hs2, e1, hrp, c1, c2', c3, c4', c8, c9]
        repeat' (first | with_reducible refine cnd_split (fun hc => ?_) (fun hc => ?_) | with_reducible refine Reqs.mk ?_ ?_)
        all_goals first | trivial | (refine endS_s (t := (unitsL m d)) hr ?_; rw [hU, if_neg hd, rpe, es]; simp [zeros]) | omega | (rw [wrap_om (by omega) (by omega)]; omega) | (simp; done)
  · cases hF

-- spec.l03Units
theorem spec_l03Units_units_ok : Fn Tryd.prog 23 F_units := by
  refine fn_of_go (O := orc [⟨22, F_pow10, .inl spec_l03Power_pow10_ok⟩, ⟨32, F_dec, .inl spec_l01Dec_dec_ok⟩]) mixed T_ok (orc_sound _) Tryd.func23 (by kernel_rfl) rfl Tryd.ntmps23 (by kernel_rfl) Tryd.results23 ?_
  intro args g pre r new hF hpre
  unfold F_units at hF
  split at hF
  · rename_i m d
    simp only [Option.some.injEq, Prod.mk.injEq] at hF
    obtain ⟨rfl, hr, rfl⟩ := hF
    refine ⟨by simp, ?_⟩
    have ok := units_ok hpre
    obtain ⟨a0, a1, pa, pb, zP, ut, ur, uw, uq, ux⟩ := ok
    have hU : unitsL m d = (if m < 0 then [45] else []) ++ Lib.itoa (absZ m / pw10 d) ++ (if d = 0 then [] else [46] ++ zeros d (Lib.itoa (absZ m % pw10 d))) := rfl
    have k1 := @itoa_len (absZ m / pw10 d) (by omega) (by omega)
    have k2 := @itoa_len (absZ m % pw10 d) (by omega) (by omega)
    have k3 := fun h1 => @itoa_len_d (absZ m % pw10 d) d ux.1 ux.2 h1
    obtain ⟨s1, hs1⟩ : ∃ s1, Lib.itoa (absZ m / pw10 d) = s1 := ⟨_, rfl⟩
    obtain ⟨s2, hs2⟩ : ∃ s2, Lib.itoa (absZ m % pw10 d) = s2 := ⟨_, rfl⟩
    rw [hs1, hs2] at hU
    rw [hs1] at k1
    rw [hs2] at k2 k3
    obtain ⟨sg, hsg⟩ : ∃ sg : List UInt8, (if m < 0 then [45] else []) = sg := ⟨_, rfl⟩
    have sgl : sg.length ≤ 1 := by rw [← hsg]; split <;> simp
    rw [hsg] at hU
    have c1 : shortL sg = true := shortL_of (by omega)
    have c2' : shortL s1 = true := shortL_of (by omega)
    have c3 : shortL s2 = true := shortL_of (by omega)
    have c5 : shortL (sg ++ s1) = true := shortL_of (by simp; omega)
    have c6' : shortL (sg ++ s1 ++ [46]) = true := shortL_of (by simp; omega)
    have c8 : shortL (s1 ++ [46]) = true := shortL_of (by simp; omega)
    have LOOP : ∀ (body : Code) (Q : Ex → St → Prop) (T' : Tab) (O : Orc) (g' : Gv) (e : Env) (N : Nat), d ≠ 0 → N = d.toNat - s2.length →
        look e 1 = some (.v (.c (.p (.int .i64 d)))) → look e 7 = some (.v (.c (.p (.str (bs (sg ++ s1)))))) → look e 8 = some (.v (.c (.p (.str (bs s2))))) →
        (∀ (X : St → Prop) (k : Nat) (e' : Env), k ≤ N → look e' 1 = some (.v (.c (.p (.int .i64 d)))) → look e' 7 = some (.v (.c (.p (.str (bs (sg ++ s1)))))) → look e' 8 = some (.v (.c (.p (.str (bs (List.replicate (N - k) 48 ++ s2)))))) →
          (∀ (j : Nat) (e'' : Env), j + 1 = k → look e'' 1 = some (.v (.c (.p (.int .i64 d)))) → look e'' 7 = some (.v (.c (.p (.str (bs (sg ++ s1)))))) → look e'' 8 = some (.v (.c (.p (.str (bs (List.replicate (N - j) 48 ++ s2)))))) → X ⟨e'', []⟩) →
          goS T' O g' body (some ⟨e', []⟩) (seqK X Q)) → goS T' O g' (.loop body) (some ⟨e, []⟩) Q := by
      intro body Q T' O g' e N hd hN l1 l7 l8 step
      refine go_loop (α := Nat) (fun k => k) (fun k e h => h = [] ∧ k ≤ N ∧ look e 1 = some (.v (.c (.p (.int .i64 d)))) ∧ look e 7 = some (.v (.c (.p (.str (bs (sg ++ s1)))))) ∧ look e 8 = some (.v (.c (.p (.str (bs (List.replicate (N - k) 48 ++ s2))))))) N ⟨rfl, Nat.le_refl _, l1, l7, by simpa using l8⟩ ?_
      rintro X k e' h ⟨rfl, hk, m1, m7, m8⟩ hX
      exact step X k e' hk m1 m7 m8 fun j e'' hj n1 n7 n8 => hX j e'' [] (by omega) ⟨rfl, by omega, n1, n7, n8⟩
    have len2 : ∀ (N k : Nat), N = d.toNat - s2.length → k ≤ N → (s2.length : Int) ≤ d → ((List.replicate (N - k) (48 : UInt8) ++ s2).length : Int) = d - k := by
      intro N k hN hk hle
      rw [List.length_append, List.length_replicate]; omega
    have grow1 : ∀ (N j : Nat), j + 1 ≤ N → [(48 : UInt8)] ++ (List.replicate (N - (j + 1)) 48 ++ s2) = List.replicate (N - j) 48 ++ s2 := by
      intro N j h
      rw [show N - j = N - (j + 1) + 1 by omega, List.replicate_succ]; rfl
    have fin : ∀ (N : Nat), N = d.toNat - s2.length → d ≠ 0 → sg ++ s1 ++ [46] ++ (List.replicate N 48 ++ s2) = unitsL m d := by
      intro N hN hd
      rw [hU, if_neg hd, hN]; simp [zeros]
    by_cases h0 : m < 0
    · have e0 : decide (m < 0) = true := by simpa using h0
      have em : IntKind.i64.wrap (-m) = absZ m := by unfold absZ; rw [if_pos h0]; exact wrap_om (by omega) (by omega)
      have es : sg = [45] := by rw [← hsg, if_pos h0]
      by_cases hd : d = 0
      · have e1 : decide (d = 0) = true := by simpa using hd
        simp (config := { maxSteps := 4000000, implicitDefEqProofs := false }) only [F_dec_eq, F_pow10_eq, WK0, WK1, WK2, WK3, WK4, WK5, WK6, WK7, WK8, WK9, WK10, WK11, WK12, WK13, WK14, WK15, WK16, WK17, WK18, WK19, WK20, WK21, WK22, WK23, WK24, WK25, WK26, WK27, WK28, look_hit, look_miss, List.map_cons, List.map_nil, Nat.add_zero, max_v, min_v, ↓cnd_t, ↓cnd_f, ↓grd_b, ↓grd_u, startEnv, Option.map_some, List.length_nil, List.length_cons, List.nil_append, List.cons_append, List.getElem?_cons_zero, List.getElem?_cons_succ, List.set_cons_zero, List.set_cons_succ, Bool.not_true, Bool.not_false, reduceIte, Nat.reduceEqDiff, Nat.reduceAdd, Nat.reduceLT, blt_lit, beq_lit, Bool.or_true, Bool.true_or, Bool.or_false, Bool.false_or, Bool.and_true, Bool.true_and, Bool.and_self, cond_true, cond_false, List.append_nil, Iv.eta, Option.map_none, idxO_l0, idxO_l1, decide_true, decide_false, reqs_true, Int.zero_sub, wrap_lit, wrapu_lit, Int.reduceLE, Int.reduceLT, Int.reduceAdd, Int.reduceSub, Int.reduceMul, Int.reduceNeg, Int.reduceEq, Option.bind_some, bin_shr_u64, bin_shl_u64, bin_shr_i64, bin_shl_i64, and_m32', Int.reduceToNat, Int.reducePow, Int.reduceMod, Int.reduceDiv, wrap_u64s, true_or, or_true, true_and, and_true, Option.isSome_none, Option.isSome_some, Nat.reduceLeDiff, Nat.reduceMul, Int.toNat_natCast, Int.cast_ofNat_Int, Int.natCast_zero, Int.natCast_one, List.isEmpty_nil, List.isEmpty_cons, List.replicate_zero, List.replicate_succ, T1, T2, T3, T4, T5, T6, T9, T10, T11, T12, T21, T22, T23, T24, T25, T26, T27, T28, T29, T30, T31, T32, T34, T35, T36, T37, T38, T39, T40, T41, T42, T43, T44, T45, T47, T48, T50, T51, T53, T56, T60, T61, T62, T63, T64, T65, T67, T69, T70, T71, T72, T74, T76, T77, T78, T79, T80, T82, T83, T84, T85, T86, T92, T93, T94, T95, T96, T99, bin_rem_c, bin_quo_c, e0, em, ← es, zP, ut, ur, uw, hs1, hs2, e1, c1, c2']
        repeat' (first | with_reducible refine cnd_split (fun hc => ?_) (fun hc => ?_) | with_reducible refine Reqs.mk ?_ ?_)
        all_goals first | trivial | (refine endS_s (t := (unitsL m d)) hr ?_; rw [hU, if_pos hd]; simp) | omega
      · have e1 : decide (d = 0) = false := by simpa using hd
        have k4 := k3 (by omega)
        simp (config := { maxSteps := 4000000, implicitDefEqProofs := false }) only [F_dec_eq, F_pow10_eq, WK0, WK1, WK2, WK3, WK4, WK5, WK6, WK7, WK8, WK9, WK10, WK11, WK12, WK13, WK14, WK15, WK16, WK17, WK18, WK19, WK20, WK21, WK22, WK23, WK24, WK25, WK26, WK27, WK28, look_hit, look_miss, List.map_cons, List.map_nil, Nat.add_zero, max_v, min_v, ↓cnd_t, ↓cnd_f, ↓grd_b, ↓grd_u, startEnv, Option.map_some, List.length_nil, List.length_cons, List.nil_append, List.cons_append, List.getElem?_cons_zero, List.getElem?_cons_succ, List.set_cons_zero, List.set_cons_succ, Bool.not_true, Bool.not_false, reduceIte, Nat.reduceEqDiff, Nat.reduceAdd, Nat.reduceLT, blt_lit, beq_lit, Bool.or_true, Bool.true_or, Bool.or_false, Bool.false_or, Bool.and_true, Bool.true_and, Bool.and_self, cond_true, cond_false, List.append_nil, Iv.eta, Option.map_none, idxO_l0, idxO_l1, decide_true, decide_false, reqs_true, Int.zero_sub, wrap_lit, wrapu_lit, Int.reduceLE, Int.reduceLT, Int.reduceAdd, Int.reduceSub, Int.reduceMul, Int.reduceNeg, Int.reduceEq, Option.bind_some, bin_shr_u64, bin_shl_u64, bin_shr_i64, bin_shl_i64, and_m32', Int.reduceToNat, Int.reducePow, Int.reduceMod, Int.reduceDiv, wrap_u64s, true_or, or_true, true_and, and_true, Option.isSome_none, Option.isSome_some, Nat.reduceLeDiff, Nat.reduceMul, Int.toNat_natCast, Int.cast_ofNat_Int, Int.natCast_zero, Int.natCast_one, List.isEmpty_nil, List.isEmpty_cons, List.replicate_zero, List.replicate_succ, T1, T2, T3, T4, T5, T6, T9, T10, T11, T12, T21, T22, T23, T24, T25, T26, T27, T28, T29, T30, T31, T32, T34, T35, T36, T37, T38, T39, T40, T41, T42, T43, T44, T45, T47, T48, T50, T51, T53, T56, T60, T61, T62, T63, T64, T65, T67, T69, T70, T71, T72, T74, T76, T77, T78, T79, T80, T82, T83, T84, T85, T86, T92, T93, T94, T95, T96, T99, bin_rem_c, bin_quo_c, e0, em, zP, ut, ur, uw, hs1, hs2, e1, ← es, c1, c2', c3, c5, c6']
        repeat' (first | with_reducible refine cnd_split (fun hc => ?_) (fun hc => ?_) | with_reducible refine Reqs.mk ?_ ?_)
        all_goals first | trivial | omega | skip
        refine LOOP _ _ _ _ _ _ _ hd rfl rfl rfl rfl ?_
        intro X k e hk l1 l7 l8 hX
        have ln := len2 _ k rfl hk k4
        cases k with
        | zero =>
          have f0 : decide (((List.replicate (d.toNat - s2.length - 0) (48 : UInt8) ++ s2).length : Int) < d) = false := by rw [ln]; simp only [decide_eq_false_iff_not]; omega
          have f1 : shortL (List.replicate (d.toNat - s2.length - 0) (48 : UInt8) ++ s2) = true := shortL_of (by omega)
          simp (config := { maxSteps := 4000000, implicitDefEqProofs := false }) only [F_dec_eq, F_pow10_eq, WK0, WK1, WK2, WK3, WK4, WK5, WK6, WK7, WK8, WK9, WK10, WK11, WK12, WK13, WK14, WK15, WK16, WK17, WK18, WK19, WK20, WK21, WK22, WK23, WK24, WK25, WK26, WK27, WK28, look_hit, look_miss, List.map_cons, List.map_nil, Nat.add_zero, max_v, min_v, ↓cnd_t, ↓cnd_f, ↓grd_b, ↓grd_u, startEnv, Option.map_some, List.length_nil, List.length_cons, List.nil_append, List.cons_append, List.getElem?_cons_zero, List.getElem?_cons_succ, List.set_cons_zero, List.set_cons_succ, Bool.not_true, Bool.not_false, reduceIte, Nat.reduceEqDiff, Nat.reduceAdd, Nat.reduceLT, blt_lit, beq_lit, Bool.or_true, Bool.true_or, Bool.or_false, Bool.false_or, Bool.and_true, Bool.true_and, Bool.and_self, cond_true, cond_false, List.append_nil, Iv.eta, Option.map_none, idxO_l0, idxO_l1, decide_true, decide_false, reqs_true, Int.zero_sub, wrap_lit, wrapu_lit, Int.reduceLE, Int.reduceLT, Int.reduceAdd, Int.reduceSub, Int.reduceMul, Int.reduceNeg, Int.reduceEq, Option.bind_some, bin_shr_u64, bin_shl_u64, bin_shr_i64, bin_shl_i64, and_m32', Int.reduceToNat, Int.reducePow, Int.reduceMod, Int.reduceDiv, wrap_u64s, true_or, or_true, true_and, and_true, Option.isSome_none, Option.isSome_some, Nat.reduceLeDiff, Nat.reduceMul, Int.toNat_natCast, Int.cast_ofNat_Int, Int.natCast_zero, Int.natCast_one, List.isEmpty_nil, List.isEmpty_cons, List.replicate_zero, List.replicate_succ, T1, T2, T3, T4, T5, T6, T9, T10, T11, T12, T21, T22, T23, T24, T25, T26, T27, T28, T29, T30, T31, T32, T34, T35, T36, T37, T38, T39, T40, T41, T42, T43, T44, T45, T47, T48, T50, T51, T53, T56, T60, T61, T62, T63, T64, T65, T67, T69, T70, T71, T72, T74, T76, T77, T78, T79, T80, T82, T83, T84, T85, T86, T92, T93, T94, T95, T96, T99, bin_rem_c, bin_quo_c, l1, l7, l8, f0, f1, c5, c6']
          refine endS_s (t := (unitsL m d)) hr ?_
          exact fin _ (by omega) hd
        | succ j =>
          have f0 : decide (((List.replicate (d.toNat - s2.length - (j + 1)) (48 : UInt8) ++ s2).length : Int) < d) = true := by rw [ln]; simp only [decide_eq_true_eq]; omega
          have f1 : shortL (List.replicate (d.toNat - s2.length - (j + 1)) (48 : UInt8) ++ s2) = true := shortL_of (by omega)
          have f2 := grow1 (d.toNat - s2.length) j (by omega)
          simp (config := { maxSteps := 4000000, implicitDefEqProofs := false }) only [F_dec_eq, F_pow10_eq, WK0, WK1, WK2, WK3, WK4, WK5, WK6, WK7, WK8, WK9, WK10, WK11, WK12, WK13, WK14, WK15, WK16, WK17, WK18, WK19, WK20, WK21, WK22, WK23, WK24, WK25, WK26, WK27, WK28, look_hit, look_miss, List.map_cons, List.map_nil, Nat.add_zero, max_v, min_v, ↓cnd_t, ↓cnd_f, ↓grd_b, ↓grd_u, startEnv, Option.map_some, List.length_nil, List.length_cons, List.nil_append, List.cons_append, List.getElem?_cons_zero, List.getElem?_cons_succ, List.set_cons_zero, List.set_cons_succ, Bool.not_true, Bool.not_false, reduceIte, Nat.reduceEqDiff, Nat.reduceAdd, Nat.reduceLT, blt_lit, beq_lit, Bool.or_true, Bool.true_or, Bool.or_false, Bool.false_or, Bool.and_true, Bool.true_and, Bool.and_self, cond_true, cond_false, List.append_nil, Iv.eta, Option.map_none, idxO_l0, idxO_l1, decide_true, decide_false, reqs_true, Int.zero_sub, wrap_lit, wrapu_lit, Int.reduceLE, Int.reduceLT, Int.reduceAdd, Int.reduceSub, Int.reduceMul, Int.reduceNeg, Int.reduceEq, Option.bind_some, bin_shr_u64, bin_shl_u64, bin_shr_i64, bin_shl_i64, and_m32', Int.reduceToNat, Int.reducePow, Int.reduceMod, Int.reduceDiv, wrap_u64s, true_or, or_true, true_and, and_true, Option.isSome_none, Option.isSome_some, Nat.reduceLeDiff, Nat.reduceMul, Int.toNat_natCast, Int.cast_ofNat_Int, Int.natCast_zero, Int.natCast_one, List.isEmpty_nil, List.isEmpty_cons, List.replicate_zero, List.replicate_succ, T1, T2, T3, T4, T5, T6, T9, T10, T11, T12, T21, T22, T23, T24, T25, T26, T27, T28, T29, T30, T31, T32, T34, T35, T36, T37, T38, T39, T40, T41, T42, T43, T44, T45, T47, T48, T50, T51, T53, T56, T60, T61, T62, T63, T64, T65, T67, T69, T70, T71, T72, T74, T76, T77, T78, T79, T80, T82, T83, T84, T85, T86, T92, T93, T94, T95, T96, T99, bin_rem_c, bin_quo_c, l1, l7, l8, f0, f1, c5, f2]
          refine hX j _ rfl ?_ ?_ ?_
          all_goals (try simp only [look])
          all_goals simp [l1, l7]
    · have e0 : decide (m < 0) = false := by simpa using h0
      have em : absZ m = m := by unfold absZ; rw [if_neg h0]
      have es : sg = [] := by rw [← hsg, if_neg h0]
      rw [em] at ut ur uw hs1 hs2 uq ux
      by_cases hd : d = 0
      · have e1 : decide (d = 0) = true := by simpa using hd
        simp (config := { maxSteps := 4000000, implicitDefEqProofs := false }) only [F_dec_eq, F_pow10_eq, WK0, WK1, WK2, WK3, WK4, WK5, WK6, WK7, WK8, WK9, WK10, WK11, WK12, WK13, WK14, WK15, WK16, WK17, WK18, WK19, WK20, WK21, WK22, WK23, WK24, WK25, WK26, WK27, WK28, look_hit, look_miss, List.map_cons, List.map_nil, Nat.add_zero, max_v, min_v, ↓cnd_t, ↓cnd_f, ↓grd_b, ↓grd_u, startEnv, Option.map_some, List.length_nil, List.length_cons, List.nil_append, List.cons_append, List.getElem?_cons_zero, List.getElem?_cons_succ, List.set_cons_zero, List.set_cons_succ, Bool.not_true, Bool.not_false, reduceIte, Nat.reduceEqDiff, Nat.reduceAdd, Nat.reduceLT, blt_lit, beq_lit, Bool.or_true, Bool.true_or, Bool.or_false, Bool.false_or, Bool.and_true, Bool.true_and, Bool.and_self, cond_true, cond_false, List.append_nil, Iv.eta, Option.map_none, idxO_l0, idxO_l1, decide_true, decide_false, reqs_true, Int.zero_sub, wrap_lit, wrapu_lit, Int.reduceLE, Int.reduceLT, Int.reduceAdd, Int.reduceSub, Int.reduceMul, Int.reduceNeg, Int.reduceEq, Option.bind_some, bin_shr_u64, bin_shl_u64, bin_shr_i64, bin_shl_i64, and_m32', Int.reduceToNat, Int.reducePow, Int.reduceMod, Int.reduceDiv, wrap_u64s, true_or, or_true, true_and, and_true, Option.isSome_none, Option.isSome_some, Nat.reduceLeDiff, Nat.reduceMul, Int.toNat_natCast, Int.cast_ofNat_Int, Int.natCast_zero, Int.natCast_one, List.isEmpty_nil, List.isEmpty_cons, List.replicate_zero, List.replicate_succ, T1, T2, T3, T4, T5, T6, T9, T10, T11, T12, T21, T22, T23, T24, T25, T26, T27, T28, T29, T30, T31, T32, T34, T35, T36, T37, T38, T39, T40, T41, T42, T43, T44, T45, T47, T48, T50, T51, T53, T56, T60, T61, T62, T63, T64, T65, T67, T69, T70, T71, T72, T74, T76, T77, T78, T79, T80, T82, T83, T84, T85, T86, T92, T93, T94, T95, T96, T99, bin_rem_c, bin_quo_c, e0, zP, ut, ur, uw, hs1, hs2, e1, c1, c2']
        repeat' (first | with_reducible refine cnd_split (fun hc => ?_) (fun hc => ?_) | with_reducible refine Reqs.mk ?_ ?_)
        all_goals first | trivial | (refine endS_s (t := (unitsL m d)) hr ?_; rw [hU, if_pos hd, es]; simp) | omega
      · have e1 : decide (d = 0) = false := by simpa using hd
        have k4 := k3 (by omega)
        simp (config := { maxSteps := 4000000, implicitDefEqProofs := false }) only [F_dec_eq, F_pow10_eq, WK0, WK1, WK2, WK3, WK4, WK5, WK6, WK7, WK8, WK9, WK10, WK11, WK12, WK13, WK14, WK15, WK16, WK17, WK18, WK19, WK20, WK21, WK22, WK23, WK24, WK25, WK26, WK27, WK28, look_hit, look_miss, List.map_cons, List.map_nil, Nat.add_zero, max_v, min_v, ↓cnd_t, ↓cnd_f, ↓grd_b, ↓grd_u, startEnv, Option.map_some, List.length_nil, List.length_cons, List.nil_append, List.cons_append, List.getElem?_cons_zero, List.getElem?_cons_succ, List.set_cons_zero, List.set_cons_succ, Bool.not_true, Bool.not_false, reduceIte, Nat.reduceEqDiff, Nat.reduceAdd, Nat.reduceLT, blt_lit, beq_lit, Bool.or_true, Bool.true_or, Bool.or_false, Bool.false_or, Bool.and_true, Bool.true_and, Bool.and_self, cond_true, cond_false, List.append_nil, Iv.eta, Option.map_none, idxO_l0, idxO_l1, decide_true, decide_false, reqs_true, Int.zero_sub, wrap_lit, wrapu_lit, Int.reduceLE, Int.reduceLT, Int.reduceAdd, Int.reduceSub, Int.reduceMul, Int.reduceNeg, Int.reduceEq, Option.bind_some, bin_shr_u64, bin_shl_u64, bin_shr_i64, bin_shl_i64, and_m32', Int.reduceToNat, Int.reducePow, Int.reduceMod, Int.reduceDiv, wrap_u64s, true_or, or_true, true_and, and_true, Option.isSome_none, Option.isSome_some, Nat.reduceLeDiff, Nat.reduceMul, Int.toNat_natCast, Int.cast_ofNat_Int, Int.natCast_zero, Int.natCast_one, List.isEmpty_nil, List.isEmpty_cons, List.replicate_zero, List.replicate_succ, T1, T2, T3, T4, T5, T6, T9, T10, T11, T12, T21, T22, T23, T24, T25, T26, T27, T28, T29, T30, T31, T32, T34, T35, T36, T37, T38, T39, T40, T41, T42, T43, T44, T45, T47, T48, T50, T51, T53, T56, T60, T61, T62, T63, T64, T65, T67, T69, T70, T71, T72, T74, T76, T77, T78, T79, T80, T82, T83, T84, T85, T86, T92, T93, T94, T95, T96, T99, bin_rem_c, bin_quo_c, e0, zP, ut, ur, uw, hs1, hs2, e1, c1, c2', c3, c8]
        repeat' (first | with_reducible refine cnd_split (fun hc => ?_) (fun hc => ?_) | with_reducible refine Reqs.mk ?_ ?_)
        all_goals first | trivial | omega | skip
        have es1 : sg ++ s1 = s1 := by rw [es]; rfl
        rw [es1] at LOOP fin
        refine LOOP _ _ _ _ _ _ _ hd rfl rfl rfl rfl ?_
        intro X k e hk l1 l7 l8 hX
        have ln := len2 _ k rfl hk k4
        cases k with
        | zero =>
          have f0 : decide (((List.replicate (d.toNat - s2.length - 0) (48 : UInt8) ++ s2).length : Int) < d) = false := by rw [ln]; simp only [decide_eq_false_iff_not]; omega
          have f1 : shortL (List.replicate (d.toNat - s2.length - 0) (48 : UInt8) ++ s2) = true := shortL_of (by omega)
          simp (config := { maxSteps := 4000000, implicitDefEqProofs := false }) only [F_dec_eq, F_pow10_eq, WK0, WK1, WK2, WK3, WK4, WK5, WK6, WK7, WK8, WK9, WK10, WK11, WK12, WK13, WK14, WK15, WK16, WK17, WK18, WK19, WK20, WK21, WK22, WK23, WK24, WK25, WK26, WK27, WK28, look_hit, look_miss, List.map_cons, List.map_nil, Nat.add_zero, max_v, min_v, ↓cnd_t, ↓cnd_f, ↓grd_b, ↓grd_u, startEnv, Option.map_some, List.length_nil, List.length_cons, List.nil_append, List.cons_append, List.getElem?_cons_zero, List.getElem?_cons_succ, List.set_cons_zero, List.set_cons_succ, Bool.not_true, Bool.not_false, reduceIte, Nat.reduceEqDiff, Nat.reduceAdd, Nat.reduceLT, blt_lit, beq_lit, Bool.or_true, Bool.true_or, Bool.or_false, Bool.false_or, Bool.and_true, Bool.true_and, Bool.and_self, cond_true, cond_false, List.append_nil, Iv.eta, Option.map_none, idxO_l0, idxO_l1, decide_true, decide_false, reqs_true, Int.zero_sub, wrap_lit, wrapu_lit, Int.reduceLE, Int.reduceLT, Int.reduceAdd, Int.reduceSub, Int.reduceMul, Int.reduceNeg, Int.reduceEq, Option.bind_some, bin_shr_u64, bin_shl_u64, bin_shr_i64, bin_shl_i64, and_m32', Int.reduceToNat, Int.reducePow, Int.reduceMod, Int.reduceDiv, wrap_u64s, true_or, or_true, true_and, and_true, Option.isSome_none, Option.isSome_some, Nat.reduceLeDiff, Nat.reduceMul, Int.toNat_natCast, Int.cast_ofNat_Int, Int.natCast_zero, Int.natCast_one, List.isEmpty_nil, List.isEmpty_cons, List.replicate_zero, List.replicate_succ, T1, T2, T3, T4, T5, T6, T9, T10, T11, T12, T21, T22, T23, T24, T25, T26, T27, T28, T29, T30, T31, T32, T34, T35, T36, T37, T38, T39, T40, T41, T42, T43, T44, T45, T47, T48, T50, T51, T53, T56, T60, T61, T62, T63, T64, T65, T67, T69, T70, T71, T72, T74, T76, T77, T78, T79, T80, T82, T83, T84, T85, T86, T92, T93, T94, T95, T96, T99, bin_rem_c, bin_quo_c, l1, l7, l8, f0, f1, c2', c8]
          refine endS_s (t := (unitsL m d)) hr ?_
          exact fin _ (by omega) hd
        | succ j =>
          have f0 : decide (((List.replicate (d.toNat - s2.length - (j + 1)) (48 : UInt8) ++ s2).length : Int) < d) = true := by rw [ln]; simp only [decide_eq_true_eq]; omega
          have f1 : shortL (List.replicate (d.toNat - s2.length - (j + 1)) (48 : UInt8) ++ s2) = true := shortL_of (by omega)
          have f2 := grow1 (d.toNat - s2.length) j (by omega)
          simp (config := { maxSteps := 4000000, implicitDefEqProofs := false }) only [F_dec_eq, F_pow10_eq, WK0, WK1, WK2, WK3, WK4, WK5, WK6, WK7, WK8, WK9, WK10, WK11, WK12, WK13, WK14, WK15, WK16, WK17, WK18, WK19, WK20, WK21, WK22, WK23, WK24, WK25, WK26, WK27, WK28, look_hit, look_miss, List.map_cons, List.map_nil, Nat.add_zero, max_v, min_v, ↓cnd_t, ↓cnd_f, ↓grd_b, ↓grd_u, startEnv, Option.map_some, List.length_nil, List.length_cons, List.nil_append, List.cons_append, List.getElem?_cons_zero, List.getElem?_cons_succ, List.set_cons_zero, List.set_cons_succ, Bool.not_true, Bool.not_false, reduceIte, Nat.reduceEqDiff, Nat.reduceAdd, Nat.reduceLT, blt_lit, beq_lit, Bool.or_true, Bool.true_or, Bool.or_false, Bool.false_or, Bool.and_true, Bool.true_and, Bool.and_self, cond_true, cond_false, List.append_nil, Iv.eta, Option.map_none, idxO_l0, idxO_l1, decide_true, decide_false, reqs_true, Int.zero_sub, wrap_lit, wrapu_lit, Int.reduceLE, Int.reduceLT, Int.reduceAdd, Int.reduceSub, Int.reduceMul, Int.reduceNeg, Int.reduceEq, Option.bind_some, bin_shr_u64, bin_shl_u64, bin_shr_i64, bin_shl_i64, and_m32', Int.reduceToNat, Int.reducePow, Int.reduceMod, Int.reduceDiv, wrap_u64s, true_or, or_true, true_and, and_true, Option.isSome_none, Option.isSome_some, Nat.reduceLeDiff, Nat.reduceMul, Int.toNat_natCast, Int.cast_ofNat_Int, Int.natCast_zero, Int.natCast_one, List.isEmpty_nil, List.isEmpty_cons, List.replicate_zero, List.replicate_succ, T1, T2, T3, T4, T5, T6, T9, T10, T11, T12, T21, T22, T23, T24, T25, T26, T27, T28, T29, T30, T31, T32, T34, T35, T36, T37, T38, T39, T40, T41, T42, T43, T44, T45, T47, T48, T50, T51, T53, T56, T60, T61, T62, T63, T64, T65, T67, T69, T70, T71, T72, T74, T76, T77, T78, T79, T80, T82, T83, T84, T85, T86, T92, T93, T94, T95, T96, T99, bin_rem_c, bin_quo_c, l1, l7, l8, f0, f1, c2', f2]
          refine hX j _ rfl ?_ ?_ ?_
          all_goals (try simp only [look])
          all_goals simp [l1, l7]
  · cases hF

-- text bounds
theorem mulF_in {n d : Int} (hn : fixOk n = true) (hd : within d 0 9 = true) : -9223372036854775808 < (mulFloor n (pw10 d) 32).1 ∧ (mulFloor n (pw10 d) 32).1 < 9223372036854775807 := by
  have k := fixOk_iff.1 hn
  have e := within_iff.1 hd
  have p := @pw10_in d (by omega)
  have p9 : pw10 d ≤ 1000000000 := by
    have : ∀ k : Nat, k < 10 → (10 : Int) ^ k ≤ 1000000000 := by decide
    exact this d.toNat (by omega)
  have h2 : (2 : Int) ^ (32 : Int).toNat = 4294967296 := by decide
  have m1 : -(1152921504606846976 * 1000000000) ≤ n * pw10 d ∧ n * pw10 d ≤ 1152921504606846976 * 1000000000 := by
    have a1 := Int.mul_le_mul_of_nonneg_right k.2 (show 0 ≤ pw10 d by omega)
    have a2 := Int.mul_le_mul_of_nonneg_right k.1 (show 0 ≤ pw10 d by omega)
    omega
  unfold mulFloor wideInt
  rw [h2]
  split
  · simp only; omega
  · simp only; omega
theorem fix_neg {n : Int} (h : fixOk n = true) : fixOk (-n) = true := by
  have := fixOk_iff.1 h
  exact fixOk_iff.2 (by omega)

theorem textD_w {n d : Int} (h : fixOk n = false) : textD n d = [] := by unfold textD; rw [if_neg (by simp [h])]
theorem textD_v {n d : Int} (h : within d 0 9 = false) : textD n d = [] := by unfold textD; rw [if_neg (by simp [h])]
theorem textU_w {n d : Int} (h : fixOk n = false) : textU n d = [] := by unfold textU; rw [if_neg (by simp [h])]
theorem textU_v {n d : Int} (h : within d 0 9 = false) : textU n d = [] := by unfold textU; rw [if_neg (by simp [h])]
theorem textD_u {n d : Int} (h1 : fixOk n = true) (h2 : within d 0 9 = true) : textD n d = unitsL (mulFloor n (pw10 d) 32).1 d := by unfold textD; rw [if_pos (by simp [h1, h2])]
theorem textU_u {n d : Int} (h1 : fixOk n = true) (h2 : within d 0 9 = true) : textU n d = unitsL (-(mulFloor (-n) (pw10 d) 32).1) d := by unfold textU; rw [if_pos (by simp [h1, h2])]
theorem text_ok {n d : Int} (h1 : fixOk n = true) (h2 : within d 0 9 = true) :
    (0 ≤ d ∧ d ≤ 9) ∧ (0 ≤ d ∧ d ≤ 18) ∧ IntKind.i64.wrap (-n) = -n ∧ inR n ∧ inR (-n) ∧ inR (pw10 d) ∧ IntKind.i64.wrap (-(mulFloor (-n) (pw10 d) 32).1) = -(mulFloor (-n) (pw10 d) 32).1 ∧
    (-9223372036854775808 < (mulFloor n (pw10 d) 32).1 ∧ (mulFloor n (pw10 d) 32).1 ≤ 9223372036854775807) ∧ (-9223372036854775808 < -(mulFloor (-n) (pw10 d) 32).1 ∧ -(mulFloor (-n) (pw10 d) 32).1 ≤ 9223372036854775807) := by
  have k := fixOk_iff.1 h1
  have e := within_iff.1 h2
  have q := @pw10_in d (by omega)
  have a := mulF_in h1 h2
  have b := mulF_in (fix_neg h1) h2
  exact ⟨e, by omega, wrap_om (by omega) (by omega), ⟨by omega, by omega⟩, ⟨by omega, by omega⟩, ⟨by omega, by omega⟩, wrap_om (by omega) (by omega), by omega, by omega⟩

-- impl.TextDown
theorem impl_TextDown_textD_ok : Fn Tryd.prog 9 F_textD := by
  refine fn_of_go (O := orc [⟨14, F_fixOk, .inl impl_ValidFix_fixOk_ok⟩, ⟨15, F_within, .inl impl_within_within_ok⟩, ⟨16, F_mulFloor, .inl impl_MulFloor_mulFloor_ok⟩, ⟨17, F_pow10, .inl impl_powerOfTen_pow10_ok⟩, ⟨18, F_units, .inl impl_digitsText_units_ok⟩]) mixed T_ok (orc_sound _) Tryd.func9 (by kernel_rfl) rfl Tryd.ntmps9 (by kernel_rfl) Tryd.results9 ?_
  intro args g pre r new hF hpre
  unfold F_textD at hF
  split at hF
  · rename_i n d
    simp only [Option.some.injEq, Prod.mk.injEq] at hF
    obtain ⟨rfl, hr, rfl⟩ := hF
    refine ⟨by simp, ?_⟩
    simp (config := { maxSteps := 4000000, implicitDefEqProofs := false }) only [F_fixOk_eq, F_mulFloor_eq, F_pow10_eq, F_units_eq, F_within_eq, WK0, WK1, WK2, WK3, WK4, WK5, WK6, WK7, WK8, WK9, WK10, WK11, WK12, WK13, WK14, WK15, WK16, WK17, WK18, WK19, WK20, WK21, WK22, WK23, WK24, WK25, WK26, WK27, WK28, look_hit, look_miss, List.map_cons, List.map_nil, Nat.add_zero, max_v, min_v, ↓cnd_t, ↓cnd_f, ↓grd_b, ↓grd_u, startEnv, Option.map_some, List.length_nil, List.length_cons, List.nil_append, List.cons_append, List.getElem?_cons_zero, List.getElem?_cons_succ, List.set_cons_zero, List.set_cons_succ, Bool.not_true, Bool.not_false, reduceIte, Nat.reduceEqDiff, Nat.reduceAdd, Nat.reduceLT, blt_lit, beq_lit, Bool.or_true, Bool.true_or, Bool.or_false, Bool.false_or, Bool.and_true, Bool.true_and, Bool.and_self, cond_true, cond_false, List.append_nil, Iv.eta, Option.map_none, idxO_l0, idxO_l1, decide_true, decide_false, reqs_true, Int.zero_sub, wrap_lit, wrapu_lit, Int.reduceLE, Int.reduceLT, Int.reduceAdd, Int.reduceSub, Int.reduceMul, Int.reduceNeg, Int.reduceEq, Option.bind_some, bin_shr_u64, bin_shl_u64, bin_shr_i64, bin_shl_i64, and_m32', Int.reduceToNat, Int.reducePow, Int.reduceMod, Int.reduceDiv, wrap_u64s, true_or, or_true, true_and, and_true, Option.isSome_none, Option.isSome_some, Nat.reduceLeDiff, Nat.reduceMul, Int.toNat_natCast, Int.cast_ofNat_Int, Int.natCast_zero, Int.natCast_one, List.isEmpty_nil, List.isEmpty_cons, List.replicate_zero, List.replicate_succ, T1, T2, T3, T4, T5, T6, T9, T10, T11, T12, T21, T22, T23, T24, T25, T26, T27, T28, T29, T30, T31, T32, T34, T35, T36, T37, T38, T39, T40, T41, T42, T43, T44, T45, T47, T48, T50, T51, T53, T56, T60, T61, T62, T63, T64, T65, T67, T69, T70, T71, T72, T74, T76, T77, T78, T79, T80, T82, T83, T84, T85, T86, T92, T93, T94, T95, T96, T99]
    repeat' (first | with_reducible refine cnd_split (fun hc => ?_) (fun hc => ?_) | with_reducible refine Reqs.mk ?_ ?_)
    all_goals first
      | trivial
      | (refine endS_s (t := (textD n d)) hr ?_; rw [textD_w (by first | assumption | (rw [← Bool.not_eq_true]; assumption))]; done)
      | (refine endS_s (t := (textD n d)) hr ?_; rw [textU_w (by first | assumption | (rw [← Bool.not_eq_true]; assumption))]; done)
      | (refine endS_s (t := (textD n d)) hr ?_; rw [textD_v (by first | assumption | (rw [← Bool.not_eq_true]; assumption))]; done)
      | (refine endS_s (t := (textD n d)) hr ?_; rw [textU_v (by first | assumption | (rw [← Bool.not_eq_true]; assumption))]; done)
      | skip
    all_goals obtain ⟨u1, u2, u3, u4, u5, u6, u7, u8, u9⟩ := text_ok (n := n) (d := d) (by assumption) (by assumption)
    all_goals first
      | exact u2
      | exact ⟨u4, u6⟩
      | exact ⟨u8, u1⟩
      | (refine ⟨u4, u6, ?_⟩; first | exact .inr (.inr rfl) | simp)
      | (refine endS_s (t := (textD n d)) hr ?_; rw [textD_u (by assumption) (by assumption)])
  · cases hF

-- impl.TextUp
theorem impl_TextUp_textU_ok : Fn Tryd.prog 10 F_textU := by
  refine fn_of_go (O := orc [⟨14, F_fixOk, .inl impl_ValidFix_fixOk_ok⟩, ⟨15, F_within, .inl impl_within_within_ok⟩, ⟨16, F_mulFloor, .inl impl_MulFloor_mulFloor_ok⟩, ⟨17, F_pow10, .inl impl_powerOfTen_pow10_ok⟩, ⟨18, F_units, .inl impl_digitsText_units_ok⟩]) mixed T_ok (orc_sound _) Tryd.func10 (by kernel_rfl) rfl Tryd.ntmps10 (by kernel_rfl) Tryd.results10 ?_
  intro args g pre r new hF hpre
  unfold F_textU at hF
  split at hF
  · rename_i n d
    simp only [Option.some.injEq, Prod.mk.injEq] at hF
    obtain ⟨rfl, hr, rfl⟩ := hF
    refine ⟨by simp, ?_⟩
    simp (config := { maxSteps := 4000000, implicitDefEqProofs := false }) only [F_fixOk_eq, F_mulFloor_eq, F_pow10_eq, F_units_eq, F_within_eq, WK0, WK1, WK2, WK3, WK4, WK5, WK6, WK7, WK8, WK9, WK10, WK11, WK12, WK13, WK14, WK15, WK16, WK17, WK18, WK19, WK20, WK21, WK22, WK23, WK24, WK25, WK26, WK27, WK28, look_hit, look_miss, List.map_cons, List.map_nil, Nat.add_zero, max_v, min_v, ↓cnd_t, ↓cnd_f, ↓grd_b, ↓grd_u, startEnv, Option.map_some, List.length_nil, List.length_cons, List.nil_append, List.cons_append, List.getElem?_cons_zero, List.getElem?_cons_succ, List.set_cons_zero, List.set_cons_succ, Bool.not_true, Bool.not_false, reduceIte, Nat.reduceEqDiff, Nat.reduceAdd, Nat.reduceLT, blt_lit, beq_lit, Bool.or_true, Bool.true_or, Bool.or_false, Bool.false_or, Bool.and_true, Bool.true_and, Bool.and_self, cond_true, cond_false, List.append_nil, Iv.eta, Option.map_none, idxO_l0, idxO_l1, decide_true, decide_false, reqs_true, Int.zero_sub, wrap_lit, wrapu_lit, Int.reduceLE, Int.reduceLT, Int.reduceAdd, Int.reduceSub, Int.reduceMul, Int.reduceNeg, Int.reduceEq, Option.bind_some, bin_shr_u64, bin_shl_u64, bin_shr_i64, bin_shl_i64, and_m32', Int.reduceToNat, Int.reducePow, Int.reduceMod, Int.reduceDiv, wrap_u64s, true_or, or_true, true_and, and_true, Option.isSome_none, Option.isSome_some, Nat.reduceLeDiff, Nat.reduceMul, Int.toNat_natCast, Int.cast_ofNat_Int, Int.natCast_zero, Int.natCast_one, List.isEmpty_nil, List.isEmpty_cons, List.replicate_zero, List.replicate_succ, T1, T2, T3, T4, T5, T6, T9, T10, T11, T12, T21, T22, T23, T24, T25, T26, T27, T28, T29, T30, T31, T32, T34, T35, T36, T37, T38, T39, T40, T41, T42, T43, T44, T45, T47, T48, T50, T51, T53, T56, T60, T61, T62, T63, T64, T65, T67, T69, T70, T71, T72, T74, T76, T77, T78, T79, T80, T82, T83, T84, T85, T86, T92, T93, T94, T95, T96, T99]
    repeat' (first | with_reducible refine cnd_split (fun hc => ?_) (fun hc => ?_) | with_reducible refine Reqs.mk ?_ ?_)
    all_goals first
      | trivial
      | (refine endS_s (t := (textU n d)) hr ?_; rw [textD_w (by first | assumption | (rw [← Bool.not_eq_true]; assumption))]; done)
      | (refine endS_s (t := (textU n d)) hr ?_; rw [textU_w (by first | assumption | (rw [← Bool.not_eq_true]; assumption))]; done)
      | (refine endS_s (t := (textU n d)) hr ?_; rw [textD_v (by first | assumption | (rw [← Bool.not_eq_true]; assumption))]; done)
      | (refine endS_s (t := (textU n d)) hr ?_; rw [textU_v (by first | assumption | (rw [← Bool.not_eq_true]; assumption))]; done)
      | skip
    all_goals obtain ⟨u1, u2, u3, u4, u5, u6, u7, u8, u9⟩ := text_ok (n := n) (d := d) (by assumption) (by assumption)
    all_goals (try rw [u3])
    all_goals (try rw [u7])
    all_goals first
      | exact u2
      | exact ⟨u5, u6⟩
      | exact ⟨u9, u1⟩
      | (refine ⟨u5, u6, ?_⟩; first | exact .inr (.inr rfl) | simp)
      | (refine endS_s (t := (textU n d)) hr ?_; rw [textU_u (by assumption) (by assumption)])
  · cases hF

-- spec.l03Text
theorem spec_l03Text_textB_ok : Fn Tryd.prog 12 F_textB := by
  refine fn_of_go (O := orc [⟨19, F_fixOk, .inl spec_l03Ok_fixOk_ok⟩, ⟨20, F_within, .inl spec_l00In_within_ok⟩, ⟨21, F_mulFloor, .inl spec_MulFloor_mulFloor_ok⟩, ⟨22, F_pow10, .inl spec_l03Power_pow10_ok⟩, ⟨23, F_units, .inl spec_l03Units_units_ok⟩]) mixed T_ok (orc_sound _) Tryd.func12 (by kernel_rfl) rfl Tryd.ntmps12 (by kernel_rfl) Tryd.results12 ?_
  intro args g pre r new hF hpre
  unfold F_textB at hF
  split at hF
  · rename_i n d up
    simp only [Option.some.injEq, Prod.mk.injEq] at hF
    obtain ⟨rfl, hr, rfl⟩ := hF
    refine ⟨by simp, ?_⟩
    simp (config := { maxSteps := 4000000, implicitDefEqProofs := false }) only [F_fixOk_eq, F_mulFloor_eq, F_pow10_eq, F_units_eq, F_within_eq, WK0, WK1, WK2, WK3, WK4, WK5, WK6, WK7, WK8, WK9, WK10, WK11, WK12, WK13, WK14, WK15, WK16, WK17, WK18, WK19, WK20, WK21, WK22, WK23, WK24, WK25, WK26, WK27, WK28, look_hit, look_miss, List.map_cons, List.map_nil, Nat.add_zero, max_v, min_v, ↓cnd_t, ↓cnd_f, ↓grd_b, ↓grd_u, startEnv, Option.map_some, List.length_nil, List.length_cons, List.nil_append, List.cons_append, List.getElem?_cons_zero, List.getElem?_cons_succ, List.set_cons_zero, List.set_cons_succ, Bool.not_true, Bool.not_false, reduceIte, Nat.reduceEqDiff, Nat.reduceAdd, Nat.reduceLT, blt_lit, beq_lit, Bool.or_true, Bool.true_or, Bool.or_false, Bool.false_or, Bool.and_true, Bool.true_and, Bool.and_self, cond_true, cond_false, List.append_nil, Iv.eta, Option.map_none, idxO_l0, idxO_l1, decide_true, decide_false, reqs_true, Int.zero_sub, wrap_lit, wrapu_lit, Int.reduceLE, Int.reduceLT, Int.reduceAdd, Int.reduceSub, Int.reduceMul, Int.reduceNeg, Int.reduceEq, Option.bind_some, bin_shr_u64, bin_shl_u64, bin_shr_i64, bin_shl_i64, and_m32', Int.reduceToNat, Int.reducePow, Int.reduceMod, Int.reduceDiv, wrap_u64s, true_or, or_true, true_and, and_true, Option.isSome_none, Option.isSome_some, Nat.reduceLeDiff, Nat.reduceMul, Int.toNat_natCast, Int.cast_ofNat_Int, Int.natCast_zero, Int.natCast_one, List.isEmpty_nil, List.isEmpty_cons, List.replicate_zero, List.replicate_succ, T1, T2, T3, T4, T5, T6, T9, T10, T11, T12, T21, T22, T23, T24, T25, T26, T27, T28, T29, T30, T31, T32, T34, T35, T36, T37, T38, T39, T40, T41, T42, T43, T44, T45, T47, T48, T50, T51, T53, T56, T60, T61, T62, T63, T64, T65, T67, T69, T70, T71, T72, T74, T76, T77, T78, T79, T80, T82, T83, T84, T85, T86, T92, T93, T94, T95, T96, T99]
    repeat' (first | with_reducible refine cnd_split (fun hc => ?_) (fun hc => ?_) | with_reducible refine Reqs.mk ?_ ?_)
    all_goals (try simp only [decide_eq_true_eq, decide_eq_false_iff_not] at *)
    all_goals first
      | trivial
      | (refine endS_s (t := (if up then textU n d else textD n d)) hr ?_; cases up <;> first | (rw [if_pos rfl, textU_w (by assumption)]; done) | (rw [if_neg (by decide), textD_w (by assumption)]; done) | (rw [if_pos rfl, textU_v (by assumption)]; done) | (rw [if_neg (by decide), textD_v (by assumption)]; done))
      | skip
    all_goals obtain ⟨u1, u2, u3, u4, u5, u6, u7, u8, u9⟩ := text_ok (n := n) (d := d) (by assumption) (by assumption)
    all_goals (try rw [u3])
    all_goals (try rw [u7])
    all_goals first
      | exact u2
      | exact ⟨u4, u6⟩
      | exact ⟨u5, u6⟩
      | exact ⟨u8, u1⟩
      | exact ⟨u9, u1⟩
      | (refine ⟨u4, u6, ?_⟩; first | exact .inr (.inr rfl) | simp)
      | (refine ⟨u5, u6, ?_⟩; first | exact .inr (.inr rfl) | simp)
      | (refine endS_s (t := (if up then textU n d else textD n d)) hr ?_; have hc' : up = true := by assumption
         rw [if_pos hc', textU_u (by assumption) (by assumption)]; done)
      | (refine endS_s (t := (if up then textU n d else textD n d)) hr ?_; have hc' : up = false := by assumption
         rw [if_neg (by simp [hc']), textD_u (by assumption) (by assumption)]; done)
  · cases hF

-- interval texts
theorem unitsL_len {m d : Int} (h : (-9223372036854775808 < m ∧ m ≤ 9223372036854775807) ∧ 0 ≤ d ∧ d ≤ 9) : (unitsL m d).length ≤ 31 := by
  have ok := units_ok h
  obtain ⟨a0, a1, pa, pb, zP, ut, ur, uw, uq, ux⟩ := ok
  have k1 := @itoa_len (absZ m / pw10 d) (by omega) (by omega)
  have hs : (if m < 0 then [45] else [] : List UInt8).length ≤ 1 := by split <;> simp
  unfold unitsL
  by_cases hd : d = 0
  · rw [if_pos hd]; simp only [List.length_append, List.length_nil]; omega
  · have k3 := @itoa_len_d (absZ m % pw10 d) d ux.1 ux.2 (by omega)
    rw [if_neg hd]
    unfold zeros
    simp only [List.length_append, List.length_replicate, List.length_cons, List.length_nil]
    omega
theorem textD_len (n : Int) : (textD n 9).length ≤ 31 := by
  unfold textD
  split
  · rename_i h
    rw [Bool.and_eq_true] at h
    have := text_ok h.1 h.2
    exact unitsL_len ⟨this.2.2.2.2.2.2.2.1, by omega⟩
  · simp
theorem textU_len (n : Int) : (textU n 9).length ≤ 31 := by
  unfold textU
  split
  · rename_i h
    rw [Bool.and_eq_true] at h
    have := text_ok h.1 h.2
    exact unitsL_len ⟨this.2.2.2.2.2.2.2.2, by omega⟩
  · simp
theorem ite_tt {α : Type} {a b : α} : (if (true : Bool) = true then a else b) = a := rfl
theorem ite_ft {α : Type} {a b : α} : (if (false : Bool) = true then a else b) = b := rfl
theorem ivL_w {a : Iv} (h : okI a = false) : ivL a = [119, 104, 111, 108, 101] := by unfold ivL; rw [h]; rfl
theorem ivL_o {a : Iv} (h : okI a = true) : ivL a = [91] ++ textD a.lo 9 ++ [44, 32] ++ textU a.hi 9 ++ [93] := by unfold ivL; rw [if_pos h]

-- impl.IntervalText
theorem impl_IntervalText_ivText_ok : Fn Tryd.prog 6 F_ivText := by
  refine fn_of_go (O := orc [⟨8, F_notOk, .inl impl_IsWhole_notOk_ok⟩, ⟨9, F_textD, .inl impl_TextDown_textD_ok⟩, ⟨10, F_textU, .inl impl_TextUp_textU_ok⟩]) mixed T_ok (orc_sound _) Tryd.func6 (by kernel_rfl) rfl Tryd.ntmps6 (by kernel_rfl) Tryd.results6 ?_
  intro args g pre r new hF hpre
  unfold F_ivText at hF
  split at hF
  · rename_i a1 a2
    simp only [Option.some.injEq, Prod.mk.injEq] at hF
    obtain ⟨rfl, hr, rfl⟩ := hF
    refine ⟨by simp, ?_⟩
    have k1 := textD_len a1
    have k2 := textU_len a2
    obtain ⟨s1, hs1⟩ : ∃ s1, textD a1 9 = s1 := ⟨_, rfl⟩
    obtain ⟨s2, hs2⟩ : ∃ s2, textU a2 9 = s2 := ⟨_, rfl⟩
    rw [hs1] at k1
    rw [hs2] at k2
    have f1 : shortL s1 = true := shortL_of (by omega)
    have f2 : shortL s2 = true := shortL_of (by omega)
    have f3 : shortL (91 :: s1) = true := shortL_of (by simp; omega)
    have f4 : shortL (91 :: (s1 ++ [44, 32])) = true := shortL_of (by simp; omega)
    have f5 : shortL (91 :: (s1 ++ [44, 32] ++ s2)) = true := shortL_of (by simp; omega)
    cases hk : okI ⟨a1, a2⟩ with
    | true =>
      have hI := ivL_o hk
      simp only [hs1, hs2] at hI
      simp (config := { maxSteps := 4000000, implicitDefEqProofs := false }) only [F_notOk_eq, F_textD_eq, F_textU_eq, WK0, WK1, WK2, WK3, WK4, WK5, WK6, WK7, WK8, WK9, WK10, WK11, WK12, WK13, WK14, WK15, WK16, WK17, WK18, WK19, WK20, WK21, WK22, WK23, WK24, WK25, WK26, WK27, WK28, look_hit, look_miss, List.map_cons, List.map_nil, Nat.add_zero, max_v, min_v, ↓cnd_t, ↓cnd_f, ↓grd_b, ↓grd_u, startEnv, Option.map_some, List.length_nil, List.length_cons, List.nil_append, List.cons_append, List.getElem?_cons_zero, List.getElem?_cons_succ, List.set_cons_zero, List.set_cons_succ, Bool.not_true, Bool.not_false, reduceIte, Nat.reduceEqDiff, Nat.reduceAdd, Nat.reduceLT, blt_lit, beq_lit, Bool.or_true, Bool.true_or, Bool.or_false, Bool.false_or, Bool.and_true, Bool.true_and, Bool.and_self, cond_true, cond_false, List.append_nil, Iv.eta, Option.map_none, idxO_l0, idxO_l1, decide_true, decide_false, reqs_true, Int.zero_sub, wrap_lit, wrapu_lit, Int.reduceLE, Int.reduceLT, Int.reduceAdd, Int.reduceSub, Int.reduceMul, Int.reduceNeg, Int.reduceEq, Option.bind_some, bin_shr_u64, bin_shl_u64, bin_shr_i64, bin_shl_i64, and_m32', Int.reduceToNat, Int.reducePow, Int.reduceMod, Int.reduceDiv, wrap_u64s, true_or, or_true, true_and, and_true, Option.isSome_none, Option.isSome_some, Nat.reduceLeDiff, Nat.reduceMul, Int.toNat_natCast, Int.cast_ofNat_Int, Int.natCast_zero, Int.natCast_one, List.isEmpty_nil, List.isEmpty_cons, List.replicate_zero, List.replicate_succ, T1, T2, T3, T4, T5, T6, T9, T10, T11, T12, T21, T22, T23, T24, T25, T26, T27, T28, T29, T30, T31, T32, T34, T35, T36, T37, T38, T39, T40, T41, T42, T43, T44, T45, T47, T48, T50, T51, T53, T56, T60, T61, T62, T63, T64, T65, T67, T69, T70, T71, T72, T74, T76, T77, T78, T79, T80, T82, T83, T84, T85, T86, T92, T93, T94, T95, T96, T99, hk, hs1, hs2, f1, f2, f3, f4, f5]
      repeat' (first | with_reducible refine cnd_split (fun hc => ?_) (fun hc => ?_) | with_reducible refine Reqs.mk ?_ ?_)
      all_goals first | trivial | (refine endS_s (t := (ivL (Iv.mk a1 a2))) hr ?_; rw [hI]; simp)
    | false =>
      have hI := ivL_w hk
      simp (config := { maxSteps := 4000000, implicitDefEqProofs := false }) only [F_notOk_eq, F_textD_eq, F_textU_eq, WK0, WK1, WK2, WK3, WK4, WK5, WK6, WK7, WK8, WK9, WK10, WK11, WK12, WK13, WK14, WK15, WK16, WK17, WK18, WK19, WK20, WK21, WK22, WK23, WK24, WK25, WK26, WK27, WK28, look_hit, look_miss, List.map_cons, List.map_nil, Nat.add_zero, max_v, min_v, ↓cnd_t, ↓cnd_f, ↓grd_b, ↓grd_u, startEnv, Option.map_some, List.length_nil, List.length_cons, List.nil_append, List.cons_append, List.getElem?_cons_zero, List.getElem?_cons_succ, List.set_cons_zero, List.set_cons_succ, Bool.not_true, Bool.not_false, reduceIte, Nat.reduceEqDiff, Nat.reduceAdd, Nat.reduceLT, blt_lit, beq_lit, Bool.or_true, Bool.true_or, Bool.or_false, Bool.false_or, Bool.and_true, Bool.true_and, Bool.and_self, cond_true, cond_false, List.append_nil, Iv.eta, Option.map_none, idxO_l0, idxO_l1, decide_true, decide_false, reqs_true, Int.zero_sub, wrap_lit, wrapu_lit, Int.reduceLE, Int.reduceLT, Int.reduceAdd, Int.reduceSub, Int.reduceMul, Int.reduceNeg, Int.reduceEq, Option.bind_some, bin_shr_u64, bin_shl_u64, bin_shr_i64, bin_shl_i64, and_m32', Int.reduceToNat, Int.reducePow, Int.reduceMod, Int.reduceDiv, wrap_u64s, true_or, or_true, true_and, and_true, Option.isSome_none, Option.isSome_some, Nat.reduceLeDiff, Nat.reduceMul, Int.toNat_natCast, Int.cast_ofNat_Int, Int.natCast_zero, Int.natCast_one, List.isEmpty_nil, List.isEmpty_cons, List.replicate_zero, List.replicate_succ, T1, T2, T3, T4, T5, T6, T9, T10, T11, T12, T21, T22, T23, T24, T25, T26, T27, T28, T29, T30, T31, T32, T34, T35, T36, T37, T38, T39, T40, T41, T42, T43, T44, T45, T47, T48, T50, T51, T53, T56, T60, T61, T62, T63, T64, T65, T67, T69, T70, T71, T72, T74, T76, T77, T78, T79, T80, T82, T83, T84, T85, T86, T92, T93, T94, T95, T96, T99, hk]
      repeat' (first | with_reducible refine cnd_split (fun hc => ?_) (fun hc => ?_) | with_reducible refine Reqs.mk ?_ ?_)
      all_goals first | trivial | (refine endS_s (t := (ivL (Iv.mk a1 a2))) hr ?_; rw [hI])
  · cases hF

end Go.Proofs.YtcnapkdccjibpaaDoor.Eng
