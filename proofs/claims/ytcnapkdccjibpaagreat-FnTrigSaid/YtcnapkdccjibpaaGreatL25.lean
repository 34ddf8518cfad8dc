/- What functions of the program compute, and that the program computes it: part 25. -/
import Derived.Test.YtcnapkdccjibpaaGreatTab
import Derived.Test.YtcnapkdccjibpaaGreatEng16
import Derived.Laws.BitsLemmas
import Derived.Laws.Bits64
import Derived.Laws.Bits64b
import Derived.Lib.Mul64
import Derived.Lib.BitFns
import Derived.Laws.Externs
import Derived.Test.YtcnapkdccjibpaaGreatL1
import Derived.Test.YtcnapkdccjibpaaGreatL2
import Derived.Test.YtcnapkdccjibpaaGreatL3
import Derived.Test.YtcnapkdccjibpaaGreatL8
import Derived.Test.YtcnapkdccjibpaaGreatL12
import Derived.Test.YtcnapkdccjibpaaGreatL19
import Derived.Test.YtcnapkdccjibpaaGreatL24
namespace Go.Proofs.YtcnapkdccjibpaaGreat.Eng
open Go Go.RowKit
set_option linter.unusedVariables false
set_option linter.unusedSimpArgs false
set_option maxRecDepth 100000
set_option maxHeartbeats 1000000
-- spec.CosI
theorem spec_CosI_cosI_ok : Fn Tryz.prog 46 F_cosI := by
  refine fn_of_go (O := orc [⟨117, F_hullC, .inl spec_l06Over_hullC_ok⟩]) mixed T_ok (orc_sound _) Tryz.func46 (by kernel_rfl) rfl Tryz.ntmps46 (by kernel_rfl) Tryz.results46 ?_
  intro args g pre r new hF hpre
  unfold F_cosI at hF
  split at hF
  · rename_i x1 x2
    simp only [Option.some.injEq, Prod.mk.injEq] at hF
    obtain ⟨rfl, hr, rfl⟩ := hF
    refine ⟨by simp, ?_⟩
    simp (config := { maxSteps := 4000000, implicitDefEqProofs := false }) only [F_hullC_eq, WK0, WK1, WK2, WK3, WK4, WK5, WK6, WK7, WK8, WK9, WK10, WK11, WK12, WK13, WK14, WK15, WK16, WK17, WK18, WK19, WK20, WK21, WK22, WK23, WK24, WK25, WK26, WK27, WK28, look_hit, look_miss, List.map_cons, List.map_nil, Nat.add_zero, max_v, min_v, ↓cnd_t, ↓cnd_f, ↓grd_b, ↓grd_u, startEnv, Option.map_some, List.length_nil, List.length_cons, List.nil_append, List.cons_append, List.getElem?_cons_zero, List.getElem?_cons_succ, List.set_cons_zero, List.set_cons_succ, Bool.not_true, Bool.not_false, reduceIte, Nat.reduceEqDiff, Nat.reduceAdd, Nat.reduceLT, blt_lit, beq_lit, Bool.or_true, Bool.true_or, Bool.or_false, Bool.false_or, Bool.and_true, Bool.true_and, Bool.and_self, cond_true, cond_false, List.append_nil, Iv.eta, Option.map_none, idxO_l0, idxO_l1, decide_true, decide_false, reqs_true, Int.zero_sub, wrap_lit, wrapu_lit, Int.reduceLE, Int.reduceLT, Int.reduceAdd, Int.reduceSub, Int.reduceMul, Int.reduceNeg, Int.reduceEq, Option.bind_some, bin_shr_u64, bin_shl_u64, bin_shr_i64, bin_shl_i64, and_m32', Int.reduceToNat, Int.reducePow, Int.reduceMod, Int.reduceDiv, wrap_u64s, true_or, or_true, true_and, and_true, Option.isSome_none, Option.isSome_some, Nat.reduceLeDiff, Nat.reduceMul, Int.toNat_natCast, Int.cast_ofNat_Int, Int.natCast_zero, Int.natCast_one, List.isEmpty_nil, List.isEmpty_cons, List.replicate_zero, List.replicate_succ, T1, T2, T3, T4, T5, T6, T9, T10, T11, T12, T21, T22, T23, T24, T26, T27, T28, T29, T30, T31, T32, T33, T34, T35, T37, T38, T39, T40, T42, T43, T44, T45, T46, T47, T48, T50, T52, T54, T55, T56, T57, T58, T59, T60, T61, T62, T63, T64, T65, T66, T67, T68, T69, T70, T71, T72, T73, T75, T77, T78, T79, T80, T82, T83, T84, T85, T87, T89, T90, T91, T92, T95, T97, T103, T104, T105, T106, T107, T109, T110]
    repeat' (first | with_reducible refine cnd_split (fun hc => ?_) (fun hc => ?_) | with_reducible refine Reqs.mk ?_ ?_)
    all_goals first | trivial | omega | exact endS_v (t := (hullC (Iv.mk x1 x2) 1)) hr rfl
  · cases hF

-- def TanI
theorem and_1i {a : Int} : IntKind.i64.wrap ((BitVec.ofInt IntKind.i64.bits a &&& BitVec.ofInt IntKind.i64.bits 1).toNat : Nat) = a % 2 := by
  have h1 : (BitVec.ofInt IntKind.i64.bits a).toNat = (a % 18446744073709551616).toNat := by rw [bits_i64]; simp
  have h2 : (BitVec.ofInt IntKind.i64.bits 1).toNat = 1 := by rw [bits_i64]; simp
  rw [BitVec.toNat_and, h1, h2, Nat.and_two_pow_sub_one_eq_mod _ 1, IntKind.wrap_i64]
  omega
def oddL (l : List Int) : Bool := l.any fun k => decide (k % 2 = 1)
theorem oddL_nil : oddL [] = false := rfl
theorem oddL_y {k : Int} {l : List Int} (h : k % 2 = 1) : oddL (k :: l) = true := by simp [oddL, h]
theorem oddL_n {k : Int} {l : List Int} (h : ¬ k % 2 = 1) : oddL (k :: l) = oddL l := by simp only [oddL, List.any_cons, decide_eq_false h, Bool.false_or]
def tanE (x : Iv) : Iv := hullI (divI (circ x.lo 0) (circ x.lo 1)) (divI (circ x.hi 0) (circ x.hi 1))
def tanW (b : Bool) (x : Iv) : Iv := if b then whole else tanE x
def tanI (x : Iv) : Iv := if anglesOk x then tanW (oddL (turns x)) x else whole
theorem tanW_t {x : Iv} : tanW true x = whole := rfl
theorem tanW_f {x : Iv} : tanW false x = tanE x := rfl
def F_tanI : FT
  | [.agg [.int .i64 x1, .int .i64 x2]], _ => some (True, .v (.agg [.int .i64 ((tanI (Iv.mk x1 x2))).lo, .int .i64 ((tanI (Iv.mk x1 x2))).hi]), [])
  | _, _ => none
theorem F_tanI_eq {x1 : Int} {x2 : Int} {g : List PC} : F_tanI [.agg [.int .i64 x1, .int .i64 x2]] g = some (True, .v (.agg [.int .i64 ((tanI (Iv.mk x1 x2))).lo, .int .i64 ((tanI (Iv.mk x1 x2))).hi]), []) := rfl

-- impl.TanI
theorem impl_TanI_tanI_ok : Fn Tryz.prog 19 F_tanI := by
  refine fn_of_go (O := orcM [⟨8, F_sinAt, .inl impl_SinAt_sinAt_ok⟩, ⟨9, F_cosAt, .inl impl_CosAt_cosAt_ok⟩, ⟨70, F_anglesOk, .inl impl_areAngles_anglesOk_ok⟩, ⟨71, F_whole, .inl impl_Whole_whole_ok⟩, ⟨73, F_hullI, .inl impl_HullI_hullI_ok⟩, ⟨74, F_divI, .inl impl_DivI_divI_ok⟩] [⟨72, M_turns, false, no_one, impl_turnsIn_turns_ok⟩]) mixed T_ok (orcM_sound _ _) Tryz.func19 (by kernel_rfl) rfl Tryz.ntmps19 (by kernel_rfl) Tryz.results19 ?_
  intro args g pre r new hF hpre
  unfold F_tanI at hF
  split at hF
  · rename_i x1 x2
    simp only [Option.some.injEq, Prod.mk.injEq] at hF
    obtain ⟨rfl, hr, rfl⟩ := hF
    refine ⟨by simp, ?_⟩
    cases hL : turns ⟨x1, x2⟩ with
    | nil =>
      simp (config := { maxSteps := 4000000, implicitDefEqProofs := false }) only [F_anglesOk_eq, F_cosAt_eq, F_divI_eq, F_hullI_eq, F_sinAt_eq, F_whole_eq, WK0, WK1, WK2, WK3, WK4, WK5, WK6, WK7, WK8, WK9, WK10, WK11, WK12, WK13, WK14, WK15, WK16, WK17, WK18, WK19, WK20, WK21, WK22, WK23, WK24, WK25, WK26, WK27, WK28, look_hit, look_miss, List.map_cons, List.map_nil, Nat.add_zero, max_v, min_v, ↓cnd_t, ↓cnd_f, ↓grd_b, ↓grd_u, startEnv, Option.map_some, List.length_nil, List.length_cons, List.nil_append, List.cons_append, List.getElem?_cons_zero, List.getElem?_cons_succ, List.set_cons_zero, List.set_cons_succ, Bool.not_true, Bool.not_false, reduceIte, Nat.reduceEqDiff, Nat.reduceAdd, Nat.reduceLT, blt_lit, beq_lit, Bool.or_true, Bool.true_or, Bool.or_false, Bool.false_or, Bool.and_true, Bool.true_and, Bool.and_self, cond_true, cond_false, List.append_nil, Iv.eta, Option.map_none, idxO_l0, idxO_l1, decide_true, decide_false, reqs_true, Int.zero_sub, wrap_lit, wrapu_lit, Int.reduceLE, Int.reduceLT, Int.reduceAdd, Int.reduceSub, Int.reduceMul, Int.reduceNeg, Int.reduceEq, Option.bind_some, bin_shr_u64, bin_shl_u64, bin_shr_i64, bin_shl_i64, and_m32', Int.reduceToNat, Int.reducePow, Int.reduceMod, Int.reduceDiv, wrap_u64s, true_or, or_true, true_and, and_true, Option.isSome_none, Option.isSome_some, Nat.reduceLeDiff, Nat.reduceMul, Int.toNat_natCast, Int.cast_ofNat_Int, Int.natCast_zero, Int.natCast_one, List.isEmpty_nil, List.isEmpty_cons, List.replicate_zero, List.replicate_succ, T1, T2, T3, T4, T5, T6, T9, T10, T11, T12, T21, T22, T23, T24, T26, T27, T28, T29, T30, T31, T32, T33, T34, T35, T37, T38, T39, T40, T42, T43, T44, T45, T46, T47, T48, T50, T52, T54, T55, T56, T57, T58, T59, T60, T61, T62, T63, T64, T65, T66, T67, T68, T69, T70, T71, T72, T73, T75, T77, T78, T79, T80, T82, T83, T84, T85, T87, T89, T90, T91, T92, T95, T97, T103, T104, T105, T106, T107, T109, T110, M_turns_eq, hL, rowR_0, rowH_0, go_turn_eq, again_n, again_r, again_e]
      repeat' (first | with_reducible refine cnd_split (fun hc => ?_) (fun hc => ?_) | with_reducible refine Reqs.mk ?_ ?_)
      all_goals first
        | trivial
        | exact anglesOk_out (by assumption)
        | (refine endS_v (t := (tanI (Iv.mk x1 x2))) hr ?_; rw [tanI, if_pos (by assumption), hL, oddL_nil]; rfl)
        | (refine endS_v (t := (tanI (Iv.mk x1 x2))) hr ?_; rw [tanI, if_neg (ne_of_f (by assumption))])
    | cons k0 r0 =>
      simp (config := { maxSteps := 4000000, implicitDefEqProofs := false }) only [F_anglesOk_eq, F_cosAt_eq, F_divI_eq, F_hullI_eq, F_sinAt_eq, F_whole_eq, WK0, WK1, WK2, WK3, WK4, WK5, WK6, WK7, WK8, WK9, WK10, WK11, WK12, WK13, WK14, WK15, WK16, WK17, WK18, WK19, WK20, WK21, WK22, WK23, WK24, WK25, WK26, WK27, WK28, look_hit, look_miss, List.map_cons, List.map_nil, Nat.add_zero, max_v, min_v, ↓cnd_t, ↓cnd_f, ↓grd_b, ↓grd_u, startEnv, Option.map_some, List.length_nil, List.length_cons, List.nil_append, List.cons_append, List.getElem?_cons_zero, List.getElem?_cons_succ, List.set_cons_zero, List.set_cons_succ, Bool.not_true, Bool.not_false, reduceIte, Nat.reduceEqDiff, Nat.reduceAdd, Nat.reduceLT, blt_lit, beq_lit, Bool.or_true, Bool.true_or, Bool.or_false, Bool.false_or, Bool.and_true, Bool.true_and, Bool.and_self, cond_true, cond_false, List.append_nil, Iv.eta, Option.map_none, idxO_l0, idxO_l1, decide_true, decide_false, reqs_true, Int.zero_sub, wrap_lit, wrapu_lit, Int.reduceLE, Int.reduceLT, Int.reduceAdd, Int.reduceSub, Int.reduceMul, Int.reduceNeg, Int.reduceEq, Option.bind_some, bin_shr_u64, bin_shl_u64, bin_shr_i64, bin_shl_i64, and_m32', Int.reduceToNat, Int.reducePow, Int.reduceMod, Int.reduceDiv, wrap_u64s, true_or, or_true, true_and, and_true, Option.isSome_none, Option.isSome_some, Nat.reduceLeDiff, Nat.reduceMul, Int.toNat_natCast, Int.cast_ofNat_Int, Int.natCast_zero, Int.natCast_one, List.isEmpty_nil, List.isEmpty_cons, List.replicate_zero, List.replicate_succ, T1, T2, T3, T4, T5, T6, T9, T10, T11, T12, T21, T22, T23, T24, T26, T27, T28, T29, T30, T31, T32, T33, T34, T35, T37, T38, T39, T40, T42, T43, T44, T45, T46, T47, T48, T50, T52, T54, T55, T56, T57, T58, T59, T60, T61, T62, T63, T64, T65, T66, T67, T68, T69, T70, T71, T72, T73, T75, T77, T78, T79, T80, T82, T83, T84, T85, T87, T89, T90, T91, T92, T95, T97, T103, T104, T105, T106, T107, T109, T110, M_turns_eq, hL, rowR_s, rowH_s]
      repeat' (first | with_reducible refine cnd_split (fun hc => ?_) (fun hc => ?_) | with_reducible refine Reqs.mk ?_ ?_)
      all_goals first
        | trivial
        | exact anglesOk_out (by assumption)
        | (refine endS_v (t := (tanI (Iv.mk x1 x2))) hr ?_; rw [tanI, if_neg (ne_of_f (by assumption))])
        | skip
      refine go_loop (α := List Int × List Int) (fun s => s.2.length) (fun s e h => s.1 ++ s.2 = k0 :: r0 ∧ h = [[.int .i64 x1, .int .i64 x2], [.int .i64 0, .int .i64 0], turnsC ⟨x1, x2⟩] ∧ look e 1 = some (.v (.c (.ptr (.own 0 0)))) ∧ look e 2 = some (.v (.c (.ptr (.own 1 0)))) ∧
        look e 10 = some (.v (.c (.row 2 0 (r0.length + 1) 1))) ∧ look e 11 = some (.v (.c (.p (.int .i64 ((r0.length + 1 : Nat) : Int))))) ∧ look e 12 = some (.v (.c (.p (.int .i64 (s.1.length : Int))))) ∧ tanW (oddL s.2) ⟨x1, x2⟩ = tanI ⟨x1, x2⟩) ([], k0 :: r0) ⟨rfl, rfl, rfl, rfl, rfl, rfl, rfl, ?_⟩ ?_
      · rw [tanI, if_pos (by assumption), hL]
      · rintro X ⟨pre, post⟩ e h ⟨hpp, rfl, l1, l2, l10, l11, l12, hF⟩ hX
        simp only at hpp l12 hF hX
        have hlen := congrArg List.length hpp
        simp only [List.length_append, List.length_cons] at hlen
        have hbd : r0.length + 1 ≤ 2000 := by
          have h1 : (turns ⟨x1, x2⟩).length ≤ turnN ⟨x1, x2⟩ := turnL_len _ _ _
          rw [hL, List.length_cons] at h1
          have q1 := quarter_bd0 x1
          have q2 := quarter_bd0 x2
          simp only [turnN] at h1
          omega
        obtain ⟨N, hN⟩ : ∃ N : Int, ((r0.length + 1 : Nat) : Int) = N := ⟨_, rfl⟩
        obtain ⟨J, hJ⟩ : ∃ J : Int, (pre.length : Int) = J := ⟨_, rfl⟩
        rw [hN] at l11
        rw [hJ] at l12
        cases post with
        | nil =>
          simp only [List.length_nil] at hlen
          have c0 : decide (J < N) = false := by simp only [decide_eq_false_iff_not]; omega
          rw [oddL_nil, tanW_f] at hF
          simp (config := { maxSteps := 4000000, implicitDefEqProofs := false }) only [F_anglesOk_eq, F_cosAt_eq, F_divI_eq, F_hullI_eq, F_sinAt_eq, F_whole_eq, WK0, WK1, WK2, WK3, WK4, WK5, WK6, WK7, WK8, WK9, WK10, WK11, WK12, WK13, WK14, WK15, WK16, WK17, WK18, WK19, WK20, WK21, WK22, WK23, WK24, WK25, WK26, WK27, WK28, look_hit, look_miss, List.map_cons, List.map_nil, Nat.add_zero, max_v, min_v, ↓cnd_t, ↓cnd_f, ↓grd_b, ↓grd_u, startEnv, Option.map_some, List.length_nil, List.length_cons, List.nil_append, List.cons_append, List.getElem?_cons_zero, List.getElem?_cons_succ, List.set_cons_zero, List.set_cons_succ, Bool.not_true, Bool.not_false, reduceIte, Nat.reduceEqDiff, Nat.reduceAdd, Nat.reduceLT, blt_lit, beq_lit, Bool.or_true, Bool.true_or, Bool.or_false, Bool.false_or, Bool.and_true, Bool.true_and, Bool.and_self, cond_true, cond_false, List.append_nil, Iv.eta, Option.map_none, idxO_l0, idxO_l1, decide_true, decide_false, reqs_true, Int.zero_sub, wrap_lit, wrapu_lit, Int.reduceLE, Int.reduceLT, Int.reduceAdd, Int.reduceSub, Int.reduceMul, Int.reduceNeg, Int.reduceEq, Option.bind_some, bin_shr_u64, bin_shl_u64, bin_shr_i64, bin_shl_i64, and_m32', Int.reduceToNat, Int.reducePow, Int.reduceMod, Int.reduceDiv, wrap_u64s, true_or, or_true, true_and, and_true, Option.isSome_none, Option.isSome_some, Nat.reduceLeDiff, Nat.reduceMul, Int.toNat_natCast, Int.cast_ofNat_Int, Int.natCast_zero, Int.natCast_one, List.isEmpty_nil, List.isEmpty_cons, List.replicate_zero, List.replicate_succ, T1, T2, T3, T4, T5, T6, T9, T10, T11, T12, T21, T22, T23, T24, T26, T27, T28, T29, T30, T31, T32, T33, T34, T35, T37, T38, T39, T40, T42, T43, T44, T45, T46, T47, T48, T50, T52, T54, T55, T56, T57, T58, T59, T60, T61, T62, T63, T64, T65, T66, T67, T68, T69, T70, T71, T72, T73, T75, T77, T78, T79, T80, T82, T83, T84, T85, T87, T89, T90, T91, T92, T95, T97, T103, T104, T105, T106, T107, T109, T110, l1, l2, l10, l11, l12, c0]
          repeat' (first | with_reducible refine cnd_split (fun hc => ?_) (fun hc => ?_) | with_reducible refine Reqs.mk ?_ ?_)
          all_goals first
            | trivial
            | (refine endS_v (t := (tanI (Iv.mk x1 x2))) hr ?_; exact hF)
        | cons k post =>
          simp only [List.length_cons] at hlen
          have c0 : decide (J < N) = true := by simp only [decide_eq_true_eq]; omega
          have hj : (decide (0 ≤ J) && decide (J < ((r0.length + 1 : Nat) : Int))) = true := by simp only [Bool.and_eq_true, decide_eq_true_eq]; omega
          have hJn : J.toNat = pre.length := by omega
          have hk := turnsC_get (hL.trans hpp.symm)
          have w2 : IntKind.i64.wrap (J + 1) = J + 1 := wrap_om (by omega) (by omega)
          have i1 : iadO [[.int .i64 x1, .int .i64 x2], [.int .i64 0, .int .i64 0], turnsC ⟨x1, x2⟩] (some (tdRow [PC.int .i64 0])) (some (.c (.row 2 0 (r0.length + 1) 1))) (some (.int .i64 J)) = some (some (.v (.c (.ptr (.own 2 pre.length)))), [[.int .i64 x1, .int .i64 x2], [.int .i64 0, .int .i64 0], turnsC ⟨x1, x2⟩]) := by
            rw [iadO_row rfl hj, hJn]; simp
          simp (config := { maxSteps := 4000000, implicitDefEqProofs := false }) only [F_anglesOk_eq, F_cosAt_eq, F_divI_eq, F_hullI_eq, F_sinAt_eq, F_whole_eq, WK0, WK1, WK2, WK3, WK4, WK5, WK6, WK7, WK8, WK9, WK10, WK11, WK12, WK13, WK14, WK15, WK16, WK17, WK18, WK19, WK20, WK21, WK22, WK23, WK24, WK25, WK26, WK27, WK28, look_hit, look_miss, List.map_cons, List.map_nil, Nat.add_zero, max_v, min_v, ↓cnd_t, ↓cnd_f, ↓grd_b, ↓grd_u, startEnv, Option.map_some, List.length_nil, List.length_cons, List.nil_append, List.cons_append, List.getElem?_cons_zero, List.getElem?_cons_succ, List.set_cons_zero, List.set_cons_succ, Bool.not_true, Bool.not_false, reduceIte, Nat.reduceEqDiff, Nat.reduceAdd, Nat.reduceLT, blt_lit, beq_lit, Bool.or_true, Bool.true_or, Bool.or_false, Bool.false_or, Bool.and_true, Bool.true_and, Bool.and_self, cond_true, cond_false, List.append_nil, Iv.eta, Option.map_none, idxO_l0, idxO_l1, decide_true, decide_false, reqs_true, Int.zero_sub, wrap_lit, wrapu_lit, Int.reduceLE, Int.reduceLT, Int.reduceAdd, Int.reduceSub, Int.reduceMul, Int.reduceNeg, Int.reduceEq, Option.bind_some, bin_shr_u64, bin_shl_u64, bin_shr_i64, bin_shl_i64, and_m32', Int.reduceToNat, Int.reducePow, Int.reduceMod, Int.reduceDiv, wrap_u64s, true_or, or_true, true_and, and_true, Option.isSome_none, Option.isSome_some, Nat.reduceLeDiff, Nat.reduceMul, Int.toNat_natCast, Int.cast_ofNat_Int, Int.natCast_zero, Int.natCast_one, List.isEmpty_nil, List.isEmpty_cons, List.replicate_zero, List.replicate_succ, T1, T2, T3, T4, T5, T6, T9, T10, T11, T12, T21, T22, T23, T24, T26, T27, T28, T29, T30, T31, T32, T33, T34, T35, T37, T38, T39, T40, T42, T43, T44, T45, T46, T47, T48, T50, T52, T54, T55, T56, T57, T58, T59, T60, T61, T62, T63, T64, T65, T66, T67, T68, T69, T70, T71, T72, T73, T75, T77, T78, T79, T80, T82, T83, T84, T85, T87, T89, T90, T91, T92, T95, T97, T103, T104, T105, T106, T107, T109, T110, l1, l2, l10, l11, l12, c0, i1, hk, and_1i, w2]
          repeat' (first | with_reducible refine cnd_split (fun hc => ?_) (fun hc => ?_) | with_reducible refine Reqs.mk ?_ ?_)
          all_goals first | trivial | skip
          all_goals (try simp only [decide_eq_true_eq, decide_eq_false_iff_not] at *)
          · rw [oddL_y (by assumption), tanW_t] at hF
            refine endS_v (t := (tanI (Iv.mk x1 x2))) hr ?_
            exact hF
          · rw [oddL_n (by assumption)] at hF
            refine hX (pre ++ [k], post) _ _ (Nat.lt_succ_self _) ⟨by simpa using hpp, rfl, ?_, ?_, ?_, ?_, ?_, ?_⟩
            all_goals first | (simp [look, l1, l2, l10, l11, ← hN]; done) | (simp [look, ← hJ]; done) | exact hF
  · cases hF

-- spec.TanI
theorem spec_TanI_tanI_ok : Fn Tryz.prog 43 F_tanI := by
  refine fn_of_go (O := orc [⟨18, F_overI, .inl spec_OverlapI_overI_ok⟩, ⟨20, F_divI, .inl spec_DivI_divI_ok⟩, ⟨42, F_turnI, .inl spec_TurnI_turnI_ok⟩, ⟨51, F_sinAt, .inl spec_SinAt_sinAt_ok⟩, ⟨52, F_cosAt, .inl spec_CosAt_cosAt_ok⟩, ⟨113, F_whole, .inl spec_Whole_whole_ok⟩, ⟨114, F_anglesOk, .inl spec_l06Fits_anglesOk_ok⟩, ⟨115, F_quarter, .inl spec_QuarterOf_quarter_ok⟩, ⟨116, F_hullI, .inl spec_HullI_hullI_ok⟩]) mixed T_ok (orc_sound _) Tryz.func43 (by kernel_rfl) rfl Tryz.ntmps43 (by kernel_rfl) Tryz.results43 ?_
  intro args g pre r new hF hpre
  unfold F_tanI at hF
  split at hF
  · rename_i x1 x2
    simp only [Option.some.injEq, Prod.mk.injEq] at hF
    obtain ⟨rfl, hr, rfl⟩ := hF
    refine ⟨by simp, ?_⟩
    have q1 := quarter_bd0 x1
    have q2 := quarter_bd0 x2
    have w1 : IntKind.i64.wrap (quarter x1 - 1) = quarter x1 - 1 := wrap_om (by omega) (by omega)
    have w2 : IntKind.i64.wrap (quarter x2 + 1) = quarter x2 + 1 := wrap_om (by omega) (by omega)
    simp (config := { maxSteps := 4000000, implicitDefEqProofs := false }) only [F_anglesOk_eq, F_cosAt_eq, F_divI_eq, F_hullI_eq, F_overI_eq, F_quarter_eq, F_sinAt_eq, F_turnI_eq, F_whole_eq, WK0, WK1, WK2, WK3, WK4, WK5, WK6, WK7, WK8, WK9, WK10, WK11, WK12, WK13, WK14, WK15, WK16, WK17, WK18, WK19, WK20, WK21, WK22, WK23, WK24, WK25, WK26, WK27, WK28, look_hit, look_miss, List.map_cons, List.map_nil, Nat.add_zero, max_v, min_v, ↓cnd_t, ↓cnd_f, ↓grd_b, ↓grd_u, startEnv, Option.map_some, List.length_nil, List.length_cons, List.nil_append, List.cons_append, List.getElem?_cons_zero, List.getElem?_cons_succ, List.set_cons_zero, List.set_cons_succ, Bool.not_true, Bool.not_false, reduceIte, Nat.reduceEqDiff, Nat.reduceAdd, Nat.reduceLT, blt_lit, beq_lit, Bool.or_true, Bool.true_or, Bool.or_false, Bool.false_or, Bool.and_true, Bool.true_and, Bool.and_self, cond_true, cond_false, List.append_nil, Iv.eta, Option.map_none, idxO_l0, idxO_l1, decide_true, decide_false, reqs_true, Int.zero_sub, wrap_lit, wrapu_lit, Int.reduceLE, Int.reduceLT, Int.reduceAdd, Int.reduceSub, Int.reduceMul, Int.reduceNeg, Int.reduceEq, Option.bind_some, bin_shr_u64, bin_shl_u64, bin_shr_i64, bin_shl_i64, and_m32', Int.reduceToNat, Int.reducePow, Int.reduceMod, Int.reduceDiv, wrap_u64s, true_or, or_true, true_and, and_true, Option.isSome_none, Option.isSome_some, Nat.reduceLeDiff, Nat.reduceMul, Int.toNat_natCast, Int.cast_ofNat_Int, Int.natCast_zero, Int.natCast_one, List.isEmpty_nil, List.isEmpty_cons, List.replicate_zero, List.replicate_succ, T1, T2, T3, T4, T5, T6, T9, T10, T11, T12, T21, T22, T23, T24, T26, T27, T28, T29, T30, T31, T32, T33, T34, T35, T37, T38, T39, T40, T42, T43, T44, T45, T46, T47, T48, T50, T52, T54, T55, T56, T57, T58, T59, T60, T61, T62, T63, T64, T65, T66, T67, T68, T69, T70, T71, T72, T73, T75, T77, T78, T79, T80, T82, T83, T84, T85, T87, T89, T90, T91, T92, T95, T97, T103, T104, T105, T106, T107, T109, T110, w1]
    repeat' (first | with_reducible refine cnd_split (fun hc => ?_) (fun hc => ?_) | with_reducible refine Reqs.mk ?_ ?_)
    all_goals first
      | trivial
      | (refine endS_v (t := (tanI (Iv.mk x1 x2))) hr ?_; rw [tanI, if_neg (ne_of_f (by assumption))])
      | skip
    have hok := anglesOk_out (by assumption)
    have q3 := quarter_mono hok.1 hok.2.1 hok.2.2
    refine go_loop (α := Nat) (fun s => s) (fun s e h => h = [[.int .i64 x1, .int .i64 x2], [.int .i64 0, .int .i64 0]] ∧ look e 1 = some (.v (.c (.ptr (.own 0 0)))) ∧ look e 2 = some (.v (.c (.ptr (.own 1 0)))) ∧
      look e 3 = some (.v (.c (.p (.int .i64 (quarter x2 + 2 - s))))) ∧ s ≤ turnN ⟨x1, x2⟩ ∧ tanW (oddL (turnL s (quarter x2 + 2 - s) ⟨x1, x2⟩)) ⟨x1, x2⟩ = tanI ⟨x1, x2⟩) (turnN ⟨x1, x2⟩) ?_ ?_
    · have e1 : quarter x2 + 2 - (turnN ⟨x1, x2⟩ : Int) = quarter x1 - 1 := by simp only [turnN]; omega
      refine ⟨rfl, rfl, rfl, ?_, Nat.le_refl _, ?_⟩
      · rw [e1]; rfl
      · rw [tanI, if_pos (by assumption), e1]
        rfl
    · rintro X n e h ⟨rfl, l1, l2, l3, hN, hF⟩ hX
      have hTN : (turnN ⟨x1, x2⟩ : Int) ≤ 329 := by simp only [turnN]; omega
      cases n with
      | zero =>
        have e0 : quarter x2 + 2 - ((0 : Nat) : Int) = quarter x2 + 2 := by simp
        rw [e0] at l3
        have c0 : decide (quarter x2 + 2 ≤ quarter x2 + 1) = false := by simp only [decide_eq_false_iff_not]; omega
        simp (config := { maxSteps := 4000000, implicitDefEqProofs := false }) only [F_anglesOk_eq, F_cosAt_eq, F_divI_eq, F_hullI_eq, F_overI_eq, F_quarter_eq, F_sinAt_eq, F_turnI_eq, F_whole_eq, WK0, WK1, WK2, WK3, WK4, WK5, WK6, WK7, WK8, WK9, WK10, WK11, WK12, WK13, WK14, WK15, WK16, WK17, WK18, WK19, WK20, WK21, WK22, WK23, WK24, WK25, WK26, WK27, WK28, look_hit, look_miss, List.map_cons, List.map_nil, Nat.add_zero, max_v, min_v, ↓cnd_t, ↓cnd_f, ↓grd_b, ↓grd_u, startEnv, Option.map_some, List.length_nil, List.length_cons, List.nil_append, List.cons_append, List.getElem?_cons_zero, List.getElem?_cons_succ, List.set_cons_zero, List.set_cons_succ, Bool.not_true, Bool.not_false, reduceIte, Nat.reduceEqDiff, Nat.reduceAdd, Nat.reduceLT, blt_lit, beq_lit, Bool.or_true, Bool.true_or, Bool.or_false, Bool.false_or, Bool.and_true, Bool.true_and, Bool.and_self, cond_true, cond_false, List.append_nil, Iv.eta, Option.map_none, idxO_l0, idxO_l1, decide_true, decide_false, reqs_true, Int.zero_sub, wrap_lit, wrapu_lit, Int.reduceLE, Int.reduceLT, Int.reduceAdd, Int.reduceSub, Int.reduceMul, Int.reduceNeg, Int.reduceEq, Option.bind_some, bin_shr_u64, bin_shl_u64, bin_shr_i64, bin_shl_i64, and_m32', Int.reduceToNat, Int.reducePow, Int.reduceMod, Int.reduceDiv, wrap_u64s, true_or, or_true, true_and, and_true, Option.isSome_none, Option.isSome_some, Nat.reduceLeDiff, Nat.reduceMul, Int.toNat_natCast, Int.cast_ofNat_Int, Int.natCast_zero, Int.natCast_one, List.isEmpty_nil, List.isEmpty_cons, List.replicate_zero, List.replicate_succ, T1, T2, T3, T4, T5, T6, T9, T10, T11, T12, T21, T22, T23, T24, T26, T27, T28, T29, T30, T31, T32, T33, T34, T35, T37, T38, T39, T40, T42, T43, T44, T45, T46, T47, T48, T50, T52, T54, T55, T56, T57, T58, T59, T60, T61, T62, T63, T64, T65, T66, T67, T68, T69, T70, T71, T72, T73, T75, T77, T78, T79, T80, T82, T83, T84, T85, T87, T89, T90, T91, T92, T95, T97, T103, T104, T105, T106, T107, T109, T110, l1, l2, l3, w2, c0]
        repeat' (first | with_reducible refine cnd_split (fun hc => ?_) (fun hc => ?_) | with_reducible refine Reqs.mk ?_ ?_)
        all_goals first | trivial | (refine endS_v (t := (tanI (Iv.mk x1 x2))) hr ?_; exact hF)
      | succ n =>
        obtain ⟨K, hK⟩ : ∃ K, quarter x2 + 2 - ((n + 1 : Nat) : Int) = K := ⟨_, rfl⟩
        rw [hK] at l3 hF
        have c0 : decide (K ≤ quarter x2 + 1) = true := by simp only [decide_eq_true_eq]; omega
        have w3 : IntKind.i64.wrap (K + 1) = K + 1 := wrap_om (by omega) (by omega)
        have hK1 : K + 1 = quarter x2 + 2 - (n : Int) := by omega
        rw [turnL] at hF
        simp (config := { maxSteps := 4000000, implicitDefEqProofs := false }) only [F_anglesOk_eq, F_cosAt_eq, F_divI_eq, F_hullI_eq, F_overI_eq, F_quarter_eq, F_sinAt_eq, F_turnI_eq, F_whole_eq, WK0, WK1, WK2, WK3, WK4, WK5, WK6, WK7, WK8, WK9, WK10, WK11, WK12, WK13, WK14, WK15, WK16, WK17, WK18, WK19, WK20, WK21, WK22, WK23, WK24, WK25, WK26, WK27, WK28, look_hit, look_miss, List.map_cons, List.map_nil, Nat.add_zero, max_v, min_v, ↓cnd_t, ↓cnd_f, ↓grd_b, ↓grd_u, startEnv, Option.map_some, List.length_nil, List.length_cons, List.nil_append, List.cons_append, List.getElem?_cons_zero, List.getElem?_cons_succ, List.set_cons_zero, List.set_cons_succ, Bool.not_true, Bool.not_false, reduceIte, Nat.reduceEqDiff, Nat.reduceAdd, Nat.reduceLT, blt_lit, beq_lit, Bool.or_true, Bool.true_or, Bool.or_false, Bool.false_or, Bool.and_true, Bool.true_and, Bool.and_self, cond_true, cond_false, List.append_nil, Iv.eta, Option.map_none, idxO_l0, idxO_l1, decide_true, decide_false, reqs_true, Int.zero_sub, wrap_lit, wrapu_lit, Int.reduceLE, Int.reduceLT, Int.reduceAdd, Int.reduceSub, Int.reduceMul, Int.reduceNeg, Int.reduceEq, Option.bind_some, bin_shr_u64, bin_shl_u64, bin_shr_i64, bin_shl_i64, and_m32', Int.reduceToNat, Int.reducePow, Int.reduceMod, Int.reduceDiv, wrap_u64s, true_or, or_true, true_and, and_true, Option.isSome_none, Option.isSome_some, Nat.reduceLeDiff, Nat.reduceMul, Int.toNat_natCast, Int.cast_ofNat_Int, Int.natCast_zero, Int.natCast_one, List.isEmpty_nil, List.isEmpty_cons, List.replicate_zero, List.replicate_succ, T1, T2, T3, T4, T5, T6, T9, T10, T11, T12, T21, T22, T23, T24, T26, T27, T28, T29, T30, T31, T32, T33, T34, T35, T37, T38, T39, T40, T42, T43, T44, T45, T46, T47, T48, T50, T52, T54, T55, T56, T57, T58, T59, T60, T61, T62, T63, T64, T65, T66, T67, T68, T69, T70, T71, T72, T73, T75, T77, T78, T79, T80, T82, T83, T84, T85, T87, T89, T90, T91, T92, T95, T97, T103, T104, T105, T106, T107, T109, T110, l1, l2, l3, w2, w3, and_1i, c0]
        repeat' (first | with_reducible refine cnd_split (fun hc => ?_) (fun hc => ?_) | with_reducible refine Reqs.mk ?_ ?_)
        all_goals first | trivial | skip
        all_goals (try simp only [decide_eq_true_eq, decide_eq_false_iff_not] at *)
        all_goals first
          | (rw [if_pos (by assumption), oddL_y (by assumption), tanW_t] at hF
             refine endS_v (t := (tanI (Iv.mk x1 x2))) hr ?_
             exact hF)
          | skip
        · rw [if_neg (ne_of_f (by assumption)), hK1] at hF
          refine hX n _ _ (Nat.lt_succ_self _) ⟨rfl, ?_, ?_, ?_, by omega, hF⟩
          all_goals first | (simp [look, l1, l2]; done) | (rw [← hK1]; simp [look]; done)
        · have hF' : tanW (oddL (turnL n (K + 1) ⟨x1, x2⟩)) ⟨x1, x2⟩ = tanI ⟨x1, x2⟩ := by
            split at hF
            · rw [oddL_n (by assumption)] at hF; exact hF
            · exact hF
          rw [hK1] at hF'
          refine hX n _ _ (Nat.lt_succ_self _) ⟨rfl, ?_, ?_, ?_, by omega, hF'⟩
          all_goals first | (simp [look, l1, l2]; done) | (rw [← hK1]; simp [look]; done)
  · cases hF

end Go.Proofs.YtcnapkdccjibpaaGreat.Eng
