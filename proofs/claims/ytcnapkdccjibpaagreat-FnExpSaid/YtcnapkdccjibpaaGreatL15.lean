/- What functions of the program compute, and that the program computes it: part 15. -/
import Derived.Test.YtcnapkdccjibpaaGreatTab
import Derived.Test.YtcnapkdccjibpaaGreatEng16
import Derived.Laws.BitsLemmas
import Derived.Laws.Bits64
import Derived.Laws.Bits64b
import Derived.Lib.Mul64
import Derived.Lib.BitFns
import Derived.Laws.Externs
import Derived.Test.YtcnapkdccjibpaaGreatL1
import Derived.Test.YtcnapkdccjibpaaGreatL2
import Derived.Test.YtcnapkdccjibpaaGreatL3
import Derived.Test.YtcnapkdccjibpaaGreatL6
import Derived.Test.YtcnapkdccjibpaaGreatL8
import Derived.Test.YtcnapkdccjibpaaGreatL12
namespace Go.Proofs.YtcnapkdccjibpaaGreat.Eng
open Go Go.RowKit
set_option linter.unusedVariables false
set_option linter.unusedSimpArgs false
set_option maxRecDepth 100000
set_option maxHeartbeats 1000000
-- series
def seriesL : Nat → Iv → Int → Iv → Iv
  | 0, _, _, s => s
  | k + 1, y, c, s => seriesL k y c (subI (intI 1) (mulI (divI y (intI ((2 * (k + 1 : Nat) + c) * (2 * (k + 1 : Nat) + c + 1)))) s))
def F_seriesP : FT
  | [.agg [.int .i64 y1, .int .i64 y2], .c (.p (.int .i64 c))], _ => some (c = 1 ∨ c = 2, .v (.agg [.int .i64 ((seriesL 8 (Iv.mk y1 y2) (c - 2) (intI 1))).lo, .int .i64 ((seriesL 8 (Iv.mk y1 y2) (c - 2) (intI 1))).hi]), [])
  | _, _ => none
theorem F_seriesP_eq {y1 : Int} {y2 : Int} {c : Int} {g : List PC} : F_seriesP [.agg [.int .i64 y1, .int .i64 y2], .c (.p (.int .i64 c))] g = some (c = 1 ∨ c = 2, .v (.agg [.int .i64 ((seriesL 8 (Iv.mk y1 y2) (c - 2) (intI 1))).lo, .int .i64 ((seriesL 8 (Iv.mk y1 y2) (c - 2) (intI 1))).hi]), []) := rfl
def F_seriesQ : FT
  | [.agg [.int .i64 y1, .int .i64 y2], .c (.p (.int .i64 c))], _ => some (c = 0 ∨ c = -1, .v (.agg [.int .i64 ((seriesL 8 (Iv.mk y1 y2) c (intI 1))).lo, .int .i64 ((seriesL 8 (Iv.mk y1 y2) c (intI 1))).hi]), [])
  | _, _ => none
theorem F_seriesQ_eq {y1 : Int} {y2 : Int} {c : Int} {g : List PC} : F_seriesQ [.agg [.int .i64 y1, .int .i64 y2], .c (.p (.int .i64 c))] g = some (c = 0 ∨ c = -1, .v (.agg [.int .i64 ((seriesL 8 (Iv.mk y1 y2) c (intI 1))).lo, .int .i64 ((seriesL 8 (Iv.mk y1 y2) c (intI 1))).hi]), []) := rfl

-- power
def powL : Nat → Iv → Iv → Iv
  | 0, p, _ => p
  | k + 1, p, x => powL k (mulI p x) x
def powI (x : Iv) (n : Int) : Iv := if okI x && within n 0 16 then (if n = 0 then intI 1 else if n % 2 = 0 then powL (n - 1).toNat (absI x) (absI x) else powL (n - 1).toNat x x) else whole
def F_powI : FT
  | [.agg [.int .i64 x1, .int .i64 x2], .c (.p (.int .i64 n))], _ => some (inR n, .v (.agg [.int .i64 ((powI (Iv.mk x1 x2) n)).lo, .int .i64 ((powI (Iv.mk x1 x2) n)).hi]), [])
  | _, _ => none
theorem F_powI_eq {x1 : Int} {x2 : Int} {n : Int} {g : List PC} : F_powI [.agg [.int .i64 x1, .int .i64 x2], .c (.p (.int .i64 n))] g = some (inR n, .v (.agg [.int .i64 ((powI (Iv.mk x1 x2) n)).lo, .int .i64 ((powI (Iv.mk x1 x2) n)).hi]), []) := rfl
theorem absI_self {x : Iv} (h : okI x = true) (h0 : ¬ x.lo < 0) : absI x = x := by
  unfold absI
  rw [if_pos h]
  rw [okI_iff] at h
  obtain ⟨a, b⟩ := x
  simp only at h h0
  have e1 : nearI ⟨a, b⟩ = a := by
    unfold nearI absZ
    simp only
    split
    · rename_i hw; rw [within_iff] at hw; omega
    · repeat' split
      all_goals omega
  have e2 : farI ⟨a, b⟩ = b := by
    unfold farI absZ
    simp only
    repeat' split
    all_goals omega
  rw [e1, e2]
theorem powI_even {x : Iv} {n : Int} (h : okI x = true) (hw : within n 0 16 = true) (h0 : ¬ n = 0) (h2 : n.tmod 2 = 0) : powI x n = powL (n - 1).toNat (absI x) (absI x) := by
  have hn := within_iff.1 hw
  unfold powI
  rw [if_pos (by rw [h, hw]; rfl), if_neg h0, if_pos (by rw [← tmod_p hn.1]; exact h2)]
theorem powI_odd {x : Iv} {n : Int} (h : okI x = true) (hw : within n 0 16 = true) (h0 : ¬ n = 0) (h2 : ¬ n.tmod 2 = 0) : powI x n = powL (n - 1).toNat x x := by
  have hn := within_iff.1 hw
  unfold powI
  rw [if_pos (by rw [h, hw]; rfl), if_neg h0, if_neg (by rw [← tmod_p hn.1]; exact h2)]
theorem powI_0 {x : Iv} (h : okI x = true) : powI x 0 = intI 1 := by
  unfold powI
  rw [if_pos (by rw [h]; rfl), if_pos rfl]
theorem powI_w {x : Iv} {n : Int} (h : okI x = false ∨ within n 0 16 = false) : powI x n = whole := by
  unfold powI
  rw [if_neg]
  rcases h with h | h <;> rw [h] <;> simp

-- impl.PowerI
theorem impl_PowerI_powI_ok : Fn Tryz.prog 33 F_powI := by
  refine fn_of_go (O := orc [⟨71, F_whole, .inl impl_Whole_whole_ok⟩, ⟨84, F_absI, .inl impl_AbsI_absI_ok⟩, ⟨90, F_intI, .inl impl_Integer_intI_ok⟩, ⟨97, F_within, .inl impl_within_within_ok⟩, ⟨98, F_notOk, .inl impl_IsWhole_notOk_ok⟩, ⟨99, F_mulI, .inl impl_MulI_mulI_ok⟩]) mixed T_ok (orc_sound _) Tryz.func33 (by kernel_rfl) rfl Tryz.ntmps33 (by kernel_rfl) Tryz.results33 ?_
  intro args g pre r new hF hpre
  unfold F_powI at hF
  split at hF
  · rename_i x1 x2 n
    simp only [Option.some.injEq, Prod.mk.injEq] at hF
    obtain ⟨rfl, hr, rfl⟩ := hF
    refine ⟨by simp, ?_⟩
    simp (config := { maxSteps := 4000000, implicitDefEqProofs := false }) only [F_absI_eq, F_intI_eq, F_mulI_eq, F_notOk_eq, F_whole_eq, F_within_eq, WK0, WK1, WK2, WK3, WK4, WK5, WK6, WK7, WK8, WK9, WK10, WK11, WK12, WK13, WK14, WK15, WK16, WK17, WK18, WK19, WK20, WK21, WK22, WK23, WK24, WK25, WK26, WK27, WK28, look_hit, look_miss, List.map_cons, List.map_nil, Nat.add_zero, max_v, min_v, ↓cnd_t, ↓cnd_f, ↓grd_b, ↓grd_u, startEnv, Option.map_some, List.length_nil, List.length_cons, List.nil_append, List.cons_append, List.getElem?_cons_zero, List.getElem?_cons_succ, List.set_cons_zero, List.set_cons_succ, Bool.not_true, Bool.not_false, reduceIte, Nat.reduceEqDiff, Nat.reduceAdd, Nat.reduceLT, blt_lit, beq_lit, Bool.or_true, Bool.true_or, Bool.or_false, Bool.false_or, Bool.and_true, Bool.true_and, Bool.and_self, cond_true, cond_false, List.append_nil, Iv.eta, Option.map_none, idxO_l0, idxO_l1, decide_true, decide_false, reqs_true, Int.zero_sub, wrap_lit, wrapu_lit, Int.reduceLE, Int.reduceLT, Int.reduceAdd, Int.reduceSub, Int.reduceMul, Int.reduceNeg, Int.reduceEq, Option.bind_some, bin_shr_u64, bin_shl_u64, bin_shr_i64, bin_shl_i64, and_m32', Int.reduceToNat, Int.reducePow, Int.reduceMod, Int.reduceDiv, wrap_u64s, true_or, or_true, true_and, and_true, Option.isSome_none, Option.isSome_some, Nat.reduceLeDiff, Nat.reduceMul, Int.toNat_natCast, Int.cast_ofNat_Int, Int.natCast_zero, Int.natCast_one, List.isEmpty_nil, List.isEmpty_cons, List.replicate_zero, List.replicate_succ, T1, T2, T3, T4, T5, T6, T9, T10, T11, T12, T21, T22, T23, T24, T26, T27, T28, T29, T30, T31, T32, T33, T34, T35, T37, T38, T39, T40, T42, T43, T44, T45, T46, T47, T48, T50, T52, T54, T55, T56, T57, T58, T59, T60, T61, T62, T63, T64, T65, T66, T67, T68, T69, T70, T71, T72, T73, T75, T77, T78, T79, T80, T82, T83, T84, T85, T87, T89, T90, T91, T92, T95, T97, T103, T104, T105, T106, T107, T109, T110, bin_rem_c]
    repeat' (first | with_reducible refine cnd_split (fun hc => ?_) (fun hc => ?_) | with_reducible refine Reqs.mk ?_ ?_)
    all_goals (try simp only [decide_eq_true_eq, decide_eq_false_iff_not] at *)
    all_goals first
      | (have h0 : n = 0 := by assumption
         refine endS_v (t := (powI (Iv.mk x1 x2) n)) hr ?_
         rw [h0, powI_0 (by assumption)])
      | (refine endS_v (t := (powI (Iv.mk x1 x2) n)) hr ?_; rw [powI_w (.inl (by assumption))])
      | (refine endS_v (t := (powI (Iv.mk x1 x2) n)) hr ?_; rw [powI_w (.inr (by assumption))])
      | skip
    all_goals (have hw := (by assumption : within n 0 16 = true))
    all_goals (have hn := within_iff.1 hw)
    all_goals (have hk := (by assumption : okI ⟨x1, x2⟩ = true))
    all_goals (have h0 := (by assumption : ¬ n = 0))
    · have hp := powI_even hk hw h0 (by assumption)
      have ew : IntKind.i64.wrap (n - 1) = n - 1 := wrap_om (by omega) (by omega)
      simp only [ew]
      refine go_loop (α := Nat × Iv) (fun a => a.1) (fun a e h => h = [[.int .i64 (absI ⟨x1, x2⟩).lo, .int .i64 (absI ⟨x1, x2⟩).hi], [.int .i64 0, .int .i64 0], [.int .i64 a.2.lo, .int .i64 a.2.hi]] ∧ look e 2 = some (.v (.c (.ptr (.own 0 0)))) ∧ look e 4 = some (.v (.c (.ptr (.own 1 0)))) ∧ look e 5 = some (.v (.c (.ptr (.own 2 0)))) ∧ look e 27 = some (.v (.c (.p (.int .i64 (n - 1))))) ∧ look e 28 = some (.v (.c (.p (.int .i64 (n - 1 - (a.1 : Int)))))) ∧ a.1 ≤ (n - 1).toNat ∧ powL a.1 a.2 (absI ⟨x1, x2⟩) = powI ⟨x1, x2⟩ n) ((n - 1).toNat, absI ⟨x1, x2⟩) ⟨rfl, rfl, rfl, rfl, ?_, ?_, by simp only; omega, hp.symm⟩ ?_
      · rfl
      · show some (SV.v (.c (.p (.int .i64 0)))) = _
        congr 5; omega
      · rintro X ⟨j, p⟩ e h ⟨rfl, l2, l4, l5, l27, l28, hj, hs⟩ hX
        simp only at l28 hj hs hX
        cases j with
        | zero =>
          obtain ⟨C, eC⟩ : ∃ C : Int, n - 1 - ((0 : Nat) : Int) = C := ⟨_, rfl⟩
          rw [eC] at l28
          have e0 : decide (C < n - 1) = false := by simp only [decide_eq_false_iff_not]; omega
          simp (config := { maxSteps := 4000000, implicitDefEqProofs := false }) only [F_absI_eq, F_intI_eq, F_mulI_eq, F_notOk_eq, F_whole_eq, F_within_eq, WK0, WK1, WK2, WK3, WK4, WK5, WK6, WK7, WK8, WK9, WK10, WK11, WK12, WK13, WK14, WK15, WK16, WK17, WK18, WK19, WK20, WK21, WK22, WK23, WK24, WK25, WK26, WK27, WK28, look_hit, look_miss, List.map_cons, List.map_nil, Nat.add_zero, max_v, min_v, ↓cnd_t, ↓cnd_f, ↓grd_b, ↓grd_u, startEnv, Option.map_some, List.length_nil, List.length_cons, List.nil_append, List.cons_append, List.getElem?_cons_zero, List.getElem?_cons_succ, List.set_cons_zero, List.set_cons_succ, Bool.not_true, Bool.not_false, reduceIte, Nat.reduceEqDiff, Nat.reduceAdd, Nat.reduceLT, blt_lit, beq_lit, Bool.or_true, Bool.true_or, Bool.or_false, Bool.false_or, Bool.and_true, Bool.true_and, Bool.and_self, cond_true, cond_false, List.append_nil, Iv.eta, Option.map_none, idxO_l0, idxO_l1, decide_true, decide_false, reqs_true, Int.zero_sub, wrap_lit, wrapu_lit, Int.reduceLE, Int.reduceLT, Int.reduceAdd, Int.reduceSub, Int.reduceMul, Int.reduceNeg, Int.reduceEq, Option.bind_some, bin_shr_u64, bin_shl_u64, bin_shr_i64, bin_shl_i64, and_m32', Int.reduceToNat, Int.reducePow, Int.reduceMod, Int.reduceDiv, wrap_u64s, true_or, or_true, true_and, and_true, Option.isSome_none, Option.isSome_some, Nat.reduceLeDiff, Nat.reduceMul, Int.toNat_natCast, Int.cast_ofNat_Int, Int.natCast_zero, Int.natCast_one, List.isEmpty_nil, List.isEmpty_cons, List.replicate_zero, List.replicate_succ, T1, T2, T3, T4, T5, T6, T9, T10, T11, T12, T21, T22, T23, T24, T26, T27, T28, T29, T30, T31, T32, T33, T34, T35, T37, T38, T39, T40, T42, T43, T44, T45, T46, T47, T48, T50, T52, T54, T55, T56, T57, T58, T59, T60, T61, T62, T63, T64, T65, T66, T67, T68, T69, T70, T71, T72, T73, T75, T77, T78, T79, T80, T82, T83, T84, T85, T87, T89, T90, T91, T92, T95, T97, T103, T104, T105, T106, T107, T109, T110, bin_rem_c, l2, l4, l5, l27, l28, e0]
          refine endS_v (t := (powI (Iv.mk x1 x2) n)) hr ?_
          exact hs
        | succ j =>
          obtain ⟨C, eC⟩ : ∃ C : Int, n - 1 - ((j + 1 : Nat) : Int) = C := ⟨_, rfl⟩
          rw [eC] at l28
          have e0 : decide (C < n - 1) = true := by simp only [decide_eq_true_eq]; omega
          have e1 : IntKind.i64.wrap (C + 1) = n - 1 - (j : Int) := by rw [wrap_om (by omega) (by omega)]; omega
          simp (config := { maxSteps := 4000000, implicitDefEqProofs := false }) only [F_absI_eq, F_intI_eq, F_mulI_eq, F_notOk_eq, F_whole_eq, F_within_eq, WK0, WK1, WK2, WK3, WK4, WK5, WK6, WK7, WK8, WK9, WK10, WK11, WK12, WK13, WK14, WK15, WK16, WK17, WK18, WK19, WK20, WK21, WK22, WK23, WK24, WK25, WK26, WK27, WK28, look_hit, look_miss, List.map_cons, List.map_nil, Nat.add_zero, max_v, min_v, ↓cnd_t, ↓cnd_f, ↓grd_b, ↓grd_u, startEnv, Option.map_some, List.length_nil, List.length_cons, List.nil_append, List.cons_append, List.getElem?_cons_zero, List.getElem?_cons_succ, List.set_cons_zero, List.set_cons_succ, Bool.not_true, Bool.not_false, reduceIte, Nat.reduceEqDiff, Nat.reduceAdd, Nat.reduceLT, blt_lit, beq_lit, Bool.or_true, Bool.true_or, Bool.or_false, Bool.false_or, Bool.and_true, Bool.true_and, Bool.and_self, cond_true, cond_false, List.append_nil, Iv.eta, Option.map_none, idxO_l0, idxO_l1, decide_true, decide_false, reqs_true, Int.zero_sub, wrap_lit, wrapu_lit, Int.reduceLE, Int.reduceLT, Int.reduceAdd, Int.reduceSub, Int.reduceMul, Int.reduceNeg, Int.reduceEq, Option.bind_some, bin_shr_u64, bin_shl_u64, bin_shr_i64, bin_shl_i64, and_m32', Int.reduceToNat, Int.reducePow, Int.reduceMod, Int.reduceDiv, wrap_u64s, true_or, or_true, true_and, and_true, Option.isSome_none, Option.isSome_some, Nat.reduceLeDiff, Nat.reduceMul, Int.toNat_natCast, Int.cast_ofNat_Int, Int.natCast_zero, Int.natCast_one, List.isEmpty_nil, List.isEmpty_cons, List.replicate_zero, List.replicate_succ, T1, T2, T3, T4, T5, T6, T9, T10, T11, T12, T21, T22, T23, T24, T26, T27, T28, T29, T30, T31, T32, T33, T34, T35, T37, T38, T39, T40, T42, T43, T44, T45, T46, T47, T48, T50, T52, T54, T55, T56, T57, T58, T59, T60, T61, T62, T63, T64, T65, T66, T67, T68, T69, T70, T71, T72, T73, T75, T77, T78, T79, T80, T82, T83, T84, T85, T87, T89, T90, T91, T92, T95, T97, T103, T104, T105, T106, T107, T109, T110, bin_rem_c, l2, l4, l5, l27, l28, e0, e1]
          refine hX (j, _) _ _ (Nat.lt_succ_self j) ⟨rfl, ?_, ?_, ?_, ?_, ?_, by simp only; omega, hs⟩
          all_goals (try simp only [look])
          all_goals simp [l2, l4, l5, l27]
    · have hp := powI_odd hk hw h0 (by assumption)
      have ew : IntKind.i64.wrap (n - 1) = n - 1 := wrap_om (by omega) (by omega)
      simp only [ew]
      refine go_loop (α := Nat × Iv) (fun a => a.1) (fun a e h => h = [[.int .i64 (Iv.mk x1 x2).lo, .int .i64 (Iv.mk x1 x2).hi], [.int .i64 0, .int .i64 0], [.int .i64 a.2.lo, .int .i64 a.2.hi]] ∧ look e 2 = some (.v (.c (.ptr (.own 0 0)))) ∧ look e 4 = some (.v (.c (.ptr (.own 1 0)))) ∧ look e 5 = some (.v (.c (.ptr (.own 2 0)))) ∧ look e 27 = some (.v (.c (.p (.int .i64 (n - 1))))) ∧ look e 28 = some (.v (.c (.p (.int .i64 (n - 1 - (a.1 : Int)))))) ∧ a.1 ≤ (n - 1).toNat ∧ powL a.1 a.2 (Iv.mk x1 x2) = powI ⟨x1, x2⟩ n) ((n - 1).toNat, Iv.mk x1 x2) ⟨rfl, rfl, rfl, rfl, ?_, ?_, by simp only; omega, hp.symm⟩ ?_
      · rfl
      · show some (SV.v (.c (.p (.int .i64 0)))) = _
        congr 5; omega
      · rintro X ⟨j, p⟩ e h ⟨rfl, l2, l4, l5, l27, l28, hj, hs⟩ hX
        simp only at l28 hj hs hX
        cases j with
        | zero =>
          obtain ⟨C, eC⟩ : ∃ C : Int, n - 1 - ((0 : Nat) : Int) = C := ⟨_, rfl⟩
          rw [eC] at l28
          have e0 : decide (C < n - 1) = false := by simp only [decide_eq_false_iff_not]; omega
          simp (config := { maxSteps := 4000000, implicitDefEqProofs := false }) only [F_absI_eq, F_intI_eq, F_mulI_eq, F_notOk_eq, F_whole_eq, F_within_eq, WK0, WK1, WK2, WK3, WK4, WK5, WK6, WK7, WK8, WK9, WK10, WK11, WK12, WK13, WK14, WK15, WK16, WK17, WK18, WK19, WK20, WK21, WK22, WK23, WK24, WK25, WK26, WK27, WK28, look_hit, look_miss, List.map_cons, List.map_nil, Nat.add_zero, max_v, min_v, ↓cnd_t, ↓cnd_f, ↓grd_b, ↓grd_u, startEnv, Option.map_some, List.length_nil, List.length_cons, List.nil_append, List.cons_append, List.getElem?_cons_zero, List.getElem?_cons_succ, List.set_cons_zero, List.set_cons_succ, Bool.not_true, Bool.not_false, reduceIte, Nat.reduceEqDiff, Nat.reduceAdd, Nat.reduceLT, blt_lit, beq_lit, Bool.or_true, Bool.true_or, Bool.or_false, Bool.false_or, Bool.and_true, Bool.true_and, Bool.and_self, cond_true, cond_false, List.append_nil, Iv.eta, Option.map_none, idxO_l0, idxO_l1, decide_true, decide_false, reqs_true, Int.zero_sub, wrap_lit, wrapu_lit, Int.reduceLE, Int.reduceLT, Int.reduceAdd, Int.reduceSub, Int.reduceMul, Int.reduceNeg, Int.reduceEq, Option.bind_some, bin_shr_u64, bin_shl_u64, bin_shr_i64, bin_shl_i64, and_m32', Int.reduceToNat, Int.reducePow, Int.reduceMod, Int.reduceDiv, wrap_u64s, true_or, or_true, true_and, and_true, Option.isSome_none, Option.isSome_some, Nat.reduceLeDiff, Nat.reduceMul, Int.toNat_natCast, Int.cast_ofNat_Int, Int.natCast_zero, Int.natCast_one, List.isEmpty_nil, List.isEmpty_cons, List.replicate_zero, List.replicate_succ, T1, T2, T3, T4, T5, T6, T9, T10, T11, T12, T21, T22, T23, T24, T26, T27, T28, T29, T30, T31, T32, T33, T34, T35, T37, T38, T39, T40, T42, T43, T44, T45, T46, T47, T48, T50, T52, T54, T55, T56, T57, T58, T59, T60, T61, T62, T63, T64, T65, T66, T67, T68, T69, T70, T71, T72, T73, T75, T77, T78, T79, T80, T82, T83, T84, T85, T87, T89, T90, T91, T92, T95, T97, T103, T104, T105, T106, T107, T109, T110, bin_rem_c, l2, l4, l5, l27, l28, e0]
          refine endS_v (t := (powI (Iv.mk x1 x2) n)) hr ?_
          exact hs
        | succ j =>
          obtain ⟨C, eC⟩ : ∃ C : Int, n - 1 - ((j + 1 : Nat) : Int) = C := ⟨_, rfl⟩
          rw [eC] at l28
          have e0 : decide (C < n - 1) = true := by simp only [decide_eq_true_eq]; omega
          have e1 : IntKind.i64.wrap (C + 1) = n - 1 - (j : Int) := by rw [wrap_om (by omega) (by omega)]; omega
          simp (config := { maxSteps := 4000000, implicitDefEqProofs := false }) only [F_absI_eq, F_intI_eq, F_mulI_eq, F_notOk_eq, F_whole_eq, F_within_eq, WK0, WK1, WK2, WK3, WK4, WK5, WK6, WK7, WK8, WK9, WK10, WK11, WK12, WK13, WK14, WK15, WK16, WK17, WK18, WK19, WK20, WK21, WK22, WK23, WK24, WK25, WK26, WK27, WK28, look_hit, look_miss, List.map_cons, List.map_nil, Nat.add_zero, max_v, min_v, ↓cnd_t, ↓cnd_f, ↓grd_b, ↓grd_u, startEnv, Option.map_some, List.length_nil, List.length_cons, List.nil_append, List.cons_append, List.getElem?_cons_zero, List.getElem?_cons_succ, List.set_cons_zero, List.set_cons_succ, Bool.not_true, Bool.not_false, reduceIte, Nat.reduceEqDiff, Nat.reduceAdd, Nat.reduceLT, blt_lit, beq_lit, Bool.or_true, Bool.true_or, Bool.or_false, Bool.false_or, Bool.and_true, Bool.true_and, Bool.and_self, cond_true, cond_false, List.append_nil, Iv.eta, Option.map_none, idxO_l0, idxO_l1, decide_true, decide_false, reqs_true, Int.zero_sub, wrap_lit, wrapu_lit, Int.reduceLE, Int.reduceLT, Int.reduceAdd, Int.reduceSub, Int.reduceMul, Int.reduceNeg, Int.reduceEq, Option.bind_some, bin_shr_u64, bin_shl_u64, bin_shr_i64, bin_shl_i64, and_m32', Int.reduceToNat, Int.reducePow, Int.reduceMod, Int.reduceDiv, wrap_u64s, true_or, or_true, true_and, and_true, Option.isSome_none, Option.isSome_some, Nat.reduceLeDiff, Nat.reduceMul, Int.toNat_natCast, Int.cast_ofNat_Int, Int.natCast_zero, Int.natCast_one, List.isEmpty_nil, List.isEmpty_cons, List.replicate_zero, List.replicate_succ, T1, T2, T3, T4, T5, T6, T9, T10, T11, T12, T21, T22, T23, T24, T26, T27, T28, T29, T30, T31, T32, T33, T34, T35, T37, T38, T39, T40, T42, T43, T44, T45, T46, T47, T48, T50, T52, T54, T55, T56, T57, T58, T59, T60, T61, T62, T63, T64, T65, T66, T67, T68, T69, T70, T71, T72, T73, T75, T77, T78, T79, T80, T82, T83, T84, T85, T87, T89, T90, T91, T92, T95, T97, T103, T104, T105, T106, T107, T109, T110, bin_rem_c, l2, l4, l5, l27, l28, e0, e1]
          refine hX (j, _) _ _ (Nat.lt_succ_self j) ⟨rfl, ?_, ?_, ?_, ?_, ?_, by simp only; omega, hs⟩
          all_goals (try simp only [look])
          all_goals simp [l2, l4, l5, l27]
  · cases hF

-- arcs
def arcSL : Nat → Iv → Iv → Iv
  | 0, _, s => s
  | k + 1, y, s => arcSL k y (subI (quotI 1 (2 * (k : Int) + 1)) (mulI y s))
def arcS (x : Iv) : Iv := if insideI x ⟨-1073741824, 1073741824⟩ then addI (mulI x (arcSL 10 (sqrI x) (quotI 1 21))) ⟨-1, 1⟩ else whole
def F_arcS : FT
  | [.agg [.int .i64 x1, .int .i64 x2]], _ => some (True, .v (.agg [.int .i64 ((arcS (Iv.mk x1 x2))).lo, .int .i64 ((arcS (Iv.mk x1 x2))).hi]), [])
  | _, _ => none
theorem F_arcS_eq {x1 : Int} {x2 : Int} {g : List PC} : F_arcS [.agg [.int .i64 x1, .int .i64 x2]] g = some (True, .v (.agg [.int .i64 ((arcS (Iv.mk x1 x2))).lo, .int .i64 ((arcS (Iv.mk x1 x2))).hi]), []) := rfl

-- sinS
def sinS (x : Iv) : Iv := if insideI x ⟨-4294967296, 4294967296⟩ then addI (mulI x (seriesL 8 (sqrI x) 0 (intI 1))) ⟨-1, 1⟩ else whole
def cosS (x : Iv) : Iv := if insideI x ⟨-4294967296, 4294967296⟩ then addI (seriesL 8 (sqrI x) (-1) (intI 1)) ⟨-1, 1⟩ else whole
def F_sinS : FT
  | [.agg [.int .i64 x1, .int .i64 x2]], _ => some (True, .v (.agg [.int .i64 ((sinS (Iv.mk x1 x2))).lo, .int .i64 ((sinS (Iv.mk x1 x2))).hi]), [])
  | _, _ => none
theorem F_sinS_eq {x1 : Int} {x2 : Int} {g : List PC} : F_sinS [.agg [.int .i64 x1, .int .i64 x2]] g = some (True, .v (.agg [.int .i64 ((sinS (Iv.mk x1 x2))).lo, .int .i64 ((sinS (Iv.mk x1 x2))).hi]), []) := rfl
def F_cosS : FT
  | [.agg [.int .i64 x1, .int .i64 x2]], _ => some (True, .v (.agg [.int .i64 ((cosS (Iv.mk x1 x2))).lo, .int .i64 ((cosS (Iv.mk x1 x2))).hi]), [])
  | _, _ => none
theorem F_cosS_eq {x1 : Int} {x2 : Int} {g : List PC} : F_cosS [.agg [.int .i64 x1, .int .i64 x2]] g = some (True, .v (.agg [.int .i64 ((cosS (Iv.mk x1 x2))).lo, .int .i64 ((cosS (Iv.mk x1 x2))).hi]), []) := rfl

end Go.Proofs.YtcnapkdccjibpaaGreat.Eng
