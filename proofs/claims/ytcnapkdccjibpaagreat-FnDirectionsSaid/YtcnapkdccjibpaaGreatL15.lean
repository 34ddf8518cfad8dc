/- What functions of the program compute, and that the program computes it: part 15. -/
import Derived.Test.YtcnapkdccjibpaaGreatTab
import Derived.Test.YtcnapkdccjibpaaGreatEng16
import Derived.Laws.BitsLemmas
import Derived.Laws.Bits64
import Derived.Laws.Bits64b
import Derived.Lib.Mul64
import Derived.Lib.BitFns
import Derived.Laws.Externs
import Derived.Test.YtcnapkdccjibpaaGreatL1
import Derived.Test.YtcnapkdccjibpaaGreatL2
import Derived.Test.YtcnapkdccjibpaaGreatL3
import Derived.Test.YtcnapkdccjibpaaGreatL6
import Derived.Test.YtcnapkdccjibpaaGreatL12
import Derived.Test.YtcnapkdccjibpaaGreatL14
namespace Go.Proofs.YtcnapkdccjibpaaGreat.Eng
open Go Go.RowKit
set_option linter.unusedVariables false
set_option linter.unusedSimpArgs false
set_option maxRecDepth 100000
set_option maxHeartbeats 1000000
-- consts
def F_tinyI : FT
  | [], _ => some (True, .v (.agg [.int .i64 ((Iv.mk (-1) 1)).lo, .int .i64 ((Iv.mk (-1) 1)).hi]), [])
  | _, _ => none
theorem F_tinyI_eq {g : List PC} : F_tinyI [] g = some (True, .v (.agg [.int .i64 ((Iv.mk (-1) 1)).lo, .int .i64 ((Iv.mk (-1) 1)).hi]), []) := rfl
def F_ringI : FT
  | [], _ => some (True, .v (.agg [.int .i64 ((Iv.mk (-4294967296) 4294967296)).lo, .int .i64 ((Iv.mk (-4294967296) 4294967296)).hi]), [])
  | _, _ => none
theorem F_ringI_eq {g : List PC} : F_ringI [] g = some (True, .v (.agg [.int .i64 ((Iv.mk (-4294967296) 4294967296)).lo, .int .i64 ((Iv.mk (-4294967296) 4294967296)).hi]), []) := rfl
def F_oneI : FT
  | [], _ => some (True, .v (.agg [.int .i64 ((intI 1)).lo, .int .i64 ((intI 1)).hi]), [])
  | _, _ => none
theorem F_oneI_eq {g : List PC} : F_oneI [] g = some (True, .v (.agg [.int .i64 ((intI 1)).lo, .int .i64 ((intI 1)).hi]), []) := rfl
def F_mkP : FT
  | [.c (.p (.int .i64 n))], _ => some (True, .v (.agg [.int .i64 ((mkI n n)).lo, .int .i64 ((mkI n n)).hi]), [])
  | _, _ => none
theorem F_mkP_eq {n : Int} {g : List PC} : F_mkP [.c (.p (.int .i64 n))] g = some (True, .v (.agg [.int .i64 ((mkI n n)).lo, .int .i64 ((mkI n n)).hi]), []) := rfl

-- impl.tiny
theorem impl_tiny_tinyI_ok : Fn Tryz.prog 166 F_tinyI := by
  refine fn_of_go (O := orc []) mixed T_ok (orc_sound _) Tryz.func166 (by kernel_rfl) rfl Tryz.ntmps166 (by kernel_rfl) Tryz.results166 ?_
  intro args g pre r new hF hpre
  unfold F_tinyI at hF
  split at hF
  · skip
    simp only [Option.some.injEq, Prod.mk.injEq] at hF
    obtain ⟨rfl, hr, rfl⟩ := hF
    refine ⟨by simp, ?_⟩
    simp (config := { maxSteps := 4000000, implicitDefEqProofs := false }) only [WK0, WK1, WK2, WK3, WK4, WK5, WK6, WK7, WK8, WK9, WK10, WK11, WK12, WK13, WK14, WK15, WK16, WK17, WK18, WK19, WK20, WK21, WK22, WK23, WK24, WK25, WK26, WK27, WK28, look_hit, look_miss, List.map_cons, List.map_nil, Nat.add_zero, max_v, min_v, ↓cnd_t, ↓cnd_f, ↓grd_b, ↓grd_u, startEnv, Option.map_some, List.length_nil, List.length_cons, List.nil_append, List.cons_append, List.getElem?_cons_zero, List.getElem?_cons_succ, List.set_cons_zero, List.set_cons_succ, Bool.not_true, Bool.not_false, reduceIte, Nat.reduceEqDiff, Nat.reduceAdd, Nat.reduceLT, blt_lit, beq_lit, Bool.or_true, Bool.true_or, Bool.or_false, Bool.false_or, Bool.and_true, Bool.true_and, Bool.and_self, cond_true, cond_false, List.append_nil, Iv.eta, Option.map_none, idxO_l0, idxO_l1, decide_true, decide_false, reqs_true, Int.zero_sub, wrap_lit, wrapu_lit, Int.reduceLE, Int.reduceLT, Int.reduceAdd, Int.reduceSub, Int.reduceMul, Int.reduceNeg, Int.reduceEq, Option.bind_some, bin_shr_u64, bin_shl_u64, bin_shr_i64, bin_shl_i64, and_m32', Int.reduceToNat, Int.reducePow, Int.reduceMod, Int.reduceDiv, wrap_u64s, true_or, or_true, true_and, and_true, Option.isSome_none, Option.isSome_some, Nat.reduceLeDiff, Nat.reduceMul, Int.toNat_natCast, Int.cast_ofNat_Int, Int.natCast_zero, Int.natCast_one, List.isEmpty_nil, List.isEmpty_cons, List.replicate_zero, List.replicate_succ, T1, T2, T3, T4, T5, T6, T9, T10, T11, T12, T21, T22, T23, T24, T26, T27, T28, T29, T30, T31, T32, T33, T34, T35, T37, T38, T39, T40, T42, T43, T44, T45, T46, T47, T48, T50, T52, T54, T55, T56, T57, T58, T59, T60, T61, T62, T63, T64, T65, T66, T67, T68, T69, T70, T71, T72, T73, T75, T77, T78, T79, T80, T82, T83, T84, T85, T87, T89, T90, T91, T92, T95, T97, T103, T104, T105, T106, T107, T109, T110]
    exact endS_v (t := (Iv.mk (-1) 1)) hr rfl
  · cases hF

-- spec.l06Tiny
theorem spec_l06Tiny_tinyI_ok : Fn Tryz.prog 174 F_tinyI := by
  refine fn_of_go (O := orc []) mixed T_ok (orc_sound _) Tryz.func174 (by kernel_rfl) rfl Tryz.ntmps174 (by kernel_rfl) Tryz.results174 ?_
  intro args g pre r new hF hpre
  unfold F_tinyI at hF
  split at hF
  · skip
    simp only [Option.some.injEq, Prod.mk.injEq] at hF
    obtain ⟨rfl, hr, rfl⟩ := hF
    refine ⟨by simp, ?_⟩
    simp (config := { maxSteps := 4000000, implicitDefEqProofs := false }) only [WK0, WK1, WK2, WK3, WK4, WK5, WK6, WK7, WK8, WK9, WK10, WK11, WK12, WK13, WK14, WK15, WK16, WK17, WK18, WK19, WK20, WK21, WK22, WK23, WK24, WK25, WK26, WK27, WK28, look_hit, look_miss, List.map_cons, List.map_nil, Nat.add_zero, max_v, min_v, ↓cnd_t, ↓cnd_f, ↓grd_b, ↓grd_u, startEnv, Option.map_some, List.length_nil, List.length_cons, List.nil_append, List.cons_append, List.getElem?_cons_zero, List.getElem?_cons_succ, List.set_cons_zero, List.set_cons_succ, Bool.not_true, Bool.not_false, reduceIte, Nat.reduceEqDiff, Nat.reduceAdd, Nat.reduceLT, blt_lit, beq_lit, Bool.or_true, Bool.true_or, Bool.or_false, Bool.false_or, Bool.and_true, Bool.true_and, Bool.and_self, cond_true, cond_false, List.append_nil, Iv.eta, Option.map_none, idxO_l0, idxO_l1, decide_true, decide_false, reqs_true, Int.zero_sub, wrap_lit, wrapu_lit, Int.reduceLE, Int.reduceLT, Int.reduceAdd, Int.reduceSub, Int.reduceMul, Int.reduceNeg, Int.reduceEq, Option.bind_some, bin_shr_u64, bin_shl_u64, bin_shr_i64, bin_shl_i64, and_m32', Int.reduceToNat, Int.reducePow, Int.reduceMod, Int.reduceDiv, wrap_u64s, true_or, or_true, true_and, and_true, Option.isSome_none, Option.isSome_some, Nat.reduceLeDiff, Nat.reduceMul, Int.toNat_natCast, Int.cast_ofNat_Int, Int.natCast_zero, Int.natCast_one, List.isEmpty_nil, List.isEmpty_cons, List.replicate_zero, List.replicate_succ, T1, T2, T3, T4, T5, T6, T9, T10, T11, T12, T21, T22, T23, T24, T26, T27, T28, T29, T30, T31, T32, T33, T34, T35, T37, T38, T39, T40, T42, T43, T44, T45, T46, T47, T48, T50, T52, T54, T55, T56, T57, T58, T59, T60, T61, T62, T63, T64, T65, T66, T67, T68, T69, T70, T71, T72, T73, T75, T77, T78, T79, T80, T82, T83, T84, T85, T87, T89, T90, T91, T92, T95, T97, T103, T104, T105, T106, T107, T109, T110]
    exact endS_v (t := (Iv.mk (-1) 1)) hr rfl
  · cases hF

-- spec.l06Ring
theorem spec_l06Ring_ringI_ok : Fn Tryz.prog 154 F_ringI := by
  refine fn_of_go (O := orc []) mixed T_ok (orc_sound _) Tryz.func154 (by kernel_rfl) rfl Tryz.ntmps154 (by kernel_rfl) Tryz.results154 ?_
  intro args g pre r new hF hpre
  unfold F_ringI at hF
  split at hF
  · skip
    simp only [Option.some.injEq, Prod.mk.injEq] at hF
    obtain ⟨rfl, hr, rfl⟩ := hF
    refine ⟨by simp, ?_⟩
    simp (config := { maxSteps := 4000000, implicitDefEqProofs := false }) only [WK0, WK1, WK2, WK3, WK4, WK5, WK6, WK7, WK8, WK9, WK10, WK11, WK12, WK13, WK14, WK15, WK16, WK17, WK18, WK19, WK20, WK21, WK22, WK23, WK24, WK25, WK26, WK27, WK28, look_hit, look_miss, List.map_cons, List.map_nil, Nat.add_zero, max_v, min_v, ↓cnd_t, ↓cnd_f, ↓grd_b, ↓grd_u, startEnv, Option.map_some, List.length_nil, List.length_cons, List.nil_append, List.cons_append, List.getElem?_cons_zero, List.getElem?_cons_succ, List.set_cons_zero, List.set_cons_succ, Bool.not_true, Bool.not_false, reduceIte, Nat.reduceEqDiff, Nat.reduceAdd, Nat.reduceLT, blt_lit, beq_lit, Bool.or_true, Bool.true_or, Bool.or_false, Bool.false_or, Bool.and_true, Bool.true_and, Bool.and_self, cond_true, cond_false, List.append_nil, Iv.eta, Option.map_none, idxO_l0, idxO_l1, decide_true, decide_false, reqs_true, Int.zero_sub, wrap_lit, wrapu_lit, Int.reduceLE, Int.reduceLT, Int.reduceAdd, Int.reduceSub, Int.reduceMul, Int.reduceNeg, Int.reduceEq, Option.bind_some, bin_shr_u64, bin_shl_u64, bin_shr_i64, bin_shl_i64, and_m32', Int.reduceToNat, Int.reducePow, Int.reduceMod, Int.reduceDiv, wrap_u64s, true_or, or_true, true_and, and_true, Option.isSome_none, Option.isSome_some, Nat.reduceLeDiff, Nat.reduceMul, Int.toNat_natCast, Int.cast_ofNat_Int, Int.natCast_zero, Int.natCast_one, List.isEmpty_nil, List.isEmpty_cons, List.replicate_zero, List.replicate_succ, T1, T2, T3, T4, T5, T6, T9, T10, T11, T12, T21, T22, T23, T24, T26, T27, T28, T29, T30, T31, T32, T33, T34, T35, T37, T38, T39, T40, T42, T43, T44, T45, T46, T47, T48, T50, T52, T54, T55, T56, T57, T58, T59, T60, T61, T62, T63, T64, T65, T66, T67, T68, T69, T70, T71, T72, T73, T75, T77, T78, T79, T80, T82, T83, T84, T85, T87, T89, T90, T91, T92, T95, T97, T103, T104, T105, T106, T107, T109, T110]
    exact endS_v (t := (Iv.mk (-4294967296) 4294967296)) hr rfl
  · cases hF

-- series
def seriesL : Nat → Iv → Int → Iv → Iv
  | 0, _, _, s => s
  | k + 1, y, c, s => seriesL k y c (subI (intI 1) (mulI (divI y (intI ((2 * (k + 1 : Nat) + c) * (2 * (k + 1 : Nat) + c + 1)))) s))
def F_seriesP : FT
  | [.agg [.int .i64 y1, .int .i64 y2], .c (.p (.int .i64 c))], _ => some (c = 1 ∨ c = 2, .v (.agg [.int .i64 ((seriesL 8 (Iv.mk y1 y2) (c - 2) (intI 1))).lo, .int .i64 ((seriesL 8 (Iv.mk y1 y2) (c - 2) (intI 1))).hi]), [])
  | _, _ => none
theorem F_seriesP_eq {y1 : Int} {y2 : Int} {c : Int} {g : List PC} : F_seriesP [.agg [.int .i64 y1, .int .i64 y2], .c (.p (.int .i64 c))] g = some (c = 1 ∨ c = 2, .v (.agg [.int .i64 ((seriesL 8 (Iv.mk y1 y2) (c - 2) (intI 1))).lo, .int .i64 ((seriesL 8 (Iv.mk y1 y2) (c - 2) (intI 1))).hi]), []) := rfl
def F_seriesQ : FT
  | [.agg [.int .i64 y1, .int .i64 y2], .c (.p (.int .i64 c))], _ => some (c = 0 ∨ c = -1, .v (.agg [.int .i64 ((seriesL 8 (Iv.mk y1 y2) c (intI 1))).lo, .int .i64 ((seriesL 8 (Iv.mk y1 y2) c (intI 1))).hi]), [])
  | _, _ => none
theorem F_seriesQ_eq {y1 : Int} {y2 : Int} {c : Int} {g : List PC} : F_seriesQ [.agg [.int .i64 y1, .int .i64 y2], .c (.p (.int .i64 c))] g = some (c = 0 ∨ c = -1, .v (.agg [.int .i64 ((seriesL 8 (Iv.mk y1 y2) c (intI 1))).lo, .int .i64 ((seriesL 8 (Iv.mk y1 y2) c (intI 1))).hi]), []) := rfl

-- spec.l06Series
theorem spec_l06Series_seriesQ_ok : Fn Tryz.prog 173 F_seriesQ := by
  refine fn_of_go (O := orc [⟨20, F_divI, .inl spec_DivI_divI_ok⟩, ⟨27, F_mulI, .inl spec_MulI_mulI_ok⟩, ⟨28, F_subI, .inl spec_SubI_subI_ok⟩, ⟨29, F_intI, .inl spec_Integer_intI_ok⟩]) mixed T_ok (orc_sound _) Tryz.func173 (by kernel_rfl) rfl Tryz.ntmps173 (by kernel_rfl) Tryz.results173 ?_
  intro args g pre r new hF hpre
  unfold F_seriesQ at hF
  split at hF
  · rename_i y1 y2 c
    simp only [Option.some.injEq, Prod.mk.injEq] at hF
    obtain ⟨rfl, hr, rfl⟩ := hF
    refine ⟨by simp, ?_⟩
    simp (config := { maxSteps := 4000000, implicitDefEqProofs := false }) only [F_divI_eq, F_intI_eq, F_mulI_eq, F_subI_eq, WK0, WK1, WK2, WK3, WK4, WK5, WK6, WK7, WK8, WK9, WK10, WK11, WK12, WK13, WK14, WK15, WK16, WK17, WK18, WK19, WK20, WK21, WK22, WK23, WK24, WK25, WK26, WK27, WK28, look_hit, look_miss, List.map_cons, List.map_nil, Nat.add_zero, max_v, min_v, ↓cnd_t, ↓cnd_f, ↓grd_b, ↓grd_u, startEnv, Option.map_some, List.length_nil, List.length_cons, List.nil_append, List.cons_append, List.getElem?_cons_zero, List.getElem?_cons_succ, List.set_cons_zero, List.set_cons_succ, Bool.not_true, Bool.not_false, reduceIte, Nat.reduceEqDiff, Nat.reduceAdd, Nat.reduceLT, blt_lit, beq_lit, Bool.or_true, Bool.true_or, Bool.or_false, Bool.false_or, Bool.and_true, Bool.true_and, Bool.and_self, cond_true, cond_false, List.append_nil, Iv.eta, Option.map_none, idxO_l0, idxO_l1, decide_true, decide_false, reqs_true, Int.zero_sub, wrap_lit, wrapu_lit, Int.reduceLE, Int.reduceLT, Int.reduceAdd, Int.reduceSub, Int.reduceMul, Int.reduceNeg, Int.reduceEq, Option.bind_some, bin_shr_u64, bin_shl_u64, bin_shr_i64, bin_shl_i64, and_m32', Int.reduceToNat, Int.reducePow, Int.reduceMod, Int.reduceDiv, wrap_u64s, true_or, or_true, true_and, and_true, Option.isSome_none, Option.isSome_some, Nat.reduceLeDiff, Nat.reduceMul, Int.toNat_natCast, Int.cast_ofNat_Int, Int.natCast_zero, Int.natCast_one, List.isEmpty_nil, List.isEmpty_cons, List.replicate_zero, List.replicate_succ, T1, T2, T3, T4, T5, T6, T9, T10, T11, T12, T21, T22, T23, T24, T26, T27, T28, T29, T30, T31, T32, T33, T34, T35, T37, T38, T39, T40, T42, T43, T44, T45, T46, T47, T48, T50, T52, T54, T55, T56, T57, T58, T59, T60, T61, T62, T63, T64, T65, T66, T67, T68, T69, T70, T71, T72, T73, T75, T77, T78, T79, T80, T82, T83, T84, T85, T87, T89, T90, T91, T92, T95, T97, T103, T104, T105, T106, T107, T109, T110]
    repeat' (first | with_reducible refine cnd_split (fun hc => ?_) (fun hc => ?_) | with_reducible refine Reqs.mk ?_ ?_)
    refine go_loop (α := Nat × Iv) (fun a => a.1) (fun a e h => h = [[.int .i64 y1, .int .i64 y2], [.int .i64 0, .int .i64 0], [.int .i64 a.2.lo, .int .i64 a.2.hi]] ∧ look e 1 = some (.v (.c (.p (.int .i64 (c))))) ∧ look e 2 = some (.v (.c (.ptr (.own 0 0)))) ∧ look e 4 = some (.v (.c (.ptr (.own 1 0)))) ∧ look e 5 = some (.v (.c (.ptr (.own 2 0)))) ∧ look e 6 = some (.v (.c (.p (.int .i64 ((a.1 : Int)))))) ∧ a.1 ≤ 8 ∧ seriesL a.1 ⟨y1, y2⟩ c a.2 = seriesL 8 ⟨y1, y2⟩ c (intI 1)) (8, intI 1) ⟨rfl, rfl, rfl, rfl, rfl, rfl, by omega, rfl⟩ ?_
    rintro X ⟨k, s⟩ e h ⟨rfl, l1, l2, l4, l5, l6, hk, hs⟩ hX
    simp only at l6 hk hs hX
    cases k with
    | zero =>
      simp only [Int.natCast_zero] at l6
      simp (config := { maxSteps := 4000000, implicitDefEqProofs := false }) only [F_divI_eq, F_intI_eq, F_mulI_eq, F_subI_eq, WK0, WK1, WK2, WK3, WK4, WK5, WK6, WK7, WK8, WK9, WK10, WK11, WK12, WK13, WK14, WK15, WK16, WK17, WK18, WK19, WK20, WK21, WK22, WK23, WK24, WK25, WK26, WK27, WK28, look_hit, look_miss, List.map_cons, List.map_nil, Nat.add_zero, max_v, min_v, ↓cnd_t, ↓cnd_f, ↓grd_b, ↓grd_u, startEnv, Option.map_some, List.length_nil, List.length_cons, List.nil_append, List.cons_append, List.getElem?_cons_zero, List.getElem?_cons_succ, List.set_cons_zero, List.set_cons_succ, Bool.not_true, Bool.not_false, reduceIte, Nat.reduceEqDiff, Nat.reduceAdd, Nat.reduceLT, blt_lit, beq_lit, Bool.or_true, Bool.true_or, Bool.or_false, Bool.false_or, Bool.and_true, Bool.true_and, Bool.and_self, cond_true, cond_false, List.append_nil, Iv.eta, Option.map_none, idxO_l0, idxO_l1, decide_true, decide_false, reqs_true, Int.zero_sub, wrap_lit, wrapu_lit, Int.reduceLE, Int.reduceLT, Int.reduceAdd, Int.reduceSub, Int.reduceMul, Int.reduceNeg, Int.reduceEq, Option.bind_some, bin_shr_u64, bin_shl_u64, bin_shr_i64, bin_shl_i64, and_m32', Int.reduceToNat, Int.reducePow, Int.reduceMod, Int.reduceDiv, wrap_u64s, true_or, or_true, true_and, and_true, Option.isSome_none, Option.isSome_some, Nat.reduceLeDiff, Nat.reduceMul, Int.toNat_natCast, Int.cast_ofNat_Int, Int.natCast_zero, Int.natCast_one, List.isEmpty_nil, List.isEmpty_cons, List.replicate_zero, List.replicate_succ, T1, T2, T3, T4, T5, T6, T9, T10, T11, T12, T21, T22, T23, T24, T26, T27, T28, T29, T30, T31, T32, T33, T34, T35, T37, T38, T39, T40, T42, T43, T44, T45, T46, T47, T48, T50, T52, T54, T55, T56, T57, T58, T59, T60, T61, T62, T63, T64, T65, T66, T67, T68, T69, T70, T71, T72, T73, T75, T77, T78, T79, T80, T82, T83, T84, T85, T87, T89, T90, T91, T92, T95, T97, T103, T104, T105, T106, T107, T109, T110, l1, l2, l4, l5, l6]
      refine endS_v (t := (seriesL 8 (Iv.mk y1 y2) c (intI 1))) hr ?_
      exact hs
    | succ k =>
      obtain ⟨K, eK⟩ : ∃ K : Int, ((k + 1 : Nat) : Int) = K := ⟨_, rfl⟩
      obtain ⟨A, eA⟩ : ∃ A : Int, 2 * ((k + 1 : Nat) : Int) + c = A := ⟨_, rfl⟩
      rw [seriesL, eA] at hs
      rw [eK] at l6 eA
      have e0 : decide (1 ≤ K) = true := by simp only [decide_eq_true_eq]; omega
      have e1 : IntKind.i64.wrap (K - 1) = (k : Int) := by rw [wrap_om (by omega) (by omega)]; omega
      have e2 : IntKind.i64.wrap (2 * K) = 2 * K := wrap_om (by omega) (by omega)
      have e3 : IntKind.i64.wrap (2 * K + c) = A := by rw [wrap_om (by omega) (by omega)]; omega
      have hA : 0 ≤ A ∧ A ≤ 100 := by omega
      have e4 : IntKind.i64.wrap (A + 1) = A + 1 := wrap_om (by omega) (by omega)
      have e5 : IntKind.i64.wrap (A * (A + 1)) = A * (A + 1) := by
        have := @mul_pos2 A (A + 1) 100 101 (by omega) (by omega) (by omega) (by omega)
        exact wrap_om (by omega) (by omega)
      simp (config := { maxSteps := 4000000, implicitDefEqProofs := false }) only [F_divI_eq, F_intI_eq, F_mulI_eq, F_subI_eq, WK0, WK1, WK2, WK3, WK4, WK5, WK6, WK7, WK8, WK9, WK10, WK11, WK12, WK13, WK14, WK15, WK16, WK17, WK18, WK19, WK20, WK21, WK22, WK23, WK24, WK25, WK26, WK27, WK28, look_hit, look_miss, List.map_cons, List.map_nil, Nat.add_zero, max_v, min_v, ↓cnd_t, ↓cnd_f, ↓grd_b, ↓grd_u, startEnv, Option.map_some, List.length_nil, List.length_cons, List.nil_append, List.cons_append, List.getElem?_cons_zero, List.getElem?_cons_succ, List.set_cons_zero, List.set_cons_succ, Bool.not_true, Bool.not_false, reduceIte, Nat.reduceEqDiff, Nat.reduceAdd, Nat.reduceLT, blt_lit, beq_lit, Bool.or_true, Bool.true_or, Bool.or_false, Bool.false_or, Bool.and_true, Bool.true_and, Bool.and_self, cond_true, cond_false, List.append_nil, Iv.eta, Option.map_none, idxO_l0, idxO_l1, decide_true, decide_false, reqs_true, Int.zero_sub, wrap_lit, wrapu_lit, Int.reduceLE, Int.reduceLT, Int.reduceAdd, Int.reduceSub, Int.reduceMul, Int.reduceNeg, Int.reduceEq, Option.bind_some, bin_shr_u64, bin_shl_u64, bin_shr_i64, bin_shl_i64, and_m32', Int.reduceToNat, Int.reducePow, Int.reduceMod, Int.reduceDiv, wrap_u64s, true_or, or_true, true_and, and_true, Option.isSome_none, Option.isSome_some, Nat.reduceLeDiff, Nat.reduceMul, Int.toNat_natCast, Int.cast_ofNat_Int, Int.natCast_zero, Int.natCast_one, List.isEmpty_nil, List.isEmpty_cons, List.replicate_zero, List.replicate_succ, T1, T2, T3, T4, T5, T6, T9, T10, T11, T12, T21, T22, T23, T24, T26, T27, T28, T29, T30, T31, T32, T33, T34, T35, T37, T38, T39, T40, T42, T43, T44, T45, T46, T47, T48, T50, T52, T54, T55, T56, T57, T58, T59, T60, T61, T62, T63, T64, T65, T66, T67, T68, T69, T70, T71, T72, T73, T75, T77, T78, T79, T80, T82, T83, T84, T85, T87, T89, T90, T91, T92, T95, T97, T103, T104, T105, T106, T107, T109, T110, l1, l2, l4, l5, l6, e0, e1, e2, e3, e4, e5]
      refine hX (k, _) _ _ (Nat.lt_succ_self k) ⟨rfl, ?_, ?_, ?_, ?_, ?_, by simp only; omega, hs⟩
      all_goals (try simp only [look])
      all_goals simp [l1, l2, l4, l5]
  · cases hF

-- arcs
def arcSL : Nat → Iv → Iv → Iv
  | 0, _, s => s
  | k + 1, y, s => arcSL k y (subI (quotI 1 (2 * (k : Int) + 1)) (mulI y s))
def arcS (x : Iv) : Iv := if insideI x ⟨-1073741824, 1073741824⟩ then addI (mulI x (arcSL 10 (sqrI x) (quotI 1 21))) ⟨-1, 1⟩ else whole
def F_arcS : FT
  | [.agg [.int .i64 x1, .int .i64 x2]], _ => some (True, .v (.agg [.int .i64 ((arcS (Iv.mk x1 x2))).lo, .int .i64 ((arcS (Iv.mk x1 x2))).hi]), [])
  | _, _ => none
theorem F_arcS_eq {x1 : Int} {x2 : Int} {g : List PC} : F_arcS [.agg [.int .i64 x1, .int .i64 x2]] g = some (True, .v (.agg [.int .i64 ((arcS (Iv.mk x1 x2))).lo, .int .i64 ((arcS (Iv.mk x1 x2))).hi]), []) := rfl

-- impl.ArcSeries
theorem impl_ArcSeries_arcS_ok : Fn Tryz.prog 150 F_arcS := by
  refine fn_of_go (O := orc [⟨71, F_whole, .inl impl_Whole_whole_ok⟩, ⟨83, F_subI, .inl impl_SubI_subI_ok⟩, ⟨86, F_addI, .inl impl_AddI_addI_ok⟩, ⟨94, F_sqrI, .inl impl_SqrI_sqrI_ok⟩, ⟨99, F_mulI, .inl impl_MulI_mulI_ok⟩, ⟨104, F_quotI, .inl impl_Quotient_quotI_ok⟩, ⟨164, F_insideI, .inl impl_InsideI_insideI_ok⟩, ⟨166, F_tinyI, .inl impl_tiny_tinyI_ok⟩]) mixed T_ok (orc_sound _) Tryz.func150 (by kernel_rfl) rfl Tryz.ntmps150 (by kernel_rfl) Tryz.results150 ?_
  intro args g pre r new hF hpre
  unfold F_arcS at hF
  split at hF
  · rename_i x1 x2
    simp only [Option.some.injEq, Prod.mk.injEq] at hF
    obtain ⟨rfl, hr, rfl⟩ := hF
    refine ⟨by simp, ?_⟩
    simp (config := { maxSteps := 4000000, implicitDefEqProofs := false }) only [F_addI_eq, F_insideI_eq, F_mulI_eq, F_quotI_eq, F_sqrI_eq, F_subI_eq, F_tinyI_eq, F_whole_eq, WK0, WK1, WK2, WK3, WK4, WK5, WK6, WK7, WK8, WK9, WK10, WK11, WK12, WK13, WK14, WK15, WK16, WK17, WK18, WK19, WK20, WK21, WK22, WK23, WK24, WK25, WK26, WK27, WK28, look_hit, look_miss, List.map_cons, List.map_nil, Nat.add_zero, max_v, min_v, ↓cnd_t, ↓cnd_f, ↓grd_b, ↓grd_u, startEnv, Option.map_some, List.length_nil, List.length_cons, List.nil_append, List.cons_append, List.getElem?_cons_zero, List.getElem?_cons_succ, List.set_cons_zero, List.set_cons_succ, Bool.not_true, Bool.not_false, reduceIte, Nat.reduceEqDiff, Nat.reduceAdd, Nat.reduceLT, blt_lit, beq_lit, Bool.or_true, Bool.true_or, Bool.or_false, Bool.false_or, Bool.and_true, Bool.true_and, Bool.and_self, cond_true, cond_false, List.append_nil, Iv.eta, Option.map_none, idxO_l0, idxO_l1, decide_true, decide_false, reqs_true, Int.zero_sub, wrap_lit, wrapu_lit, Int.reduceLE, Int.reduceLT, Int.reduceAdd, Int.reduceSub, Int.reduceMul, Int.reduceNeg, Int.reduceEq, Option.bind_some, bin_shr_u64, bin_shl_u64, bin_shr_i64, bin_shl_i64, and_m32', Int.reduceToNat, Int.reducePow, Int.reduceMod, Int.reduceDiv, wrap_u64s, true_or, or_true, true_and, and_true, Option.isSome_none, Option.isSome_some, Nat.reduceLeDiff, Nat.reduceMul, Int.toNat_natCast, Int.cast_ofNat_Int, Int.natCast_zero, Int.natCast_one, List.isEmpty_nil, List.isEmpty_cons, List.replicate_zero, List.replicate_succ, T1, T2, T3, T4, T5, T6, T9, T10, T11, T12, T21, T22, T23, T24, T26, T27, T28, T29, T30, T31, T32, T33, T34, T35, T37, T38, T39, T40, T42, T43, T44, T45, T46, T47, T48, T50, T52, T54, T55, T56, T57, T58, T59, T60, T61, T62, T63, T64, T65, T66, T67, T68, T69, T70, T71, T72, T73, T75, T77, T78, T79, T80, T82, T83, T84, T85, T87, T89, T90, T91, T92, T95, T97, T103, T104, T105, T106, T107, T109, T110]
    repeat' (first | with_reducible refine cnd_split (fun hc => ?_) (fun hc => ?_) | with_reducible refine Reqs.mk ?_ ?_)
    all_goals first
      | (refine endS_v (t := (arcS (Iv.mk x1 x2))) hr ?_; simp_all [arcS]; done)
      | (unfold inR; omega)
      | skip
    have hin := (by assumption : insideI ⟨x1, x2⟩ ⟨-1073741824, 1073741824⟩ = true)
    have hA : arcS ⟨x1, x2⟩ = addI (mulI ⟨x1, x2⟩ (arcSL 10 (sqrI ⟨x1, x2⟩) (quotI 1 21))) ⟨-1, 1⟩ := by
      unfold arcS
      rw [if_pos hin]
    refine go_loop (α := Nat × Iv) (fun a => a.1) (fun a e h => h = [[.int .i64 x1, .int .i64 x2], [.int .i64 0, .int .i64 0], [.int .i64 (sqrI ⟨x1, x2⟩).lo, .int .i64 (sqrI ⟨x1, x2⟩).hi], [.int .i64 a.2.lo, .int .i64 a.2.hi]] ∧ look e 1 = some (.v (.c (.ptr (.own 0 0)))) ∧ look e 2 = some (.v (.c (.ptr (.own 1 0)))) ∧ look e 3 = some (.v (.c (.ptr (.own 2 0)))) ∧ look e 4 = some (.v (.c (.ptr (.own 3 0)))) ∧ look e 5 = some (.v (.c (.p (.int .i64 ((a.1 : Int) - 1))))) ∧ a.1 ≤ 10 ∧ arcSL a.1 (sqrI ⟨x1, x2⟩) a.2 = arcSL 10 (sqrI ⟨x1, x2⟩) (quotI 1 21)) (10, quotI 1 21) ⟨rfl, rfl, rfl, rfl, rfl, rfl, by simp only; omega, rfl⟩ ?_
    rintro X ⟨k, s⟩ e h ⟨rfl, l1, l2, l3, l4, l5, hk, hs⟩ hX
    simp only at l5 hk hs hX
    cases k with
    | zero =>
      obtain ⟨C, eC⟩ : ∃ C : Int, ((0 : Nat) : Int) - 1 = C := ⟨_, rfl⟩
      rw [eC] at l5
      have e0 : decide (0 ≤ C) = false := by simp only [decide_eq_false_iff_not]; omega
      simp (config := { maxSteps := 4000000, implicitDefEqProofs := false }) only [F_addI_eq, F_insideI_eq, F_mulI_eq, F_quotI_eq, F_sqrI_eq, F_subI_eq, F_tinyI_eq, F_whole_eq, WK0, WK1, WK2, WK3, WK4, WK5, WK6, WK7, WK8, WK9, WK10, WK11, WK12, WK13, WK14, WK15, WK16, WK17, WK18, WK19, WK20, WK21, WK22, WK23, WK24, WK25, WK26, WK27, WK28, look_hit, look_miss, List.map_cons, List.map_nil, Nat.add_zero, max_v, min_v, ↓cnd_t, ↓cnd_f, ↓grd_b, ↓grd_u, startEnv, Option.map_some, List.length_nil, List.length_cons, List.nil_append, List.cons_append, List.getElem?_cons_zero, List.getElem?_cons_succ, List.set_cons_zero, List.set_cons_succ, Bool.not_true, Bool.not_false, reduceIte, Nat.reduceEqDiff, Nat.reduceAdd, Nat.reduceLT, blt_lit, beq_lit, Bool.or_true, Bool.true_or, Bool.or_false, Bool.false_or, Bool.and_true, Bool.true_and, Bool.and_self, cond_true, cond_false, List.append_nil, Iv.eta, Option.map_none, idxO_l0, idxO_l1, decide_true, decide_false, reqs_true, Int.zero_sub, wrap_lit, wrapu_lit, Int.reduceLE, Int.reduceLT, Int.reduceAdd, Int.reduceSub, Int.reduceMul, Int.reduceNeg, Int.reduceEq, Option.bind_some, bin_shr_u64, bin_shl_u64, bin_shr_i64, bin_shl_i64, and_m32', Int.reduceToNat, Int.reducePow, Int.reduceMod, Int.reduceDiv, wrap_u64s, true_or, or_true, true_and, and_true, Option.isSome_none, Option.isSome_some, Nat.reduceLeDiff, Nat.reduceMul, Int.toNat_natCast, Int.cast_ofNat_Int, Int.natCast_zero, Int.natCast_one, List.isEmpty_nil, List.isEmpty_cons, List.replicate_zero, List.replicate_succ, T1, T2, T3, T4, T5, T6, T9, T10, T11, T12, T21, T22, T23, T24, T26, T27, T28, T29, T30, T31, T32, T33, T34, T35, T37, T38, T39, T40, T42, T43, T44, T45, T46, T47, T48, T50, T52, T54, T55, T56, T57, T58, T59, T60, T61, T62, T63, T64, T65, T66, T67, T68, T69, T70, T71, T72, T73, T75, T77, T78, T79, T80, T82, T83, T84, T85, T87, T89, T90, T91, T92, T95, T97, T103, T104, T105, T106, T107, T109, T110, l1, l2, l3, l4, l5, e0]
      refine endS_v (t := (arcS (Iv.mk x1 x2))) hr ?_
      rw [hA, ← hs, arcSL]
    | succ k =>
      have eC : ((k + 1 : Nat) : Int) - 1 = (k : Int) := by omega
      rw [eC] at l5
      have e0 : decide (0 ≤ (k : Int)) = true := by simp only [decide_eq_true_eq]; omega
      have e1 : IntKind.i64.wrap (2 * (k : Int)) = 2 * k := wrap_om (by omega) (by omega)
      have e2 : IntKind.i64.wrap (2 * (k : Int) + 1) = 2 * k + 1 := wrap_om (by omega) (by omega)
      have e3 : IntKind.i64.wrap ((k : Int) - 1) = (k : Int) - 1 := wrap_om (by omega) (by omega)
      rw [arcSL] at hs
      simp (config := { maxSteps := 4000000, implicitDefEqProofs := false }) only [F_addI_eq, F_insideI_eq, F_mulI_eq, F_quotI_eq, F_sqrI_eq, F_subI_eq, F_tinyI_eq, F_whole_eq, WK0, WK1, WK2, WK3, WK4, WK5, WK6, WK7, WK8, WK9, WK10, WK11, WK12, WK13, WK14, WK15, WK16, WK17, WK18, WK19, WK20, WK21, WK22, WK23, WK24, WK25, WK26, WK27, WK28, look_hit, look_miss, List.map_cons, List.map_nil, Nat.add_zero, max_v, min_v, ↓cnd_t, ↓cnd_f, ↓grd_b, ↓grd_u, startEnv, Option.map_some, List.length_nil, List.length_cons, List.nil_append, List.cons_append, List.getElem?_cons_zero, List.getElem?_cons_succ, List.set_cons_zero, List.set_cons_succ, Bool.not_true, Bool.not_false, reduceIte, Nat.reduceEqDiff, Nat.reduceAdd, Nat.reduceLT, blt_lit, beq_lit, Bool.or_true, Bool.true_or, Bool.or_false, Bool.false_or, Bool.and_true, Bool.true_and, Bool.and_self, cond_true, cond_false, List.append_nil, Iv.eta, Option.map_none, idxO_l0, idxO_l1, decide_true, decide_false, reqs_true, Int.zero_sub, wrap_lit, wrapu_lit, Int.reduceLE, Int.reduceLT, Int.reduceAdd, Int.reduceSub, Int.reduceMul, Int.reduceNeg, Int.reduceEq, Option.bind_some, bin_shr_u64, bin_shl_u64, bin_shr_i64, bin_shl_i64, and_m32', Int.reduceToNat, Int.reducePow, Int.reduceMod, Int.reduceDiv, wrap_u64s, true_or, or_true, true_and, and_true, Option.isSome_none, Option.isSome_some, Nat.reduceLeDiff, Nat.reduceMul, Int.toNat_natCast, Int.cast_ofNat_Int, Int.natCast_zero, Int.natCast_one, List.isEmpty_nil, List.isEmpty_cons, List.replicate_zero, List.replicate_succ, T1, T2, T3, T4, T5, T6, T9, T10, T11, T12, T21, T22, T23, T24, T26, T27, T28, T29, T30, T31, T32, T33, T34, T35, T37, T38, T39, T40, T42, T43, T44, T45, T46, T47, T48, T50, T52, T54, T55, T56, T57, T58, T59, T60, T61, T62, T63, T64, T65, T66, T67, T68, T69, T70, T71, T72, T73, T75, T77, T78, T79, T80, T82, T83, T84, T85, T87, T89, T90, T91, T92, T95, T97, T103, T104, T105, T106, T107, T109, T110, l1, l2, l3, l4, l5, e0, e1, e2, e3]
      repeat' (first | with_reducible refine cnd_split (fun hc => ?_) (fun hc => ?_) | with_reducible refine Reqs.mk ?_ ?_)
      all_goals first
        | (unfold inR; omega)
        | (refine hX (k, _) _ _ (Nat.lt_succ_self k) ⟨rfl, ?_, ?_, ?_, ?_, ?_, by simp only; omega, hs⟩
           all_goals (try simp only [look])
           all_goals simp [l1, l2, l3, l4])
  · cases hF

-- sinS
def sinS (x : Iv) : Iv := if insideI x ⟨-4294967296, 4294967296⟩ then addI (mulI x (seriesL 8 (sqrI x) 0 (intI 1))) ⟨-1, 1⟩ else whole
def cosS (x : Iv) : Iv := if insideI x ⟨-4294967296, 4294967296⟩ then addI (seriesL 8 (sqrI x) (-1) (intI 1)) ⟨-1, 1⟩ else whole
def F_sinS : FT
  | [.agg [.int .i64 x1, .int .i64 x2]], _ => some (True, .v (.agg [.int .i64 ((sinS (Iv.mk x1 x2))).lo, .int .i64 ((sinS (Iv.mk x1 x2))).hi]), [])
  | _, _ => none
theorem F_sinS_eq {x1 : Int} {x2 : Int} {g : List PC} : F_sinS [.agg [.int .i64 x1, .int .i64 x2]] g = some (True, .v (.agg [.int .i64 ((sinS (Iv.mk x1 x2))).lo, .int .i64 ((sinS (Iv.mk x1 x2))).hi]), []) := rfl
def F_cosS : FT
  | [.agg [.int .i64 x1, .int .i64 x2]], _ => some (True, .v (.agg [.int .i64 ((cosS (Iv.mk x1 x2))).lo, .int .i64 ((cosS (Iv.mk x1 x2))).hi]), [])
  | _, _ => none
theorem F_cosS_eq {x1 : Int} {x2 : Int} {g : List PC} : F_cosS [.agg [.int .i64 x1, .int .i64 x2]] g = some (True, .v (.agg [.int .i64 ((cosS (Iv.mk x1 x2))).lo, .int .i64 ((cosS (Iv.mk x1 x2))).hi]), []) := rfl

-- spec.SinSeries
theorem spec_SinSeries_sinS_ok : Fn Tryz.prog 159 F_sinS := by
  refine fn_of_go (O := orc [⟨10, F_addI, .inl spec_AddI_addI_ok⟩, ⟨11, F_sqrI, .inl spec_SqrI_sqrI_ok⟩, ⟨17, F_insideI, .inl spec_InsideI_insideI_ok⟩, ⟨27, F_mulI, .inl spec_MulI_mulI_ok⟩, ⟨113, F_whole, .inl spec_Whole_whole_ok⟩, ⟨154, F_ringI, .inl spec_l06Ring_ringI_ok⟩, ⟨173, F_seriesQ, .inl spec_l06Series_seriesQ_ok⟩, ⟨174, F_tinyI, .inl spec_l06Tiny_tinyI_ok⟩]) mixed T_ok (orc_sound _) Tryz.func159 (by kernel_rfl) rfl Tryz.ntmps159 (by kernel_rfl) Tryz.results159 ?_
  intro args g pre r new hF hpre
  unfold F_sinS at hF
  split at hF
  · rename_i x1 x2
    simp only [Option.some.injEq, Prod.mk.injEq] at hF
    obtain ⟨rfl, hr, rfl⟩ := hF
    refine ⟨by simp, ?_⟩
    simp (config := { maxSteps := 4000000, implicitDefEqProofs := false }) only [F_addI_eq, F_insideI_eq, F_mulI_eq, F_ringI_eq, F_seriesQ_eq, F_sqrI_eq, F_tinyI_eq, F_whole_eq, WK0, WK1, WK2, WK3, WK4, WK5, WK6, WK7, WK8, WK9, WK10, WK11, WK12, WK13, WK14, WK15, WK16, WK17, WK18, WK19, WK20, WK21, WK22, WK23, WK24, WK25, WK26, WK27, WK28, look_hit, look_miss, List.map_cons, List.map_nil, Nat.add_zero, max_v, min_v, ↓cnd_t, ↓cnd_f, ↓grd_b, ↓grd_u, startEnv, Option.map_some, List.length_nil, List.length_cons, List.nil_append, List.cons_append, List.getElem?_cons_zero, List.getElem?_cons_succ, List.set_cons_zero, List.set_cons_succ, Bool.not_true, Bool.not_false, reduceIte, Nat.reduceEqDiff, Nat.reduceAdd, Nat.reduceLT, blt_lit, beq_lit, Bool.or_true, Bool.true_or, Bool.or_false, Bool.false_or, Bool.and_true, Bool.true_and, Bool.and_self, cond_true, cond_false, List.append_nil, Iv.eta, Option.map_none, idxO_l0, idxO_l1, decide_true, decide_false, reqs_true, Int.zero_sub, wrap_lit, wrapu_lit, Int.reduceLE, Int.reduceLT, Int.reduceAdd, Int.reduceSub, Int.reduceMul, Int.reduceNeg, Int.reduceEq, Option.bind_some, bin_shr_u64, bin_shl_u64, bin_shr_i64, bin_shl_i64, and_m32', Int.reduceToNat, Int.reducePow, Int.reduceMod, Int.reduceDiv, wrap_u64s, true_or, or_true, true_and, and_true, Option.isSome_none, Option.isSome_some, Nat.reduceLeDiff, Nat.reduceMul, Int.toNat_natCast, Int.cast_ofNat_Int, Int.natCast_zero, Int.natCast_one, List.isEmpty_nil, List.isEmpty_cons, List.replicate_zero, List.replicate_succ, T1, T2, T3, T4, T5, T6, T9, T10, T11, T12, T21, T22, T23, T24, T26, T27, T28, T29, T30, T31, T32, T33, T34, T35, T37, T38, T39, T40, T42, T43, T44, T45, T46, T47, T48, T50, T52, T54, T55, T56, T57, T58, T59, T60, T61, T62, T63, T64, T65, T66, T67, T68, T69, T70, T71, T72, T73, T75, T77, T78, T79, T80, T82, T83, T84, T85, T87, T89, T90, T91, T92, T95, T97, T103, T104, T105, T106, T107, T109, T110]
    repeat' (first | with_reducible refine cnd_split (fun hc => ?_) (fun hc => ?_) | with_reducible refine Reqs.mk ?_ ?_)
    all_goals first
      | omega
      | (refine endS_v (t := (sinS (Iv.mk x1 x2))) hr ?_; simp_all [sinS]; done)
  · cases hF

-- spec.CosSeries
theorem spec_CosSeries_cosS_ok : Fn Tryz.prog 160 F_cosS := by
  refine fn_of_go (O := orc [⟨10, F_addI, .inl spec_AddI_addI_ok⟩, ⟨11, F_sqrI, .inl spec_SqrI_sqrI_ok⟩, ⟨17, F_insideI, .inl spec_InsideI_insideI_ok⟩, ⟨113, F_whole, .inl spec_Whole_whole_ok⟩, ⟨154, F_ringI, .inl spec_l06Ring_ringI_ok⟩, ⟨173, F_seriesQ, .inl spec_l06Series_seriesQ_ok⟩, ⟨174, F_tinyI, .inl spec_l06Tiny_tinyI_ok⟩]) mixed T_ok (orc_sound _) Tryz.func160 (by kernel_rfl) rfl Tryz.ntmps160 (by kernel_rfl) Tryz.results160 ?_
  intro args g pre r new hF hpre
  unfold F_cosS at hF
  split at hF
  · rename_i x1 x2
    simp only [Option.some.injEq, Prod.mk.injEq] at hF
    obtain ⟨rfl, hr, rfl⟩ := hF
    refine ⟨by simp, ?_⟩
    simp (config := { maxSteps := 4000000, implicitDefEqProofs := false }) only [F_addI_eq, F_insideI_eq, F_ringI_eq, F_seriesQ_eq, F_sqrI_eq, F_tinyI_eq, F_whole_eq, WK0, WK1, WK2, WK3, WK4, WK5, WK6, WK7, WK8, WK9, WK10, WK11, WK12, WK13, WK14, WK15, WK16, WK17, WK18, WK19, WK20, WK21, WK22, WK23, WK24, WK25, WK26, WK27, WK28, look_hit, look_miss, List.map_cons, List.map_nil, Nat.add_zero, max_v, min_v, ↓cnd_t, ↓cnd_f, ↓grd_b, ↓grd_u, startEnv, Option.map_some, List.length_nil, List.length_cons, List.nil_append, List.cons_append, List.getElem?_cons_zero, List.getElem?_cons_succ, List.set_cons_zero, List.set_cons_succ, Bool.not_true, Bool.not_false, reduceIte, Nat.reduceEqDiff, Nat.reduceAdd, Nat.reduceLT, blt_lit, beq_lit, Bool.or_true, Bool.true_or, Bool.or_false, Bool.false_or, Bool.and_true, Bool.true_and, Bool.and_self, cond_true, cond_false, List.append_nil, Iv.eta, Option.map_none, idxO_l0, idxO_l1, decide_true, decide_false, reqs_true, Int.zero_sub, wrap_lit, wrapu_lit, Int.reduceLE, Int.reduceLT, Int.reduceAdd, Int.reduceSub, Int.reduceMul, Int.reduceNeg, Int.reduceEq, Option.bind_some, bin_shr_u64, bin_shl_u64, bin_shr_i64, bin_shl_i64, and_m32', Int.reduceToNat, Int.reducePow, Int.reduceMod, Int.reduceDiv, wrap_u64s, true_or, or_true, true_and, and_true, Option.isSome_none, Option.isSome_some, Nat.reduceLeDiff, Nat.reduceMul, Int.toNat_natCast, Int.cast_ofNat_Int, Int.natCast_zero, Int.natCast_one, List.isEmpty_nil, List.isEmpty_cons, List.replicate_zero, List.replicate_succ, T1, T2, T3, T4, T5, T6, T9, T10, T11, T12, T21, T22, T23, T24, T26, T27, T28, T29, T30, T31, T32, T33, T34, T35, T37, T38, T39, T40, T42, T43, T44, T45, T46, T47, T48, T50, T52, T54, T55, T56, T57, T58, T59, T60, T61, T62, T63, T64, T65, T66, T67, T68, T69, T70, T71, T72, T73, T75, T77, T78, T79, T80, T82, T83, T84, T85, T87, T89, T90, T91, T92, T95, T97, T103, T104, T105, T106, T107, T109, T110]
    repeat' (first | with_reducible refine cnd_split (fun hc => ?_) (fun hc => ?_) | with_reducible refine Reqs.mk ?_ ?_)
    all_goals first
      | omega
      | (refine endS_v (t := (cosS (Iv.mk x1 x2))) hr ?_; simp_all [cosS]; done)
  · cases hF

end Go.Proofs.YtcnapkdccjibpaaGreat.Eng
