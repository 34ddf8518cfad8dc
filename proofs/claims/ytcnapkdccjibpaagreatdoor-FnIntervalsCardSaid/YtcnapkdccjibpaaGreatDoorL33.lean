/- What functions of the program compute, and that the program computes it: part 33. -/
import Derived.Test.YtcnapkdccjibpaaGreatDoorTab
import Derived.Test.YtcnapkdccjibpaaGreatDoorEng16
import Derived.Laws.BitsLemmas
import Derived.Laws.Bits64
import Derived.Laws.Bits64b
import Derived.Lib.Mul64
import Derived.Lib.BitFns
import Derived.Laws.Externs
import Derived.Test.YtcnapkdccjibpaaGreatDoorL1
import Derived.Test.YtcnapkdccjibpaaGreatDoorL2
import Derived.Test.YtcnapkdccjibpaaGreatDoorL4
import Derived.Test.YtcnapkdccjibpaaGreatDoorL5
import Derived.Test.YtcnapkdccjibpaaGreatDoorL6
import Derived.Test.YtcnapkdccjibpaaGreatDoorL10
import Derived.Test.YtcnapkdccjibpaaGreatDoorL19
import Derived.Test.YtcnapkdccjibpaaGreatDoorL20
import Derived.Test.YtcnapkdccjibpaaGreatDoorL23
import Derived.Test.YtcnapkdccjibpaaGreatDoorL29
import Derived.Test.YtcnapkdccjibpaaGreatDoorL30
namespace Go.Proofs.YtcnapkdccjibpaaGreatDoor.Eng
open Go Go.RowKit
set_option linter.unusedVariables false
set_option linter.unusedSimpArgs false
set_option maxRecDepth 100000
set_option maxHeartbeats 1000000
-- less
/-- The comparison of two intervals: 1, 0, or 2 where they overlap. -/
def lessI (a b : Iv) : Int := if okI a && okI b then (if a.hi < b.lo then 1 else if b.hi ≤ a.lo then 0 else 2) else 2
def midI (a : Iv) : Int := if okI a then (a.lo + a.hi) / 2 else 0
def F_lessI : FT
  | [.agg [.int .i64 a1, .int .i64 a2], .agg [.int .i64 b1, .int .i64 b2]], _ => some (True, .v (.c (.p (.int .i64 (lessI (Iv.mk a1 a2) (Iv.mk b1 b2))))), [])
  | _, _ => none
theorem F_lessI_eq {a1 : Int} {a2 : Int} {b1 : Int} {b2 : Int} {g : List PC} : F_lessI [.agg [.int .i64 a1, .int .i64 a2], .agg [.int .i64 b1, .int .i64 b2]] g = some (True, .v (.c (.p (.int .i64 (lessI (Iv.mk a1 a2) (Iv.mk b1 b2))))), []) := rfl
def F_midI : FT
  | [.agg [.int .i64 a1, .int .i64 a2]], _ => some (True, .v (.c (.p (.int .i64 (midI (Iv.mk a1 a2))))), [])
  | _, _ => none
theorem F_midI_eq {a1 : Int} {a2 : Int} {g : List PC} : F_midI [.agg [.int .i64 a1, .int .i64 a2]] g = some (True, .v (.c (.p (.int .i64 (midI (Iv.mk a1 a2))))), []) := rfl

-- impl.LessI
theorem impl_LessI_lessI_ok : Fn Tryz.prog 29 F_lessI := by
  refine fn_of_go (O := orc [⟨49, F_areOk, .inl impl_areBounded_areOk_ok⟩]) mixed T_ok (orc_sound _) Tryz.func29 (by kernel_rfl) rfl Tryz.ntmps29 (by kernel_rfl) Tryz.results29 ?_
  intro args g pre r new hF hpre
  unfold F_lessI at hF
  split at hF
  · rename_i a1 a2 b1 b2
    simp only [Option.some.injEq, Prod.mk.injEq] at hF
    obtain ⟨rfl, hr, rfl⟩ := hF
    refine ⟨by simp, ?_⟩
    simp (config := { maxSteps := 4000000, implicitDefEqProofs := false }) only [F_areOk_eq, WK0, WK1, WK2, WK3, WK4, WK5, WK6, WK7, WK8, WK9, WK10, WK11, WK12, WK13, WK14, WK15, WK16, WK17, WK18, WK19, WK20, WK21, WK22, WK23, WK24, WK25, WK26, WK27, WK28, WK29, WK30, look_hit, look_miss, List.map_cons, List.map_nil, Nat.add_zero, max_v, min_v, ↓cnd_t, ↓cnd_f, ↓grd_b, ↓grd_u, startEnv, Option.map_some, List.length_nil, List.length_cons, List.nil_append, List.cons_append, List.getElem?_cons_zero, List.getElem?_cons_succ, List.set_cons_zero, List.set_cons_succ, Bool.not_true, Bool.not_false, reduceIte, Nat.reduceEqDiff, Nat.reduceAdd, Nat.reduceLT, blt_lit, beq_lit, Bool.or_true, Bool.true_or, Bool.or_false, Bool.false_or, Bool.and_true, Bool.true_and, Bool.and_self, cond_true, cond_false, List.append_nil, Iv.eta, Option.map_none, idxO_l0, idxO_l1, decide_true, decide_false, reqs_true, Int.zero_sub, wrap_lit, wrapu_lit, Int.reduceLE, Int.reduceLT, Int.reduceAdd, Int.reduceSub, Int.reduceMul, Int.reduceNeg, Int.reduceEq, Option.bind_some, bin_shr_u64, bin_shl_u64, bin_shr_i64, bin_shl_i64, and_m32', Int.reduceToNat, Int.reducePow, Int.reduceMod, Int.reduceDiv, wrap_u64s, true_or, or_true, true_and, and_true, Option.isSome_none, Option.isSome_some, Nat.reduceLeDiff, Nat.reduceMul, Int.toNat_natCast, Int.cast_ofNat_Int, Int.natCast_zero, Int.natCast_one, List.isEmpty_nil, List.isEmpty_cons, List.replicate_zero, List.replicate_succ, T1, T2, T3, T4, T5, T6, T9, T10, T11, T12, T21, T22, T23, T25, T26, T27, T28, T29, T30, T32, T33, T34, T35, T36, T37, T38, T39, T40, T41, T42, T43, T44, T46, T48, T50, T52, T53, T54, T55, T56, T57, T58, T59, T61, T62, T63, T64, T65, T66, T67, T68, T69, T70, T71, T72, T73, T74, T75, T76, T77, T78, T79, T80, T81, T82, T83, T84, T85, T87, T89, T91, T92, T93, T95, T96, T97, T98, T102, T103, T105, T107, T108, T109, T110, T112, T116, T120, T121, T122, T123, T124, T125, T126, T128, T130, T131, T132, T134, T135, T136, T137, T138, T140, T142, T143, T145, T146, T148, T149, T150, T152, T153, T154, T155, T156, T163, T164, T165, T166, T167]
    repeat' (first | with_reducible refine cnd_split (fun hc => ?_) (fun hc => ?_) | with_reducible refine Reqs.mk ?_ ?_)
    all_goals (first | trivial | (refine endS_i (t := (lessI (Iv.mk a1 a2) (Iv.mk b1 b2))) hr ?_; try simp_all [lessI]))
    all_goals (try simp only [okI_mk, within_iff] at *)
    all_goals (try simp (disch := omega) only [wrap_om, wrapu_om, mkI_lin])
    all_goals (try simp_all [lessI])
    all_goals (try omega)
  · cases hF

-- impl.WidthI
theorem impl_WidthI_widthI_ok : Fn Tryz.prog 31 F_widthI := by
  refine fn_of_go (O := orc [⟨47, F_notOk, .inl impl_IsWhole_notOk_ok⟩]) mixed T_ok (orc_sound _) Tryz.func31 (by kernel_rfl) rfl Tryz.ntmps31 (by kernel_rfl) Tryz.results31 ?_
  intro args g pre r new hF hpre
  unfold F_widthI at hF
  split at hF
  · rename_i x1 x2
    simp only [Option.some.injEq, Prod.mk.injEq] at hF
    obtain ⟨rfl, hr, rfl⟩ := hF
    refine ⟨by simp, ?_⟩
    simp (config := { maxSteps := 4000000, implicitDefEqProofs := false }) only [F_notOk_eq, WK0, WK1, WK2, WK3, WK4, WK5, WK6, WK7, WK8, WK9, WK10, WK11, WK12, WK13, WK14, WK15, WK16, WK17, WK18, WK19, WK20, WK21, WK22, WK23, WK24, WK25, WK26, WK27, WK28, WK29, WK30, look_hit, look_miss, List.map_cons, List.map_nil, Nat.add_zero, max_v, min_v, ↓cnd_t, ↓cnd_f, ↓grd_b, ↓grd_u, startEnv, Option.map_some, List.length_nil, List.length_cons, List.nil_append, List.cons_append, List.getElem?_cons_zero, List.getElem?_cons_succ, List.set_cons_zero, List.set_cons_succ, Bool.not_true, Bool.not_false, reduceIte, Nat.reduceEqDiff, Nat.reduceAdd, Nat.reduceLT, blt_lit, beq_lit, Bool.or_true, Bool.true_or, Bool.or_false, Bool.false_or, Bool.and_true, Bool.true_and, Bool.and_self, cond_true, cond_false, List.append_nil, Iv.eta, Option.map_none, idxO_l0, idxO_l1, decide_true, decide_false, reqs_true, Int.zero_sub, wrap_lit, wrapu_lit, Int.reduceLE, Int.reduceLT, Int.reduceAdd, Int.reduceSub, Int.reduceMul, Int.reduceNeg, Int.reduceEq, Option.bind_some, bin_shr_u64, bin_shl_u64, bin_shr_i64, bin_shl_i64, and_m32', Int.reduceToNat, Int.reducePow, Int.reduceMod, Int.reduceDiv, wrap_u64s, true_or, or_true, true_and, and_true, Option.isSome_none, Option.isSome_some, Nat.reduceLeDiff, Nat.reduceMul, Int.toNat_natCast, Int.cast_ofNat_Int, Int.natCast_zero, Int.natCast_one, List.isEmpty_nil, List.isEmpty_cons, List.replicate_zero, List.replicate_succ, T1, T2, T3, T4, T5, T6, T9, T10, T11, T12, T21, T22, T23, T25, T26, T27, T28, T29, T30, T32, T33, T34, T35, T36, T37, T38, T39, T40, T41, T42, T43, T44, T46, T48, T50, T52, T53, T54, T55, T56, T57, T58, T59, T61, T62, T63, T64, T65, T66, T67, T68, T69, T70, T71, T72, T73, T74, T75, T76, T77, T78, T79, T80, T81, T82, T83, T84, T85, T87, T89, T91, T92, T93, T95, T96, T97, T98, T102, T103, T105, T107, T108, T109, T110, T112, T116, T120, T121, T122, T123, T124, T125, T126, T128, T130, T131, T132, T134, T135, T136, T137, T138, T140, T142, T143, T145, T146, T148, T149, T150, T152, T153, T154, T155, T156, T163, T164, T165, T166, T167]
    repeat' (first | with_reducible refine cnd_split (fun hc => ?_) (fun hc => ?_) | with_reducible refine Reqs.mk ?_ ?_)
    all_goals (first | trivial | (refine endS_i (t := (widthI (Iv.mk x1 x2))) hr ?_; try simp_all [widthI]))
    all_goals (try simp only [okI_mk, within_iff] at *)
    all_goals (try simp (disch := omega) only [wrap_om, wrapu_om, mkI_lin])
    all_goals (try simp_all [widthI])
    all_goals (try omega)
  · cases hF

-- impl.MidI
theorem impl_MidI_midI_ok : Fn Tryz.prog 30 F_midI := by
  refine fn_of_go (O := orc [⟨47, F_notOk, .inl impl_IsWhole_notOk_ok⟩]) mixed T_ok (orc_sound _) Tryz.func30 (by kernel_rfl) rfl Tryz.ntmps30 (by kernel_rfl) Tryz.results30 ?_
  intro args g pre r new hF hpre
  unfold F_midI at hF
  split at hF
  · rename_i a1 a2
    simp only [Option.some.injEq, Prod.mk.injEq] at hF
    obtain ⟨rfl, hr, rfl⟩ := hF
    refine ⟨by simp, ?_⟩
    simp (config := { maxSteps := 4000000, implicitDefEqProofs := false }) only [F_notOk_eq, WK0, WK1, WK2, WK3, WK4, WK5, WK6, WK7, WK8, WK9, WK10, WK11, WK12, WK13, WK14, WK15, WK16, WK17, WK18, WK19, WK20, WK21, WK22, WK23, WK24, WK25, WK26, WK27, WK28, WK29, WK30, look_hit, look_miss, List.map_cons, List.map_nil, Nat.add_zero, max_v, min_v, ↓cnd_t, ↓cnd_f, ↓grd_b, ↓grd_u, startEnv, Option.map_some, List.length_nil, List.length_cons, List.nil_append, List.cons_append, List.getElem?_cons_zero, List.getElem?_cons_succ, List.set_cons_zero, List.set_cons_succ, Bool.not_true, Bool.not_false, reduceIte, Nat.reduceEqDiff, Nat.reduceAdd, Nat.reduceLT, blt_lit, beq_lit, Bool.or_true, Bool.true_or, Bool.or_false, Bool.false_or, Bool.and_true, Bool.true_and, Bool.and_self, cond_true, cond_false, List.append_nil, Iv.eta, Option.map_none, idxO_l0, idxO_l1, decide_true, decide_false, reqs_true, Int.zero_sub, wrap_lit, wrapu_lit, Int.reduceLE, Int.reduceLT, Int.reduceAdd, Int.reduceSub, Int.reduceMul, Int.reduceNeg, Int.reduceEq, Option.bind_some, bin_shr_u64, bin_shl_u64, bin_shr_i64, bin_shl_i64, and_m32', Int.reduceToNat, Int.reducePow, Int.reduceMod, Int.reduceDiv, wrap_u64s, true_or, or_true, true_and, and_true, Option.isSome_none, Option.isSome_some, Nat.reduceLeDiff, Nat.reduceMul, Int.toNat_natCast, Int.cast_ofNat_Int, Int.natCast_zero, Int.natCast_one, List.isEmpty_nil, List.isEmpty_cons, List.replicate_zero, List.replicate_succ, T1, T2, T3, T4, T5, T6, T9, T10, T11, T12, T21, T22, T23, T25, T26, T27, T28, T29, T30, T32, T33, T34, T35, T36, T37, T38, T39, T40, T41, T42, T43, T44, T46, T48, T50, T52, T53, T54, T55, T56, T57, T58, T59, T61, T62, T63, T64, T65, T66, T67, T68, T69, T70, T71, T72, T73, T74, T75, T76, T77, T78, T79, T80, T81, T82, T83, T84, T85, T87, T89, T91, T92, T93, T95, T96, T97, T98, T102, T103, T105, T107, T108, T109, T110, T112, T116, T120, T121, T122, T123, T124, T125, T126, T128, T130, T131, T132, T134, T135, T136, T137, T138, T140, T142, T143, T145, T146, T148, T149, T150, T152, T153, T154, T155, T156, T163, T164, T165, T166, T167]
    repeat' (first | with_reducible refine cnd_split (fun hc => ?_) (fun hc => ?_) | with_reducible refine Reqs.mk ?_ ?_)
    all_goals (first | trivial | (refine endS_i (t := (midI (Iv.mk a1 a2))) hr ?_; try simp_all [midI]))
    all_goals (try simp only [okI_mk, within_iff] at *)
    all_goals (try simp (disch := omega) only [wrap_om, wrapu_om, mkI_lin])
    all_goals (try simp_all [midI])
    all_goals (try omega)
  · cases hF

-- plain inter1
theorem over_mk {a b : Iv} (h : okI a = true → okI b = true → a.lo ≤ b.hi ∧ b.lo ≤ a.hi) : (meetI a b).2 = true := by
  unfold meetI
  split
  · rename_i h1
    split
    · rename_i h2
      have h3 := h h1 h2
      have k1 := okI_iff.1 h1
      have k2 := okI_iff.1 h2
      rw [if_neg (by omega)]
    · rfl
  · split <;> rfl
theorem has_lo {a : Iv} (h : okI a = true) : Has a ((a.lo : Rat) / 4294967296) := by
  intro _
  have h1 := Rat.intCast_le_intCast.2 (okI_iff.1 h).2.1
  have e : (a.lo : Rat) / 4294967296 * 4294967296 = a.lo := by grind
  rw [e]
  exact ⟨Rat.le_refl, h1⟩
theorem mkI_eq {p q : Int} (h : okI (mkI p q) = true) : mkI p q = ⟨p, q⟩ := by
  unfold mkI at *
  split at h
  · rename_i h1; rw [if_pos h1]
  · rw [okI_whole] at h; cases h
theorem addI_eq {a b : Iv} (h : okI (addI a b) = true) : okI a = true ∧ okI b = true ∧ addI a b = ⟨a.lo + b.lo, a.hi + b.hi⟩ := by
  unfold addI at *
  split at h
  · rename_i h1
    rw [if_pos h1]
    rw [Bool.and_eq_true] at h1
    exact ⟨h1.1, h1.2, mkI_eq h⟩
  · rw [okI_whole] at h; cases h
theorem mulI_eq {a b : Iv} (h : okI (mulI a b) = true) : okI a = true ∧ okI b = true ∧ mulI a b = comb mulDown mulUp a b := by
  unfold mulI at *
  split at h
  · rename_i h1
    rw [if_pos h1]
    rw [Bool.and_eq_true] at h1
    exact ⟨h1.1, h1.2, rfl⟩
  · rw [okI_whole] at h; cases h
/-- A difference holds 0. -/
theorem iv_sub {a : Iv} (ha : okI a = true) : (!okI (subI a a) || within 0 (subI a a).lo (subI a a).hi) = true := by
  cases h : okI (subI a a) with
  | false => rfl
  | true =>
    rw [Bool.not_true, Bool.false_or, within_iff]
    have e : subI a a = mkI (a.lo - a.hi) (a.hi - a.lo) := by unfold subI; rw [ha]; rfl
    rw [e] at h ⊢
    rw [mkI_eq h]
    have := okI_iff.1 ha
    simp only
    omega
/-- A quotient is undone by a product. -/
theorem iv_div {a b : Iv} (ha : okI a = true) (hb : okI b = true) : (meetI (mulI (divI a b) b) a).2 = true := by
  cases h : okI (divI a b) with
  | false =>
    refine over_mk fun h1 _ => ?_
    rw [(mulI_eq h1).1] at h; cases h
  | true =>
    have h0 := (divI_out h).2.2.1
    have hx := has_lo ha
    have hy := has_lo hb
    have hne := ne_cast (show b.lo ≠ 0 by have := okI_iff.1 hb; omega)
    have hm := has_mul (has_div hx hy) hy
    have e : (a.lo : Rat) / 4294967296 / ((b.lo : Rat) / 4294967296) * ((b.lo : Rat) / 4294967296) = (a.lo : Rat) / 4294967296 := by
      refine Rat.div_mul_cancel ?_
      grind
    rw [e] at hm
    exact over_of hm hx
/-- A square is undone by a root. -/
theorem iv_root {a : Iv} : (meetI (sqrtI (sqrI a)) (absI a)).2 = true := by
  refine over_mk fun h1 h2 => ?_
  obtain ⟨o, z, e1, e2⟩ := sqrtI_out h1
  obtain ⟨oa, s1, s2⟩ := sqrI_out o
  have n0 := absI_nonneg oa
  have k1 := okI_iff.1 h1
  have k2 := okI_iff.1 h2
  have k3 := okI_iff.1 o
  have u := sqrtUp_val (n := (sqrI a).hi) (by omega) (by omega)
  have r := rootW_spec' (w := (sqrI a).lo * 4294967296) (by omega) (by omega)
  rw [← e1] at r
  rw [← e2] at u
  rw [Int.neg_mul] at s2
  generalize (absI a).lo = L at *
  generalize (absI a).hi = H at *
  generalize (sqrI a).lo = S at *
  generalize (sqrI a).hi = T at *
  generalize (sqrtI (sqrI a)).lo = p at *
  generalize (sqrtI (sqrI a)).hi = q at *
  constructor
  · apply Int.le_of_not_gt
    intro hg
    have h5 := sq_mono_i (a := L + 1) (b := p) (by omega) (by omega)
    have h6 : (L + 1) * (L + 1) = L * L + 2 * L + 1 := by grind
    omega
  · apply Int.le_of_not_gt
    intro hg
    have h5 := sq_mono_i (a := q + 1) (b := H) (by omega) (by omega)
    have h6 : (q + 1) * (q + 1) = q * q + 2 * q + 1 := by grind
    omega
theorem floor_sum (s u v : Int) : s * u / 4294967296 + s * v / 4294967296 ≤ s * (u + v) / 4294967296 := by
  rw [Int.mul_add]
  generalize s * u = p
  generalize s * v = q
  omega
/-- A product with a sum is contained in the sum of the products. -/
theorem iv_dist {a b c : Iv} (h : okI (mulI a (addI b c)) = true) : insideI (mulI a (addI b c)) (addI (mulI a b) (mulI a c)) = true := by
  refine inside_of fun hr => ⟨h, ?_⟩
  obtain ⟨oa, os, e⟩ := mulI_eq h
  obtain ⟨ob, oc, es⟩ := addI_eq os
  obtain ⟨op, oq, er⟩ := addI_eq hr
  obtain ⟨_, _, ep⟩ := mulI_eq op
  obtain ⟨_, _, eq⟩ := mulI_eq oq
  rw [er]
  rw [e, es] at h ⊢
  rw [ep] at op
  rw [eq] at oq
  rw [ep, eq]
  have hk := okI_iff.1 hr
  rw [er, ep, eq] at hk
  simp only at hk ⊢
  obtain ⟨⟨d1, u1, d2, u2, d3, u3, d4, u4⟩, _⟩ := comb_out h
  obtain ⟨⟨pd1, pu1, pd2, pu2, pd3, pu3, pd4, pu4⟩, pl1, pl2, pl3, pl4, pg1, pg2, pg3, pg4⟩ := comb_out op
  obtain ⟨⟨qd1, qu1, qd2, qu2, qd3, qu3, qd4, qu4⟩, ql1, ql2, ql3, ql4, qg1, qg2, qg3, qg4⟩ := comb_out oq
  rw [mulDown_out pd1] at pl1
  rw [mulDown_out pd2] at pl2
  rw [mulDown_out pd3] at pl3
  rw [mulDown_out pd4] at pl4
  rw [mulUp_out pu1] at pg1
  rw [mulUp_out pu2] at pg2
  rw [mulUp_out pu3] at pg3
  rw [mulUp_out pu4] at pg4
  rw [mulDown_out qd1] at ql1
  rw [mulDown_out qd2] at ql2
  rw [mulDown_out qd3] at ql3
  rw [mulDown_out qd4] at ql4
  rw [mulUp_out qu1] at qg1
  rw [mulUp_out qu2] at qg2
  rw [mulUp_out qu3] at qg3
  rw [mulUp_out qu4] at qg4
  generalize (comb mulDown mulUp a b).lo = L at *
  generalize (comb mulDown mulUp a b).hi = G at *
  generalize (comb mulDown mulUp a c).lo = L' at *
  generalize (comb mulDown mulUp a c).hi = G' at *
  simp only at d1 u1 d2 u2 d3 u3 d4 u4
  have key : okI (comb mulDown mulUp a ⟨b.lo + c.lo, b.hi + c.hi⟩) = true ∧ L + L' ≤ (comb mulDown mulUp a ⟨b.lo + c.lo, b.hi + c.hi⟩).lo ∧ (comb mulDown mulUp a ⟨b.lo + c.lo, b.hi + c.hi⟩).hi ≤ G + G' := by
    refine comb_incl hk.1 hk.2.2 fun s t hs ht => ?_
    have hd : (mulDown s t).2 = true := by
      rcases hs with rfl | rfl <;> rcases ht with rfl | rfl <;> assumption
    have hu : (mulUp s t).2 = true := by
      rcases hs with rfl | rfl <;> rcases ht with rfl | rfl <;> assumption
    have lo : L + L' ≤ s * t / 4294967296 := by
      rcases hs with rfl | rfl <;> rcases ht with rfl | rfl <;> simp only
      · have := floor_sum a.lo b.lo c.lo; omega
      · have := floor_sum a.lo b.hi c.hi; omega
      · have := floor_sum a.hi b.lo c.lo; omega
      · have := floor_sum a.hi b.hi c.hi; omega
    have hi : -(-s * t / 4294967296) ≤ G + G' := by
      rcases hs with rfl | rfl <;> rcases ht with rfl | rfl <;> simp only
      · have := floor_sum (-a.lo) b.lo c.lo; omega
      · have := floor_sum (-a.lo) b.hi c.hi; omega
      · have := floor_sum (-a.hi) b.lo c.lo; omega
      · have := floor_sum (-a.hi) b.hi c.hi; omega
    have mid : s * t / 4294967296 ≤ -(-s * t / 4294967296) := by
      rw [Int.neg_mul]
      generalize s * t = z
      omega
    rw [mulDown_out hd, mulUp_out hu]
    exact ⟨hd, hu, lo, mid, hi⟩
  exact key.2
theorem iv_neg {a : Iv} (h : okI a = true) : negI (negI a) = a := by
  have e : negI a = ⟨-a.hi, -a.lo⟩ := by unfold negI; rw [if_pos h]
  have h2 := negI_ok h
  rw [e]
  unfold negI
  rw [if_pos h2]
  simp only [Int.neg_neg]
theorem iv_half {a : Iv} (h : okI a = true) : insideI a (dblI (halfI a)) = true := by
  refine inside_of fun hr => ⟨h, ?_⟩
  have e : halfI a = ⟨a.lo / 2, (a.hi + 1) / 2⟩ := by unfold halfI; rw [if_pos h]
  rw [e] at hr ⊢
  unfold dblI at *
  rw [(addI_eq hr).2.2]
  simp only
  omega
theorem iv_meet {a b : Iv} (ha : okI a = true) (hb : okI b = true) (h : (meetI a b).2 = true) : insideI (meetI a b).1 a = true ∧ insideI (meetI a b).1 b = true := by
  have k1 := okI_iff.1 ha
  have k2 := okI_iff.1 hb
  unfold meetI at *
  rw [if_pos ha, if_pos hb] at *
  split at h
  · cases h
  · rename_i h1
    rw [if_neg h1]
    constructor
    · refine inside_of fun _ => ⟨?_, ?_⟩
      · rw [okI_mk]; omega
      · simp only; omega
    · refine inside_of fun _ => ⟨?_, ?_⟩
      · rw [okI_mk]; omega
      · simp only; omega
theorem iv_hull {a b : Iv} (ha : okI a = true) (hb : okI b = true) : insideI a (hullI a b) = true ∧ insideI b (hullI a b) = true := by
  have e : hullI a b = ⟨min a.lo b.lo, max a.hi b.hi⟩ := by unfold hullI; rw [ha, hb]; rfl
  rw [e]
  constructor
  · refine inside_of fun _ => ⟨ha, ?_⟩
    simp only; omega
  · refine inside_of fun _ => ⟨hb, ?_⟩
    simp only; omega
theorem iv_mid {a : Iv} (ha : okI a = true) : (!okI a || within (midI a) a.lo a.hi) = true := by
  have := okI_iff.1 ha
  unfold midI
  rw [ha, if_pos rfl, Bool.not_true, Bool.false_or, within_iff]
  omega
theorem iv_width {a : Iv} (ha : okI a = true) : widthI a = a.hi - a.lo := by
  unfold widthI; rw [if_pos ha]
/-- The three answers of a comparison. -/
theorem iv_less {a b : Iv} (ha : okI a = true) (hb : okI b = true) :
    (a.hi < b.lo ∧ lessI a b = 1) ∨ (¬ a.hi < b.lo ∧ lessI a b = 2) ∨ (¬ a.hi < b.lo ∧ lessI a b = 0 ∧ lessI b a ≠ 0) ∨ (¬ a.hi < b.lo ∧ lessI a b = 0 ∧ lessI b a = 0 ∧ a.lo = a.hi ∧ a.lo = b.lo ∧ a.hi = b.hi) := by
  have k1 := okI_iff.1 ha
  have k2 := okI_iff.1 hb
  have e1 : lessI a b = if a.hi < b.lo then 1 else if b.hi ≤ a.lo then 0 else 2 := by unfold lessI; rw [ha, hb]; rfl
  have e2 : lessI b a = if b.hi < a.lo then 1 else if a.hi ≤ b.lo then 0 else 2 := by unfold lessI; rw [ha, hb]; rfl
  rw [e1, e2]
  by_cases c1 : a.hi < b.lo
  · rw [if_pos c1]; exact .inl ⟨c1, rfl⟩
  · rw [if_neg c1]
    by_cases c2 : b.hi ≤ a.lo
    · rw [if_pos c2]
      by_cases c3 : b.hi < a.lo
      · rw [if_pos c3]; exact .inr (.inr (.inl ⟨c1, rfl, by decide⟩))
      · rw [if_neg c3]
        by_cases c4 : a.hi ≤ b.lo
        · rw [if_pos c4]; exact .inr (.inr (.inr ⟨c1, rfl, rfl, by omega, by omega, by omega⟩))
        · rw [if_neg c4]; exact .inr (.inr (.inl ⟨c1, rfl, by decide⟩))
    · rw [if_neg c2]; exact .inr (.inl ⟨c1, rfl⟩)

-- plain inter2
theorem wide_in64 {w : Int} (h : -9223372036854775808 ≤ w ∧ w ≤ 9223372036854775807) : wideInt w = (w, true) := by
  unfold wideInt; rw [if_pos (within_iff.2 h)]
theorem fixed_in {z : Int} (h : -1152921504606846976 ≤ z ∧ z ≤ 1152921504606846976) : fixed z true = (z, true) := by
  unfold fixed; rw [if_pos (by rw [Bool.true_and]; exact fixOk_iff.2 h)]
theorem pw10_9 : pw10 9 = 1000000000 := by decide
theorem fixRead_of {m d q r : Int} (e1 : fixFloor m (pw10 d) = (q, true)) (e2 : fixCeil m (pw10 d) = (r, true)) : fixRead (m, d, true) = (q, r, true) := by
  have h : fixRead (m, d, true) = if true && ((fixFloor m (pw10 d)).2 && (fixCeil m (pw10 d)).2) then ((fixFloor m (pw10 d)).1, (fixCeil m (pw10 d)).1, true) else (0, 0, false) := rfl
  rw [h, e1, e2]; rfl
theorem mulDivUp_of {a b d q t : Int} (hd : 0 < d) (hq : a * b / d = q) (ht : a * b % d = t) (w : wideInt q = (q, true)) (h9 : ¬ q = 9223372036854775807) : mulDivUp a b d = (if t = 0 then q else q + 1, true) := by
  have h1 : ((q, true) : Int × Bool).2 = true := rfl
  have h2 : ¬ ((q, true) : Int × Bool).1 = 9223372036854775807 := h9
  unfold mulDivUp
  rw [if_pos hd, hq, ht, w, if_pos h1]
  by_cases h0 : t = 0
  · rw [if_pos h0, if_pos h0]
  · rw [if_neg h0, if_neg h0, if_neg h2]
theorem mulDiv_of {a b d q : Int} (hd : 0 < d) (hq : a * b / d = q) (w : wideInt q = (q, true)) : mulDiv a b d = (q, true) := by
  unfold mulDiv
  rw [if_pos hd, hq, w]
theorem fixFloor_of {a d q : Int} (h : mulDiv a 4294967296 d = (q, true)) (hf : fixed q true = (q, true)) : fixFloor a d = (q, true) := by
  unfold fixFloor
  rw [h]
  exact hf
theorem fixCeil_of {a d q : Int} (h : mulDivUp a 4294967296 d = (q, true)) (hf : fixed q true = (q, true)) : fixCeil a d = (q, true) := by
  unfold fixCeil
  rw [h]
  exact hf
theorem nine_bd {p q t : Int} (h : -288230376151711749000000000 ≤ p ∧ p ≤ 288230376151711749000000000) (hq : p / 1000000000 = q) (ht : p % 1000000000 = t) :
    (-300000000000000000 ≤ q ∧ q ≤ 300000000000000000) ∧ p = 1000000000 * q + t ∧ 0 ≤ t ∧ t < 1000000000 := by
  omega
theorem nine_up {p q t : Int} (h : p = 1000000000 * q + t ∧ 0 ≤ t ∧ t < 1000000000) :
    (t = 0 → p ≤ q * 1000000000 ∧ q * 1000000000 < p + 1000000000) ∧ (¬ t = 0 → p ≤ (q + 1) * 1000000000 ∧ (q + 1) * 1000000000 < p + 1000000000) := by
  constructor
  · intro e; omega
  · intro e; omega
theorem nine_in {q : Int} (b : -300000000000000000 ≤ q ∧ q ≤ 300000000000000000) : wideInt q = (q, true) ∧ fixed q true = (q, true) ∧ fixed (q + 1) true = (q + 1, true) ∧ ¬ q = 9223372036854775807 :=
  ⟨wide_in64 (by omega), fixed_in (by omega), fixed_in (by omega), by omega⟩
/-- A number of nine digits, read. -/
theorem readF_units {m : Int} (h : -67108864000000001 ≤ m ∧ m ≤ 67108864000000001) : ∃ r, readF (unitsL m 9) = (m * 4294967296 / 1000000000, r, true) ∧ m * 4294967296 ≤ r * 1000000000 ∧ r * 1000000000 < m * 4294967296 + 1000000000 := by
  have ha : absZ m / pw10 9 < 1000000000 := by
    rw [pw10_9]; unfold absZ; split <;> omega
  unfold readF
  rw [parseI_units m (by decide) (by decide) ha]
  obtain ⟨p, hp⟩ : ∃ p, m * 4294967296 = p := ⟨_, rfl⟩
  have hb : -288230376151711749000000000 ≤ p ∧ p ≤ 288230376151711749000000000 := by omega
  obtain ⟨q, hq⟩ : ∃ q, p / 1000000000 = q := ⟨_, rfl⟩
  obtain ⟨t, ht⟩ : ∃ t, p % 1000000000 = t := ⟨_, rfl⟩
  obtain ⟨b, hmod⟩ := nine_bd hb hq ht
  obtain ⟨w0, x0, x1, n9⟩ := nine_in b
  obtain ⟨y0, y1⟩ := nine_up hmod
  have p0 : 0 < pw10 9 := by rw [pw10_9]; decide
  have e0 : m * 4294967296 / 1000000000 = q := by rw [hp]; exact hq
  have hq' : m * 4294967296 / pw10 9 = q := by rw [pw10_9]; exact e0
  have ht' : m * 4294967296 % pw10 9 = t := by rw [pw10_9, hp]; exact ht
  have e1 : fixFloor m (pw10 9) = (q, true) := fixFloor_of (mulDiv_of p0 hq' w0) x0
  have e2 := mulDivUp_of p0 hq' ht' w0 n9
  rw [e0, hp]
  by_cases hr : t = 0
  · rw [if_pos hr] at e2
    exact ⟨q, fixRead_of e1 (fixCeil_of e2 x0), y0 hr⟩
  · rw [if_neg hr] at e2
    exact ⟨q + 1, fixRead_of e1 (fixCeil_of e2 x1), y1 hr⟩
/-- A text of an interval that is not too great, read. -/
theorem read_text {a : Iv} (h0 : -288230376151711744 ≤ a.lo) (h1 : a.lo ≤ a.hi) (h2 : a.hi ≤ 288230376151711744) : ∃ x, ivI (ivL a) = (x, true) ∧ insideI a x = true := by
  have hok : okI a = true := okI_iff.2 (by omega)
  have e32 : (2 : Int) ^ (32 : Int).toNat = 4294967296 := by decide
  obtain ⟨m, hm⟩ : ∃ m, a.lo * 1000000000 / 4294967296 = m := ⟨_, rfl⟩
  obtain ⟨k, hk⟩ : ∃ k, -a.hi * 1000000000 / 4294967296 = k := ⟨_, rfl⟩
  have w9 : within 9 0 9 = true := by decide
  have t1 : textD a.lo 9 = unitsL m 9 := by
    rw [textD_u (fixOk_iff.2 (by omega)) w9]
    unfold mulFloor
    rw [pw10_9, e32, hm, wide_in64 (by omega)]
  have t2 : textU a.hi 9 = unitsL (-k) 9 := by
    rw [textU_u (fixOk_iff.2 (by omega)) w9]
    unfold mulFloor
    rw [pw10_9, e32, hk, wide_in64 (by omega)]
  obtain ⟨xh, r1, r2, r3⟩ := @readF_units m (by omega)
  obtain ⟨yh, q1, q2, q3⟩ := @readF_units (-k) (by omega)
  have e : ivL a = formL (unitsL m 9) (unitsL (-k) 9) := by
    rw [ivL_o hok, t1, t2]
    unfold formL
    simp only [List.append_assoc]
  have hlo : m * 4294967296 / 1000000000 ≤ a.lo := by omega
  have hhi : a.hi ≤ yh := by omega
  have hx : okI ⟨m * 4294967296 / 1000000000, yh⟩ = true := okI_mk.2 (by omega)
  refine ⟨⟨m * 4294967296 / 1000000000, yh⟩, ?_, ?_⟩
  · rw [e, ivI_form (by rw [r1]) (by rw [q1])]
    unfold ivG
    rw [r1, q1]
    exact if_pos hx
  · exact inside_of fun _ => ⟨hok, hlo, hhi⟩

end Go.Proofs.YtcnapkdccjibpaaGreatDoor.Eng
