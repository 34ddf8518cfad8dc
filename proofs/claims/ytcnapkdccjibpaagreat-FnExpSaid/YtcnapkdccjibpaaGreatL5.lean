/- What functions of the program compute, and that the program computes it: part 5. -/
import Derived.Test.YtcnapkdccjibpaaGreatTab
import Derived.Test.YtcnapkdccjibpaaGreatEng16
import Derived.Laws.BitsLemmas
import Derived.Laws.Bits64
import Derived.Laws.Bits64b
import Derived.Lib.Mul64
import Derived.Lib.BitFns
import Derived.Laws.Externs
import Derived.Test.YtcnapkdccjibpaaGreatL1
import Derived.Test.YtcnapkdccjibpaaGreatL4
namespace Go.Proofs.YtcnapkdccjibpaaGreat.Eng
open Go Go.RowKit
set_option linter.unusedVariables false
set_option linter.unusedSimpArgs false
set_option maxRecDepth 100000
set_option maxHeartbeats 1000000
-- impl.WideSqrt
theorem impl_WideSqrt_wideSqrt_ok : Fn Tryz.prog 155 F_wideSqrt := by
  refine fn_of_go (O := orc [⟨156, F_mul64, .inl math_bits_Mul64_mul64_ok⟩]) mixed T_ok (orc_sound _) Tryz.func155 (by kernel_rfl) rfl Tryz.ntmps155 (by kernel_rfl) Tryz.results155 ?_
  intro args g pre r new hF hpre
  unfold F_wideSqrt at hF
  split at hF
  · rename_i w1 w2
    simp only [Option.some.injEq, Prod.mk.injEq] at hF
    obtain ⟨rfl, hr, rfl⟩ := hF
    refine ⟨by simp, ?_⟩
    simp (config := { maxSteps := 4000000, implicitDefEqProofs := false }) only [F_mul64_eq, WK0, WK1, WK2, WK3, WK4, WK5, WK6, WK7, WK8, WK9, WK10, WK11, WK12, WK13, WK14, WK15, WK16, WK17, WK18, WK19, WK20, WK21, WK22, WK23, WK24, WK25, WK26, WK27, WK28, look_hit, look_miss, List.map_cons, List.map_nil, Nat.add_zero, max_v, min_v, ↓cnd_t, ↓cnd_f, ↓grd_b, ↓grd_u, startEnv, Option.map_some, List.length_nil, List.length_cons, List.nil_append, List.cons_append, List.getElem?_cons_zero, List.getElem?_cons_succ, List.set_cons_zero, List.set_cons_succ, Bool.not_true, Bool.not_false, reduceIte, Nat.reduceEqDiff, Nat.reduceAdd, Nat.reduceLT, blt_lit, beq_lit, Bool.or_true, Bool.true_or, Bool.or_false, Bool.false_or, Bool.and_true, Bool.true_and, Bool.and_self, cond_true, cond_false, List.append_nil, Iv.eta, Option.map_none, idxO_l0, idxO_l1, decide_true, decide_false, reqs_true, Int.zero_sub, wrap_lit, wrapu_lit, Int.reduceLE, Int.reduceLT, Int.reduceAdd, Int.reduceSub, Int.reduceMul, Int.reduceNeg, Int.reduceEq, Option.bind_some, bin_shr_u64, bin_shl_u64, bin_shr_i64, bin_shl_i64, and_m32', Int.reduceToNat, Int.reducePow, Int.reduceMod, Int.reduceDiv, wrap_u64s, true_or, or_true, true_and, and_true, Option.isSome_none, Option.isSome_some, Nat.reduceLeDiff, Nat.reduceMul, Int.toNat_natCast, Int.cast_ofNat_Int, Int.natCast_zero, Int.natCast_one, List.isEmpty_nil, List.isEmpty_cons, List.replicate_zero, List.replicate_succ, T1, T2, T3, T4, T5, T6, T9, T10, T11, T12, T21, T22, T23, T24, T26, T27, T28, T29, T30, T31, T32, T33, T34, T35, T37, T38, T39, T40, T42, T43, T44, T45, T46, T47, T48, T50, T52, T54, T55, T56, T57, T58, T59, T60, T61, T62, T63, T64, T65, T66, T67, T68, T69, T70, T71, T72, T73, T75, T77, T78, T79, T80, T82, T83, T84, T85, T87, T89, T90, T91, T92, T95, T97, T103, T104, T105, T106, T107, T109, T110]
    obtain ⟨p1, p2, p3⟩ := hpre
    unfold inR at p1
    unfold inU at p2
    repeat' (first | with_reducible refine cnd_split (fun hc => ?_) (fun hc => ?_) | with_reducible refine Reqs.mk ?_ ?_)
    · simp only [decide_eq_true_eq] at hc; omega
    refine go_loop (α := Nat × Int) (fun a => a.1) (fun a e h => h = [[.int .i64 w1, .int .u64 w2]] ∧ look e 1 = some (.v (.c (.ptr (.own 0 0)))) ∧ look e 4 = some (.v (.c (.p (.int .u64 a.2)))) ∧ look e 5 = some (.v (.c (.p (.int .i64 ((a.1 : Int) - 1))))) ∧ rootI a.1 a.2 (wv w1 w2)) (64, 0) ?_ ?_
    · exact ⟨rfl, rfl, rfl, rfl, rootI_0 _⟩
    · rintro X ⟨k, out⟩ e h ⟨rfl, l1, l4, l5, inv⟩ hX
      simp only at l4 l5 inv hX
      cases k with
      | zero =>
        simp only [Int.natCast_zero, Int.zero_sub] at l5
        simp (config := { maxSteps := 4000000, implicitDefEqProofs := false }) only [F_mul64_eq, WK0, WK1, WK2, WK3, WK4, WK5, WK6, WK7, WK8, WK9, WK10, WK11, WK12, WK13, WK14, WK15, WK16, WK17, WK18, WK19, WK20, WK21, WK22, WK23, WK24, WK25, WK26, WK27, WK28, look_hit, look_miss, List.map_cons, List.map_nil, Nat.add_zero, max_v, min_v, ↓cnd_t, ↓cnd_f, ↓grd_b, ↓grd_u, startEnv, Option.map_some, List.length_nil, List.length_cons, List.nil_append, List.cons_append, List.getElem?_cons_zero, List.getElem?_cons_succ, List.set_cons_zero, List.set_cons_succ, Bool.not_true, Bool.not_false, reduceIte, Nat.reduceEqDiff, Nat.reduceAdd, Nat.reduceLT, blt_lit, beq_lit, Bool.or_true, Bool.true_or, Bool.or_false, Bool.false_or, Bool.and_true, Bool.true_and, Bool.and_self, cond_true, cond_false, List.append_nil, Iv.eta, Option.map_none, idxO_l0, idxO_l1, decide_true, decide_false, reqs_true, Int.zero_sub, wrap_lit, wrapu_lit, Int.reduceLE, Int.reduceLT, Int.reduceAdd, Int.reduceSub, Int.reduceMul, Int.reduceNeg, Int.reduceEq, Option.bind_some, bin_shr_u64, bin_shl_u64, bin_shr_i64, bin_shl_i64, and_m32', Int.reduceToNat, Int.reducePow, Int.reduceMod, Int.reduceDiv, wrap_u64s, true_or, or_true, true_and, and_true, Option.isSome_none, Option.isSome_some, Nat.reduceLeDiff, Nat.reduceMul, Int.toNat_natCast, Int.cast_ofNat_Int, Int.natCast_zero, Int.natCast_one, List.isEmpty_nil, List.isEmpty_cons, List.replicate_zero, List.replicate_succ, T1, T2, T3, T4, T5, T6, T9, T10, T11, T12, T21, T22, T23, T24, T26, T27, T28, T29, T30, T31, T32, T33, T34, T35, T37, T38, T39, T40, T42, T43, T44, T45, T46, T47, T48, T50, T52, T54, T55, T56, T57, T58, T59, T60, T61, T62, T63, T64, T65, T66, T67, T68, T69, T70, T71, T72, T73, T75, T77, T78, T79, T80, T82, T83, T84, T85, T87, T89, T90, T91, T92, T95, T97, T103, T104, T105, T106, T107, T109, T110, l1, l4, l5]
        refine endS_ub (t := ((rootW (wv w1 w2), true))) hr ?_
        obtain ⟨h1, h2, h3, h4, h5⟩ := inv
        rw [← h4]; rfl
      | succ k =>
        have e5 : ((k + 1 : Nat) : Int) - 1 = k := by omega
        rw [e5] at l5
        have hk : k < 64 := by have := inv.2.2.2.2; omega
        have ho := rootI_or inv
        have hs := @rootI_shl T 61 k .i64 hk
        have hm : (k : Int) % 18446744073709551616 = k := by omega
        have hw : IntKind.i64.wrap ((k : Int) - 1) = (k : Int) - 1 := wrap_in (by unfold inR; omega)
        simp (config := { maxSteps := 4000000, implicitDefEqProofs := false }) only [F_mul64_eq, WK0, WK1, WK2, WK3, WK4, WK5, WK6, WK7, WK8, WK9, WK10, WK11, WK12, WK13, WK14, WK15, WK16, WK17, WK18, WK19, WK20, WK21, WK22, WK23, WK24, WK25, WK26, WK27, WK28, look_hit, look_miss, List.map_cons, List.map_nil, Nat.add_zero, max_v, min_v, ↓cnd_t, ↓cnd_f, ↓grd_b, ↓grd_u, startEnv, Option.map_some, List.length_nil, List.length_cons, List.nil_append, List.cons_append, List.getElem?_cons_zero, List.getElem?_cons_succ, List.set_cons_zero, List.set_cons_succ, Bool.not_true, Bool.not_false, reduceIte, Nat.reduceEqDiff, Nat.reduceAdd, Nat.reduceLT, blt_lit, beq_lit, Bool.or_true, Bool.true_or, Bool.or_false, Bool.false_or, Bool.and_true, Bool.true_and, Bool.and_self, cond_true, cond_false, List.append_nil, Iv.eta, Option.map_none, idxO_l0, idxO_l1, decide_true, decide_false, reqs_true, Int.zero_sub, wrap_lit, wrapu_lit, Int.reduceLE, Int.reduceLT, Int.reduceAdd, Int.reduceSub, Int.reduceMul, Int.reduceNeg, Int.reduceEq, Option.bind_some, bin_shr_u64, bin_shl_u64, bin_shr_i64, bin_shl_i64, and_m32', Int.reduceToNat, Int.reducePow, Int.reduceMod, Int.reduceDiv, wrap_u64s, true_or, or_true, true_and, and_true, Option.isSome_none, Option.isSome_some, Nat.reduceLeDiff, Nat.reduceMul, Int.toNat_natCast, Int.cast_ofNat_Int, Int.natCast_zero, Int.natCast_one, List.isEmpty_nil, List.isEmpty_cons, List.replicate_zero, List.replicate_succ, T1, T2, T3, T4, T5, T6, T9, T10, T11, T12, T21, T22, T23, T24, T26, T27, T28, T29, T30, T31, T32, T33, T34, T35, T37, T38, T39, T40, T42, T43, T44, T45, T46, T47, T48, T50, T52, T54, T55, T56, T57, T58, T59, T60, T61, T62, T63, T64, T65, T66, T67, T68, T69, T70, T71, T72, T73, T75, T77, T78, T79, T80, T82, T83, T84, T85, T87, T89, T90, T91, T92, T95, T97, T103, T104, T105, T106, T107, T109, T110, l1, l4, l5, ho.1, hs, hm]
        repeat' (first | with_reducible refine cnd_split (fun hc => ?_) (fun hc => ?_) | with_reducible refine Reqs.mk ?_ ?_)
        all_goals (first | exact ⟨ho.2, ho.2⟩ | skip)
        all_goals simp only [decide_eq_true_eq, decide_eq_false_iff_not] at *
        all_goals first
          | (exfalso; omega)
          | (have hp : (out + 2 ^ k) * (out + 2 ^ k) ≤ wv w1 w2 := by unfold wv; omega
             exact hX (k, out + 2 ^ k) _ _ (by simp only; omega) ⟨rfl, by simp [look, l1], by simp [look], by simp [look, hw], rootI_t inv hp⟩)
          | (have hp : ¬ (out + 2 ^ k) * (out + 2 ^ k) ≤ wv w1 w2 := by unfold wv; omega
             exact hX (k, out) _ _ (by simp only; omega) ⟨rfl, by simp [look, l1], by simp [look, l4], by simp [look, hw], rootI_f inv hp⟩)
  · cases hF

-- sqrtFloor
def sqrtFloor (a b : Int) : Int × Bool := if a < 0 ∨ b < 0 then (0, false) else (rootW (a * b), true)
def F_sqrtFloor : FT
  | [.c (.p (.int .i64 a)), .c (.p (.int .i64 b))], _ => some (inR a ∧ inR b, .tup [.c (.p (.int .i64 ((sqrtFloor a b).1))), .c (.p (.bool ((sqrtFloor a b).2)))], [])
  | _, _ => none
theorem F_sqrtFloor_eq {a : Int} {b : Int} {g : List PC} : F_sqrtFloor [.c (.p (.int .i64 a)), .c (.p (.int .i64 b))] g = some (inR a ∧ inR b, .tup [.c (.p (.int .i64 ((sqrtFloor a b).1))), .c (.p (.bool ((sqrtFloor a b).2)))], []) := rfl
theorem rootW_spec {w : Int} (h0 : 0 ≤ w) (h1 : w < 340282366920938463463374607431768211456) : rootW w * rootW w ≤ w ∧ w < (rootW w + 1) * (rootW w + 1) := by
  refine rootL_spec 64 0 w (by simpa using h0) ?_
  have : ((0 : Int) + 2 ^ 64) * (0 + 2 ^ 64) = 340282366920938463463374607431768211456 := by decide
  rw [this]; exact h1
theorem rootL_nonneg : ∀ (i : Nat) (out w : Int), 0 ≤ out → 0 ≤ rootL i out w
  | 0, out, w, h => h
  | i + 1, out, w, h => by
    unfold rootL
    have : (0 : Int) < 2 ^ i := Int.pow_pos (by omega)
    split
    · exact rootL_nonneg i _ w (by omega)
    · exact rootL_nonneg i _ w h
theorem rootW_nonneg (w : Int) : 0 ≤ rootW w := rootL_nonneg 64 0 w (by omega)
theorem rootW_in {a b : Int} (ha : inR a) (hb : inR b) (h1 : 0 ≤ a) (h2 : 0 ≤ b) : 0 ≤ a * b ∧ inR (rootW (a * b)) := by
  have hab := mul_bd ha hb
  have h0 : 0 ≤ a * b := Int.mul_nonneg h1 h2
  unfold inR at ha hb
  have hlt : a * b ≤ 9223372036854775807 * 9223372036854775807 := Int.mul_le_mul ha.2 hb.2 h2 (by omega)
  have hs := rootW_spec h0 (by omega)
  have hn := rootW_nonneg (a * b)
  refine ⟨h0, ?_⟩
  unfold inR
  refine ⟨by omega, ?_⟩
  apply Int.le_of_not_gt
  intro hgt
  have := Int.mul_le_mul (a := 9223372036854775808) (b := 9223372036854775808) (c := rootW (a * b)) (d := rootW (a * b)) (by omega) (by omega) (by omega) (by omega)
  omega

-- impl.SqrtFloor
theorem impl_SqrtFloor_sqrtFloor_ok : Fn Tryz.prog 118 F_sqrtFloor := by
  refine fn_of_go (O := orc [⟨119, F_wideMul, .inl impl_WideMul_wideMul_ok⟩, ⟨155, F_wideSqrt, .inl impl_WideSqrt_wideSqrt_ok⟩]) mixed T_ok (orc_sound _) Tryz.func118 (by kernel_rfl) rfl Tryz.ntmps118 (by kernel_rfl) Tryz.results118 ?_
  intro args g pre r new hF hpre
  unfold F_sqrtFloor at hF
  split at hF
  · rename_i a b
    simp only [Option.some.injEq, Prod.mk.injEq] at hF
    obtain ⟨rfl, hr, rfl⟩ := hF
    refine ⟨by simp, ?_⟩
    simp (config := { maxSteps := 4000000, implicitDefEqProofs := false }) only [F_wideMul_eq, F_wideSqrt_eq, WK0, WK1, WK2, WK3, WK4, WK5, WK6, WK7, WK8, WK9, WK10, WK11, WK12, WK13, WK14, WK15, WK16, WK17, WK18, WK19, WK20, WK21, WK22, WK23, WK24, WK25, WK26, WK27, WK28, look_hit, look_miss, List.map_cons, List.map_nil, Nat.add_zero, max_v, min_v, ↓cnd_t, ↓cnd_f, ↓grd_b, ↓grd_u, startEnv, Option.map_some, List.length_nil, List.length_cons, List.nil_append, List.cons_append, List.getElem?_cons_zero, List.getElem?_cons_succ, List.set_cons_zero, List.set_cons_succ, Bool.not_true, Bool.not_false, reduceIte, Nat.reduceEqDiff, Nat.reduceAdd, Nat.reduceLT, blt_lit, beq_lit, Bool.or_true, Bool.true_or, Bool.or_false, Bool.false_or, Bool.and_true, Bool.true_and, Bool.and_self, cond_true, cond_false, List.append_nil, Iv.eta, Option.map_none, idxO_l0, idxO_l1, decide_true, decide_false, reqs_true, Int.zero_sub, wrap_lit, wrapu_lit, Int.reduceLE, Int.reduceLT, Int.reduceAdd, Int.reduceSub, Int.reduceMul, Int.reduceNeg, Int.reduceEq, Option.bind_some, bin_shr_u64, bin_shl_u64, bin_shr_i64, bin_shl_i64, and_m32', Int.reduceToNat, Int.reducePow, Int.reduceMod, Int.reduceDiv, wrap_u64s, true_or, or_true, true_and, and_true, Option.isSome_none, Option.isSome_some, Nat.reduceLeDiff, Nat.reduceMul, Int.toNat_natCast, Int.cast_ofNat_Int, Int.natCast_zero, Int.natCast_one, List.isEmpty_nil, List.isEmpty_cons, List.replicate_zero, List.replicate_succ, T1, T2, T3, T4, T5, T6, T9, T10, T11, T12, T21, T22, T23, T24, T26, T27, T28, T29, T30, T31, T32, T33, T34, T35, T37, T38, T39, T40, T42, T43, T44, T45, T46, T47, T48, T50, T52, T54, T55, T56, T57, T58, T59, T60, T61, T62, T63, T64, T65, T66, T67, T68, T69, T70, T71, T72, T73, T75, T77, T78, T79, T80, T82, T83, T84, T85, T87, T89, T90, T91, T92, T95, T97, T103, T104, T105, T106, T107, T109, T110]
    obtain ⟨ha, hb⟩ := hpre
    rw [wv_eta]
    repeat' (first | with_reducible refine cnd_split (fun hc => ?_) (fun hc => ?_) | with_reducible refine Reqs.mk ?_ ?_)
    all_goals simp only [decide_eq_true_eq, decide_eq_false_iff_not, Int.not_lt] at *
    all_goals first
      | exact ⟨ha, hb⟩
      | (have h1 := rootW_in ha hb (by omega) (by omega)
         have h2 := prod_in ha hb
         first
         | exact ⟨h2.1, h2.2, by unfold whi; omega⟩
         | (refine endS_ib (t := (sqrtFloor a b)) hr ?_
            rw [wrap_in h1.2, sqrtFloor, if_neg (by omega)]))
      | (refine endS_ib (t := (sqrtFloor a b)) hr ?_; rw [sqrtFloor, if_pos (by omega)])
  · cases hF

end Go.Proofs.YtcnapkdccjibpaaGreat.Eng
