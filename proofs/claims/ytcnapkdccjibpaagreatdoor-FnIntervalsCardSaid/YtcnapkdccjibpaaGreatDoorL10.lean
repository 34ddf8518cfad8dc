/- What functions of the program compute, and that the program computes it: part 10. -/
import Derived.Test.YtcnapkdccjibpaaGreatDoorTab
import Derived.Test.YtcnapkdccjibpaaGreatDoorEng16
import Derived.Laws.BitsLemmas
import Derived.Laws.Bits64
import Derived.Laws.Bits64b
import Derived.Lib.Mul64
import Derived.Lib.BitFns
import Derived.Laws.Externs
import Derived.Test.YtcnapkdccjibpaaGreatDoorL1
import Derived.Test.YtcnapkdccjibpaaGreatDoorL2
import Derived.Test.YtcnapkdccjibpaaGreatDoorL4
import Derived.Test.YtcnapkdccjibpaaGreatDoorL5
import Derived.Test.YtcnapkdccjibpaaGreatDoorL7
import Derived.Test.YtcnapkdccjibpaaGreatDoorL9
namespace Go.Proofs.YtcnapkdccjibpaaGreatDoor.Eng
open Go Go.RowKit
set_option linter.unusedVariables false
set_option linter.unusedSimpArgs false
set_option maxRecDepth 100000
set_option maxHeartbeats 1000000
-- addsub
def F_add64 : FT
  | [.c (.p (.int .u64 x)), .c (.p (.int .u64 y)), .c (.p (.int .u64 c))], _ => some (inU x ∧ inU y ∧ (c = 0 ∨ c = 1), .tup [.c (.p (.int .u64 ((((x + y + c) % 18446744073709551616, (x + y + c) / 18446744073709551616)).1))), .c (.p (.int .u64 ((((x + y + c) % 18446744073709551616, (x + y + c) / 18446744073709551616)).2)))], [])
  | _, _ => none
theorem F_add64_eq {x : Int} {y : Int} {c : Int} {g : List PC} : F_add64 [.c (.p (.int .u64 x)), .c (.p (.int .u64 y)), .c (.p (.int .u64 c))] g = some (inU x ∧ inU y ∧ (c = 0 ∨ c = 1), .tup [.c (.p (.int .u64 ((((x + y + c) % 18446744073709551616, (x + y + c) / 18446744073709551616)).1))), .c (.p (.int .u64 ((((x + y + c) % 18446744073709551616, (x + y + c) / 18446744073709551616)).2)))], []) := rfl
def F_sub64 : FT
  | [.c (.p (.int .u64 x)), .c (.p (.int .u64 y)), .c (.p (.int .u64 c))], _ => some (inU x ∧ inU y ∧ (c = 0 ∨ c = 1), .tup [.c (.p (.int .u64 ((((x - y - c) % 18446744073709551616, if x < y + c then 1 else 0)).1))), .c (.p (.int .u64 ((((x - y - c) % 18446744073709551616, if x < y + c then 1 else 0)).2)))], [])
  | _, _ => none
theorem F_sub64_eq {x : Int} {y : Int} {c : Int} {g : List PC} : F_sub64 [.c (.p (.int .u64 x)), .c (.p (.int .u64 y)), .c (.p (.int .u64 c))] g = some (inU x ∧ inU y ∧ (c = 0 ∨ c = 1), .tup [.c (.p (.int .u64 ((((x - y - c) % 18446744073709551616, if x < y + c then 1 else 0)).1))), .c (.p (.int .u64 ((((x - y - c) % 18446744073709551616, if x < y + c then 1 else 0)).2)))], []) := rfl

-- math/bits.Add64
theorem math_bits_Add64_add64_ok : Ext Tryz.prog 121 F_add64 := by
  intro args g pre r new hF hpre G w hG
  unfold F_add64 at hF
  split at hF
  · rename_i x y c
    simp only [Option.some.injEq, Prod.mk.injEq] at hF
    obtain ⟨rfl, rfl, rfl⟩ := hF
    obtain ⟨hx, hy, hc⟩ := hpre
    unfold inU at hx hy
    refine ⟨rfl, by simp [SV.res, AV.res, Cl.res], ?_⟩
    show (callFunc 121 #[.int .u64 x, .int .u64 y, .int .u64 c]).run Tryz.prog w = _
    rw [run_callFunc_extern Tryz.func121 (by kernel_rfl) (by kernel_rfl) (by kernel_rfl) (e := add64Entry) (by kernel_rfl), run_add64 x y c hx.1 hy.1 (by omega) (by omega)]
    rfl
  · cases hF

-- math/bits.Sub64
def sub64E : Array Value → Sem Value := fun args => do
  let (x, y, b) ← Extern.MathBitsCarry.three "Sub64" args
  pure (Extern.MathBitsCarry.pair ((x + Extern.MathBitsCarry.m64 - y - b) % Extern.MathBitsCarry.m64) (if x < y + b then 1 else 0))
theorem run_sub64E {P : Program} (x y b : Nat) (hb : b ≤ 1) (w : World) :
    (sub64E #[.int .u64 x, .int .u64 y, .int .u64 b]).run P w =
      .ok (.tuple #[.int .u64 (((x + 18446744073709551616 - y - b) % 18446744073709551616 : Nat) : Int), .int .u64 ((if x < y + b then 1 else 0 : Nat) : Int)]) w := by
  have : b = 0 ∨ b = 1 := by omega
  rcases this with rfl | rfl <;> rfl
theorem math_bits_Sub64_sub64_ok : Ext Tryz.prog 143 F_sub64 := by
  intro args g pre r new hF hpre G w hG
  unfold F_sub64 at hF
  split at hF
  · rename_i x y c
    simp only [Option.some.injEq, Prod.mk.injEq] at hF
    obtain ⟨rfl, rfl, rfl⟩ := hF
    obtain ⟨hx, hy, hc⟩ := hpre
    unfold inU at hx hy
    obtain ⟨a, rfl⟩ := natOf hx.1
    obtain ⟨b, rfl⟩ := natOf hy.1
    refine ⟨rfl, by simp [SV.res, AV.res, Cl.res], ?_⟩
    show (callFunc 143 #[.int .u64 (a : Int), .int .u64 (b : Int), .int .u64 c]).run Tryz.prog w = _
    have key : ∀ k : Nat, k ≤ 1 → ((sub64E #[.int .u64 (a : Int), .int .u64 (b : Int), .int .u64 (k : Int)]).run Tryz.prog w).andThen (fun v w' => Result.ok (Next.value v) w') =
        .ok (.value (SV.conc [] G (.tup [.c (.p (.int .u64 (((a : Int) - b - k) % 18446744073709551616))), .c (.p (.int .u64 (if (a : Int) < b + k then 1 else 0)))]))) w := by
      intro k hk
      rw [run_sub64E a b k hk w]
      have e1 : (((a + 18446744073709551616 - b - k) % 18446744073709551616 : Nat) : Int) = ((a : Int) - b - k) % 18446744073709551616 := by omega
      have e2 : ((if a < b + k then 1 else 0 : Nat) : Int) = if (a : Int) < b + k then 1 else 0 := by split <;> split <;> omega
      rw [e1, e2]
      rfl
    rw [run_callFunc_extern Tryz.func143 (by kernel_rfl) (by kernel_rfl) (by kernel_rfl) (e := sub64E) (by kernel_rfl)]
    rcases hc with rfl | rfl
    · exact key 0 (by omega)
    · exact key 1 (by omega)
  · cases hF

-- (impl.Wide).negative
theorem _impl_Wide__negative_minus_ok : Fn Tryz.prog 120 F_minus := by
  refine fn_of_go (O := orc [⟨143, F_sub64, .inr math_bits_Sub64_sub64_ok⟩]) mixed T_ok (orc_sound _) Tryz.func120 (by kernel_rfl) rfl Tryz.ntmps120 (by kernel_rfl) Tryz.results120 ?_
  intro args g pre r new hF hpre
  unfold F_minus at hF
  split at hF
  · rename_i w1 w2
    simp only [Option.some.injEq, Prod.mk.injEq] at hF
    obtain ⟨rfl, hr, rfl⟩ := hF
    refine ⟨by simp, ?_⟩
    simp (config := { maxSteps := 4000000, implicitDefEqProofs := false }) only [F_sub64_eq, WK0, WK1, WK2, WK3, WK4, WK5, WK6, WK7, WK8, WK9, WK10, WK11, WK12, WK13, WK14, WK15, WK16, WK17, WK18, WK19, WK20, WK21, WK22, WK23, WK24, WK25, WK26, WK27, WK28, WK29, WK30, look_hit, look_miss, List.map_cons, List.map_nil, Nat.add_zero, max_v, min_v, ↓cnd_t, ↓cnd_f, ↓grd_b, ↓grd_u, startEnv, Option.map_some, List.length_nil, List.length_cons, List.nil_append, List.cons_append, List.getElem?_cons_zero, List.getElem?_cons_succ, List.set_cons_zero, List.set_cons_succ, Bool.not_true, Bool.not_false, reduceIte, Nat.reduceEqDiff, Nat.reduceAdd, Nat.reduceLT, blt_lit, beq_lit, Bool.or_true, Bool.true_or, Bool.or_false, Bool.false_or, Bool.and_true, Bool.true_and, Bool.and_self, cond_true, cond_false, List.append_nil, Iv.eta, Option.map_none, idxO_l0, idxO_l1, decide_true, decide_false, reqs_true, Int.zero_sub, wrap_lit, wrapu_lit, Int.reduceLE, Int.reduceLT, Int.reduceAdd, Int.reduceSub, Int.reduceMul, Int.reduceNeg, Int.reduceEq, Option.bind_some, bin_shr_u64, bin_shl_u64, bin_shr_i64, bin_shl_i64, and_m32', Int.reduceToNat, Int.reducePow, Int.reduceMod, Int.reduceDiv, wrap_u64s, true_or, or_true, true_and, and_true, Option.isSome_none, Option.isSome_some, Nat.reduceLeDiff, Nat.reduceMul, Int.toNat_natCast, Int.cast_ofNat_Int, Int.natCast_zero, Int.natCast_one, List.isEmpty_nil, List.isEmpty_cons, List.replicate_zero, List.replicate_succ, T1, T2, T3, T4, T5, T6, T9, T10, T11, T12, T21, T22, T23, T25, T26, T27, T28, T29, T30, T32, T33, T34, T35, T36, T37, T38, T39, T40, T41, T42, T43, T44, T46, T48, T50, T52, T53, T54, T55, T56, T57, T58, T59, T61, T62, T63, T64, T65, T66, T67, T68, T69, T70, T71, T72, T73, T74, T75, T76, T77, T78, T79, T80, T81, T82, T83, T84, T85, T87, T89, T91, T92, T93, T95, T96, T97, T98, T102, T103, T105, T107, T108, T109, T110, T112, T116, T120, T121, T122, T123, T124, T125, T126, T128, T130, T131, T132, T134, T135, T136, T137, T138, T140, T142, T143, T145, T146, T148, T149, T150, T152, T153, T154, T155, T156, T163, T164, T165, T166, T167]
    unfold inR inU wv at hpre
    repeat' (first | with_reducible refine cnd_split (fun hc => ?_) (fun hc => ?_) | with_reducible refine Reqs.mk ?_ ?_)
    all_goals first
      | (unfold inU; omega)
      | (refine ⟨?_, ?_, ?_⟩ <;> first | (unfold inU; omega) | (split <;> omega))
      | (refine endS_w (t := (-(wv w1 w2))) hr ?_
         unfold whi wlo wv
         rw [IntKind.wrap_i64]
         simp only [Int.add_zero]
         split <;> omega)
  · cases hF

-- divide
def F_divide : FT
  | [.c (.p (.int .u64 hi)), .c (.p (.int .u64 lo)), .c (.p (.int .u64 d))], _ => some (inU hi ∧ inU lo ∧ 0 < d ∧ d < 9223372036854775808, .tup [.c (.p (.int .u64 (((hi / d, (hi % d * 18446744073709551616 + lo) / d, (hi % d * 18446744073709551616 + lo) % d)).1))), .c (.p (.int .u64 (((hi / d, (hi % d * 18446744073709551616 + lo) / d, (hi % d * 18446744073709551616 + lo) % d)).2.1))), .c (.p (.int .u64 (((hi / d, (hi % d * 18446744073709551616 + lo) / d, (hi % d * 18446744073709551616 + lo) % d)).2.2)))], [])
  | _, _ => none
theorem F_divide_eq {hi : Int} {lo : Int} {d : Int} {g : List PC} : F_divide [.c (.p (.int .u64 hi)), .c (.p (.int .u64 lo)), .c (.p (.int .u64 d))] g = some (inU hi ∧ inU lo ∧ 0 < d ∧ d < 9223372036854775808, .tup [.c (.p (.int .u64 (((hi / d, (hi % d * 18446744073709551616 + lo) / d, (hi % d * 18446744073709551616 + lo) % d)).1))), .c (.p (.int .u64 (((hi / d, (hi % d * 18446744073709551616 + lo) / d, (hi % d * 18446744073709551616 + lo) % d)).2.1))), .c (.p (.int .u64 (((hi / d, (hi % d * 18446744073709551616 + lo) / d, (hi % d * 18446744073709551616 + lo) % d)).2.2)))], []) := rfl
theorem split_div {hi lo d : Int} (hd : 0 < d) (hl : 0 ≤ lo) (h2 : lo < 18446744073709551616) :
    (hi * 18446744073709551616 + lo) / d = hi / d * 18446744073709551616 + (hi % d * 18446744073709551616 + lo) / d ∧
    (hi * 18446744073709551616 + lo) % d = (hi % d * 18446744073709551616 + lo) % d ∧ 0 ≤ (hi % d * 18446744073709551616 + lo) / d ∧ (hi % d * 18446744073709551616 + lo) / d < 18446744073709551616 := by
  have e := Int.ediv_mul_add_emod hi d
  have r1 := Int.emod_nonneg hi (show d ≠ 0 by omega)
  have r2 := Int.emod_lt_of_pos hi hd
  have h : hi * 18446744073709551616 + lo = (hi % d * 18446744073709551616 + lo) + (hi / d * 18446744073709551616) * d := by
    rw [Int.mul_right_comm]; omega
  refine ⟨?_, ?_, Int.ediv_nonneg (by omega) (by omega), ?_⟩
  · rw [h, Int.add_mul_ediv_right _ _ (by omega)]; omega
  · rw [h, Int.add_mul_emod_self_right]
  · refine Int.ediv_lt_of_lt_mul hd ?_
    omega
theorem div_halves {hi lo d : Int} (hd : 0 < d) (hl : 0 ≤ lo) (h2 : lo < 18446744073709551616) :
    hi / d = whi (wv hi lo / d) ∧ (hi % d * 18446744073709551616 + lo) / d = wlo (wv hi lo / d) ∧ (hi % d * 18446744073709551616 + lo) % d = wv hi lo % d := by
  obtain ⟨h1, h3, h4, h5⟩ := @split_div hi lo d hd hl h2
  unfold wv
  rw [h1, ← h3]
  unfold whi wlo
  omega
theorem neg_div {w d : Int} (hd : 0 < d) : (-w % d = 0 → w / d = -(-w / d) ∧ w % d = 0) ∧ (-w % d ≠ 0 → w / d = -(-w / d + 1) ∧ w % d = d - -w % d) := by
  have e := Int.ediv_mul_add_emod (-w) d
  have r1 := Int.emod_nonneg (-w) (show d ≠ 0 by omega)
  have r2 := Int.emod_lt_of_pos (-w) hd
  constructor
  · intro h
    have h0 : w = -(-w / d) * d := by rw [Int.neg_mul]; omega
    generalize -(-w / d) = q at *
    rw [h0, Int.mul_ediv_cancel _ (by omega), Int.mul_emod_left]
    exact ⟨rfl, rfl⟩
  · intro h
    have h0 : w = (d - -w % d) + -(-w / d + 1) * d := by rw [Int.neg_mul, Int.add_mul]; omega
    generalize -w % d = r at *
    generalize -w / d = q at *
    rw [h0, Int.add_mul_ediv_right _ _ (by omega), Int.add_mul_emod_self_right, Int.ediv_eq_zero_of_lt (by omega) (by omega), Int.emod_eq_of_lt (by omega) (by omega)]
    omega

-- impl.divided
theorem impl_divided_divide_ok : Fn Tryz.prog 119 F_divide := by
  refine fn_of_go (O := orc [⟨142, F_div64, .inl math_bits_Div64_div64_ok⟩]) mixed T_ok (orc_sound _) Tryz.func119 (by kernel_rfl) rfl Tryz.ntmps119 (by kernel_rfl) Tryz.results119 ?_
  intro args g pre r new hF hpre
  unfold F_divide at hF
  split at hF
  · rename_i hi lo d
    simp only [Option.some.injEq, Prod.mk.injEq] at hF
    obtain ⟨rfl, hr, rfl⟩ := hF
    refine ⟨by simp, ?_⟩
    obtain ⟨p1, p2, hd, hd2⟩ := hpre
    unfold inU at p1 p2
    have r1 := Int.emod_nonneg hi (show d ≠ 0 by omega)
    have r2 := Int.emod_lt_of_pos hi hd
    have f1 : decide (d = 0) = false := by simp only [decide_eq_false_iff_not]; omega
    have f2 : hi.tdiv d = hi / d := tdiv_p p1.1
    have f3 : hi.tmod d = hi % d := tmod_p p1.1
    have f4 : hi / d % 18446744073709551616 = hi / d := by have := (@quo_bd2 hi d hd).1 p1.1; omega
    simp (config := { maxSteps := 4000000, implicitDefEqProofs := false }) only [F_div64_eq, WK0, WK1, WK2, WK3, WK4, WK5, WK6, WK7, WK8, WK9, WK10, WK11, WK12, WK13, WK14, WK15, WK16, WK17, WK18, WK19, WK20, WK21, WK22, WK23, WK24, WK25, WK26, WK27, WK28, WK29, WK30, look_hit, look_miss, List.map_cons, List.map_nil, Nat.add_zero, max_v, min_v, ↓cnd_t, ↓cnd_f, ↓grd_b, ↓grd_u, startEnv, Option.map_some, List.length_nil, List.length_cons, List.nil_append, List.cons_append, List.getElem?_cons_zero, List.getElem?_cons_succ, List.set_cons_zero, List.set_cons_succ, Bool.not_true, Bool.not_false, reduceIte, Nat.reduceEqDiff, Nat.reduceAdd, Nat.reduceLT, blt_lit, beq_lit, Bool.or_true, Bool.true_or, Bool.or_false, Bool.false_or, Bool.and_true, Bool.true_and, Bool.and_self, cond_true, cond_false, List.append_nil, Iv.eta, Option.map_none, idxO_l0, idxO_l1, decide_true, decide_false, reqs_true, Int.zero_sub, wrap_lit, wrapu_lit, Int.reduceLE, Int.reduceLT, Int.reduceAdd, Int.reduceSub, Int.reduceMul, Int.reduceNeg, Int.reduceEq, Option.bind_some, bin_shr_u64, bin_shl_u64, bin_shr_i64, bin_shl_i64, and_m32', Int.reduceToNat, Int.reducePow, Int.reduceMod, Int.reduceDiv, wrap_u64s, true_or, or_true, true_and, and_true, Option.isSome_none, Option.isSome_some, Nat.reduceLeDiff, Nat.reduceMul, Int.toNat_natCast, Int.cast_ofNat_Int, Int.natCast_zero, Int.natCast_one, List.isEmpty_nil, List.isEmpty_cons, List.replicate_zero, List.replicate_succ, T1, T2, T3, T4, T5, T6, T9, T10, T11, T12, T21, T22, T23, T25, T26, T27, T28, T29, T30, T32, T33, T34, T35, T36, T37, T38, T39, T40, T41, T42, T43, T44, T46, T48, T50, T52, T53, T54, T55, T56, T57, T58, T59, T61, T62, T63, T64, T65, T66, T67, T68, T69, T70, T71, T72, T73, T74, T75, T76, T77, T78, T79, T80, T81, T82, T83, T84, T85, T87, T89, T91, T92, T93, T95, T96, T97, T98, T102, T103, T105, T107, T108, T109, T110, T112, T116, T120, T121, T122, T123, T124, T125, T126, T128, T130, T131, T132, T134, T135, T136, T137, T138, T140, T142, T143, T145, T146, T148, T149, T150, T152, T153, T154, T155, T156, T163, T164, T165, T166, T167, bin_quo_c, bin_rem_c, f1, f2, f3, f4]
    repeat' (first | with_reducible refine cnd_split (fun hc => ?_) (fun hc => ?_) | with_reducible refine Reqs.mk ?_ ?_)
    · unfold inU; omega
    · exact endS_uuu (t := ((hi / d, (hi % d * 18446744073709551616 + lo) / d, (hi % d * 18446744073709551616 + lo) % d))) hr rfl
  · cases hF

-- wideDiv
def F_wideDiv : FT
  | [.agg [.int .i64 w1, .int .u64 w2], .c (.p (.int .i64 d))], _ => some ((inR w1 ∧ inU w2) ∧ inR d ∧ -85070591730234615865843651857942052864 ≤ (wv w1 w2) ∧ (wv w1 w2) ≤ 85070591730234615865843651857942052864, .tup [.agg [.int .i64 (whi (((if 0 < d then ((wv w1 w2)) / d else 0, if 0 < d then ((wv w1 w2)) % d else 0, decide (0 < d))).1)), .int .u64 (wlo (((if 0 < d then ((wv w1 w2)) / d else 0, if 0 < d then ((wv w1 w2)) % d else 0, decide (0 < d))).1))], .c (.p (.int .i64 (((if 0 < d then ((wv w1 w2)) / d else 0, if 0 < d then ((wv w1 w2)) % d else 0, decide (0 < d))).2.1))), .c (.p (.bool (((if 0 < d then ((wv w1 w2)) / d else 0, if 0 < d then ((wv w1 w2)) % d else 0, decide (0 < d))).2.2)))], [])
  | _, _ => none
theorem F_wideDiv_eq {w1 : Int} {w2 : Int} {d : Int} {g : List PC} : F_wideDiv [.agg [.int .i64 w1, .int .u64 w2], .c (.p (.int .i64 d))] g = some ((inR w1 ∧ inU w2) ∧ inR d ∧ -85070591730234615865843651857942052864 ≤ (wv w1 w2) ∧ (wv w1 w2) ≤ 85070591730234615865843651857942052864, .tup [.agg [.int .i64 (whi (((if 0 < d then ((wv w1 w2)) / d else 0, if 0 < d then ((wv w1 w2)) % d else 0, decide (0 < d))).1)), .int .u64 (wlo (((if 0 < d then ((wv w1 w2)) / d else 0, if 0 < d then ((wv w1 w2)) % d else 0, decide (0 < d))).1))], .c (.p (.int .i64 (((if 0 < d then ((wv w1 w2)) / d else 0, if 0 < d then ((wv w1 w2)) % d else 0, decide (0 < d))).2.1))), .c (.p (.bool (((if 0 < d then ((wv w1 w2)) / d else 0, if 0 < d then ((wv w1 w2)) % d else 0, decide (0 < d))).2.2)))], []) := rfl
def F_lowDiv : FT
  | [.agg [.int .i64 w1, .int .u64 w2], .c (.p (.int .i64 d))], _ => some ((inR w1 ∧ inU w2) ∧ 0 < d ∧ d < 9223372036854775808 ∧ -85070591730234615865843651857942052864 ≤ (wv w1 w2) ∧ (wv w1 w2) ≤ 85070591730234615865843651857942052864, .tup [.agg [.int .i64 (whi (((((wv w1 w2)) / d, ((wv w1 w2)) % d)).1)), .int .u64 (wlo (((((wv w1 w2)) / d, ((wv w1 w2)) % d)).1))], .c (.p (.int .i64 (((((wv w1 w2)) / d, ((wv w1 w2)) % d)).2)))], [])
  | _, _ => none
theorem F_lowDiv_eq {w1 : Int} {w2 : Int} {d : Int} {g : List PC} : F_lowDiv [.agg [.int .i64 w1, .int .u64 w2], .c (.p (.int .i64 d))] g = some ((inR w1 ∧ inU w2) ∧ 0 < d ∧ d < 9223372036854775808 ∧ -85070591730234615865843651857942052864 ≤ (wv w1 w2) ∧ (wv w1 w2) ≤ 85070591730234615865843651857942052864, .tup [.agg [.int .i64 (whi (((((wv w1 w2)) / d, ((wv w1 w2)) % d)).1)), .int .u64 (wlo (((((wv w1 w2)) / d, ((wv w1 w2)) % d)).1))], .c (.p (.int .i64 (((((wv w1 w2)) / d, ((wv w1 w2)) % d)).2)))], []) := rfl
theorem wide_neg {w1 w2 : Int} (h : (inR w1 ∧ inU w2) ∧ -85070591730234615865843651857942052864 ≤ wv w1 w2 ∧ wv w1 w2 ≤ 85070591730234615865843651857942052864) (h0 : w1 < 0) :
    inR (whi (-wv w1 w2)) ∧ inU (wlo (-wv w1 w2)) ∧ 0 ≤ whi (-wv w1 w2) ∧ wv (whi (-wv w1 w2)) (wlo (-wv w1 w2)) = -wv w1 w2 ∧ 0 < -wv w1 w2 := by
  obtain ⟨⟨h1, h2⟩, h3, h4⟩ := h
  rw [wv_eta]
  unfold inR inU at *
  unfold whi wlo
  unfold wv at *
  omega
theorem halves_in {w d : Int} (hd : 0 < d) (h0 : 0 ≤ w) (h1 : w ≤ 85070591730234615865843651857942052864) :
    0 ≤ whi (w / d) ∧ whi (w / d) ≤ 4611686018427387904 ∧ inU (wlo (w / d)) := by
  have := (@quo_bd2 w d hd).1 h0
  unfold inU whi wlo
  omega

theorem bump {z : Int} (h0 : 0 ≤ z) (h1 : z ≤ 85070591730234615865843651857942052864) : wv (IntKind.i64.wrap ((whi z + (wlo z + 1 + 0) / 18446744073709551616) % 18446744073709551616)) ((wlo z + 1 + 0) % 18446744073709551616) = z + 1 := by
  rw [IntKind.wrap_i64]
  unfold wv whi wlo
  omega

-- impl.WideDiv
theorem impl_WideDiv_wideDiv_ok : Fn Tryz.prog 96 F_wideDiv := by
  refine fn_of_go (O := orc [⟨119, F_divide, .inl impl_divided_divide_ok⟩, ⟨120, F_minus, .inl _impl_Wide__negative_minus_ok⟩, ⟨121, F_add64, .inr math_bits_Add64_add64_ok⟩]) mixed T_ok (orc_sound _) Tryz.func96 (by kernel_rfl) rfl Tryz.ntmps96 (by kernel_rfl) Tryz.results96 ?_
  intro args g pre r new hF hpre
  unfold F_wideDiv at hF
  split at hF
  · rename_i w1 w2 d
    simp only [Option.some.injEq, Prod.mk.injEq] at hF
    obtain ⟨rfl, hr, rfl⟩ := hF
    refine ⟨by simp, ?_⟩
    simp (config := { maxSteps := 4000000, implicitDefEqProofs := false }) only [F_add64_eq, F_divide_eq, F_minus_eq, WK0, WK1, WK2, WK3, WK4, WK5, WK6, WK7, WK8, WK9, WK10, WK11, WK12, WK13, WK14, WK15, WK16, WK17, WK18, WK19, WK20, WK21, WK22, WK23, WK24, WK25, WK26, WK27, WK28, WK29, WK30, look_hit, look_miss, List.map_cons, List.map_nil, Nat.add_zero, max_v, min_v, ↓cnd_t, ↓cnd_f, ↓grd_b, ↓grd_u, startEnv, Option.map_some, List.length_nil, List.length_cons, List.nil_append, List.cons_append, List.getElem?_cons_zero, List.getElem?_cons_succ, List.set_cons_zero, List.set_cons_succ, Bool.not_true, Bool.not_false, reduceIte, Nat.reduceEqDiff, Nat.reduceAdd, Nat.reduceLT, blt_lit, beq_lit, Bool.or_true, Bool.true_or, Bool.or_false, Bool.false_or, Bool.and_true, Bool.true_and, Bool.and_self, cond_true, cond_false, List.append_nil, Iv.eta, Option.map_none, idxO_l0, idxO_l1, decide_true, decide_false, reqs_true, Int.zero_sub, wrap_lit, wrapu_lit, Int.reduceLE, Int.reduceLT, Int.reduceAdd, Int.reduceSub, Int.reduceMul, Int.reduceNeg, Int.reduceEq, Option.bind_some, bin_shr_u64, bin_shl_u64, bin_shr_i64, bin_shl_i64, and_m32', Int.reduceToNat, Int.reducePow, Int.reduceMod, Int.reduceDiv, wrap_u64s, true_or, or_true, true_and, and_true, Option.isSome_none, Option.isSome_some, Nat.reduceLeDiff, Nat.reduceMul, Int.toNat_natCast, Int.cast_ofNat_Int, Int.natCast_zero, Int.natCast_one, List.isEmpty_nil, List.isEmpty_cons, List.replicate_zero, List.replicate_succ, T1, T2, T3, T4, T5, T6, T9, T10, T11, T12, T21, T22, T23, T25, T26, T27, T28, T29, T30, T32, T33, T34, T35, T36, T37, T38, T39, T40, T41, T42, T43, T44, T46, T48, T50, T52, T53, T54, T55, T56, T57, T58, T59, T61, T62, T63, T64, T65, T66, T67, T68, T69, T70, T71, T72, T73, T74, T75, T76, T77, T78, T79, T80, T81, T82, T83, T84, T85, T87, T89, T91, T92, T93, T95, T96, T97, T98, T102, T103, T105, T107, T108, T109, T110, T112, T116, T120, T121, T122, T123, T124, T125, T126, T128, T130, T131, T132, T134, T135, T136, T137, T138, T140, T142, T143, T145, T146, T148, T149, T150, T152, T153, T154, T155, T156, T163, T164, T165, T166, T167]
    obtain ⟨⟨p1, p2⟩, pd, p3, p4⟩ := hpre
    have q1 := p1
    have q2 := p2
    have qd := pd
    unfold inR at q1 qd
    unfold inU at q2
    repeat' (first | with_reducible refine cnd_split (fun hc => ?_) (fun hc => ?_) | with_reducible refine Reqs.mk ?_ ?_)
    all_goals (try simp only [decide_eq_true_eq, decide_eq_false_iff_not, Int.not_le, Int.not_lt] at *)
    all_goals first
      | (refine endS_wib (t := ((if 0 < d then ((wv w1 w2)) / d else 0, if 0 < d then ((wv w1 w2)) % d else 0, decide (0 < d)))) hr ?_
         have hd : ¬ 0 < d := by omega
         simp only [if_neg hd, decide_eq_false hd]
         refine ⟨⟨?_, ?_⟩, ?_, ?_⟩ <;> first | rfl | trivial)
      | skip
    all_goals (have hd : 0 < d := by omega)
    all_goals (have em : d % 18446744073709551616 = d := by omega)
    all_goals (simp only [em] at *)
    all_goals first
      | (have h0 : 0 ≤ w1 := by assumption
         have e1 : w1 % 18446744073709551616 = w1 := by omega
         have hw : 0 ≤ wv w1 w2 := by unfold wv; omega
         have hd3 := @div_halves w1 w2 d hd q2.1 (by omega)
         have hi := halves_in hd hw p4
         simp only [e1] at *
         first
         | (unfold inU; omega)
         | (have hm := Int.emod_lt_of_pos (wv w1 w2) hd
            have hn := Int.emod_nonneg (wv w1 w2) (show d ≠ 0 by omega)
            refine endS_wib (t := ((if 0 < d then ((wv w1 w2)) / d else 0, if 0 < d then ((wv w1 w2)) % d else 0, decide (0 < d)))) hr ?_
            simp only [if_pos hd, decide_eq_true hd, hd3.1, hd3.2.1, hd3.2.2]
            rw [wrap_om (by omega) (by omega), wrap_om (by omega) (by omega)]
            refine ⟨⟨?_, ?_⟩, ?_, ?_⟩ <;> first | rfl | trivial))
      | skip
    all_goals (have hn := wide_neg ⟨⟨p1, p2⟩, p3, p4⟩ (by omega))
    all_goals first
      | (unfold wv; unfold wv at hn; unfold inR inU; omega)
      | skip
    all_goals (have e1 : whi (-wv w1 w2) % 18446744073709551616 = whi (-wv w1 w2) := by have := hn.1; unfold inR at this; omega)
    all_goals (have hd3 := @div_halves (whi (-wv w1 w2)) (wlo (-wv w1 w2)) d hd hn.2.1.1 (by have := hn.2.1.2; omega))
    all_goals (have hi := halves_in (w := -wv w1 w2) hd (by omega) (by omega))
    all_goals (have hq := (@quo_bd2 (-wv w1 w2) d hd).1 (by omega))
    all_goals (have hx := @neg_div (wv w1 w2) d hd)
    all_goals (have hm := Int.emod_lt_of_pos (-wv w1 w2) hd)
    all_goals (have hm0 := Int.emod_nonneg (-wv w1 w2) (show d ≠ 0 by omega))
    all_goals (rw [hn.2.2.2.1] at hd3)
    all_goals (simp only [e1, hd3.1, hd3.2.1, hd3.2.2] at *)
    all_goals (have hi3 := hi.2.2; unfold inU at hi3)
    all_goals (have hn1 := hn.1; unfold inR at hn1)
    all_goals (have hn2 := hn.2.1; unfold inU at hn2)
    all_goals (have ew : wv (whi (-wv w1 w2 / d)) (wlo (-wv w1 w2 / d)) = -wv w1 w2 / d := wv_eta _)
    all_goals (try (have ei : IntKind.i64.wrap (whi (-wv w1 w2 / d)) = whi (-wv w1 w2 / d) := wrap_om (by omega) (by omega); simp only [ei, ew] at *))
    all_goals first
      | (unfold inU; omega)
      | (unfold inR inU; omega)
      | (refine endS_wib (t := ((if 0 < d then ((wv w1 w2)) / d else 0, if 0 < d then ((wv w1 w2)) % d else 0, decide (0 < d)))) hr ?_
         simp only [if_pos hd, decide_eq_true hd, (hx.1 (by omega)).1, (hx.1 (by omega)).2]
         refine ⟨⟨?_, ?_⟩, ?_, ?_⟩ <;> first | rfl | trivial)
      | skip
    all_goals (have ez := @bump (-wv w1 w2 / d) (by omega) (by omega))
    all_goals (simp only [ez] at *)
    all_goals first
      | (rw [IntKind.wrap_i64]; unfold inR inU; omega)
      | (refine endS_wib (t := ((if 0 < d then ((wv w1 w2)) / d else 0, if 0 < d then ((wv w1 w2)) % d else 0, decide (0 < d)))) hr ?_
         simp only [if_pos hd, decide_eq_true hd, (hx.2 (by omega)).1, (hx.2 (by omega)).2]
         rw [wrap_om (n := -wv w1 w2 % d) (by omega) (by omega), wrap_om (by omega) (by omega)]
         refine ⟨⟨?_, ?_⟩, ?_, ?_⟩ <;> first | rfl | trivial)
  · cases hF

-- mulDiv
def mulDiv (a b d : Int) : Int × Bool := if 0 < d then wideInt (a * b / d) else (0, false)
def F_mulDiv : FT
  | [.c (.p (.int .i64 a)), .c (.p (.int .i64 b)), .c (.p (.int .i64 d))], _ => some (inR a ∧ inR b ∧ inR d, .tup [.c (.p (.int .i64 ((mulDiv a b d).1))), .c (.p (.bool ((mulDiv a b d).2)))], [])
  | _, _ => none
theorem F_mulDiv_eq {a : Int} {b : Int} {d : Int} {g : List PC} : F_mulDiv [.c (.p (.int .i64 a)), .c (.p (.int .i64 b)), .c (.p (.int .i64 d))] g = some (inR a ∧ inR b ∧ inR d, .tup [.c (.p (.int .i64 ((mulDiv a b d).1))), .c (.p (.bool ((mulDiv a b d).2)))], []) := rfl
theorem prod_bd {a b d : Int} (ha : inR a) (hb : inR b) (hd : 0 < d) : inR (whi (a * b / d)) ∧ inU (wlo (a * b / d)) := by
  have h := mul_bd ha hb
  have h2 := @quo_bd2 (a * b) d hd
  exact wide_in (by omega) (by omega)

-- impl.MulDivFloor
theorem impl_MulDivFloor_mulDiv_ok : Fn Tryz.prog 79 F_mulDiv := by
  refine fn_of_go (O := orc [⟨81, F_wideMul, .inl impl_WideMul_wideMul_ok⟩, ⟨94, F_wideInt, .inl impl_WideInt_wideInt_ok⟩, ⟨96, F_wideDiv, .inl impl_WideDiv_wideDiv_ok⟩]) mixed T_ok (orc_sound _) Tryz.func79 (by kernel_rfl) rfl Tryz.ntmps79 (by kernel_rfl) Tryz.results79 ?_
  intro args g pre r new hF hpre
  unfold F_mulDiv at hF
  split at hF
  · rename_i a b d
    simp only [Option.some.injEq, Prod.mk.injEq] at hF
    obtain ⟨rfl, hr, rfl⟩ := hF
    refine ⟨by simp, ?_⟩
    simp (config := { maxSteps := 4000000, implicitDefEqProofs := false }) only [F_wideDiv_eq, F_wideInt_eq, F_wideMul_eq, WK0, WK1, WK2, WK3, WK4, WK5, WK6, WK7, WK8, WK9, WK10, WK11, WK12, WK13, WK14, WK15, WK16, WK17, WK18, WK19, WK20, WK21, WK22, WK23, WK24, WK25, WK26, WK27, WK28, WK29, WK30, look_hit, look_miss, List.map_cons, List.map_nil, Nat.add_zero, max_v, min_v, ↓cnd_t, ↓cnd_f, ↓grd_b, ↓grd_u, startEnv, Option.map_some, List.length_nil, List.length_cons, List.nil_append, List.cons_append, List.getElem?_cons_zero, List.getElem?_cons_succ, List.set_cons_zero, List.set_cons_succ, Bool.not_true, Bool.not_false, reduceIte, Nat.reduceEqDiff, Nat.reduceAdd, Nat.reduceLT, blt_lit, beq_lit, Bool.or_true, Bool.true_or, Bool.or_false, Bool.false_or, Bool.and_true, Bool.true_and, Bool.and_self, cond_true, cond_false, List.append_nil, Iv.eta, Option.map_none, idxO_l0, idxO_l1, decide_true, decide_false, reqs_true, Int.zero_sub, wrap_lit, wrapu_lit, Int.reduceLE, Int.reduceLT, Int.reduceAdd, Int.reduceSub, Int.reduceMul, Int.reduceNeg, Int.reduceEq, Option.bind_some, bin_shr_u64, bin_shl_u64, bin_shr_i64, bin_shl_i64, and_m32', Int.reduceToNat, Int.reducePow, Int.reduceMod, Int.reduceDiv, wrap_u64s, true_or, or_true, true_and, and_true, Option.isSome_none, Option.isSome_some, Nat.reduceLeDiff, Nat.reduceMul, Int.toNat_natCast, Int.cast_ofNat_Int, Int.natCast_zero, Int.natCast_one, List.isEmpty_nil, List.isEmpty_cons, List.replicate_zero, List.replicate_succ, T1, T2, T3, T4, T5, T6, T9, T10, T11, T12, T21, T22, T23, T25, T26, T27, T28, T29, T30, T32, T33, T34, T35, T36, T37, T38, T39, T40, T41, T42, T43, T44, T46, T48, T50, T52, T53, T54, T55, T56, T57, T58, T59, T61, T62, T63, T64, T65, T66, T67, T68, T69, T70, T71, T72, T73, T74, T75, T76, T77, T78, T79, T80, T81, T82, T83, T84, T85, T87, T89, T91, T92, T93, T95, T96, T97, T98, T102, T103, T105, T107, T108, T109, T110, T112, T116, T120, T121, T122, T123, T124, T125, T126, T128, T130, T131, T132, T134, T135, T136, T137, T138, T140, T142, T143, T145, T146, T148, T149, T150, T152, T153, T154, T155, T156, T163, T164, T165, T166, T167]
    have hab := mul_bd hpre.1 hpre.2.1
    obtain ⟨ha, hb, hd⟩ := hpre
    have h1 := prod_in ha hb
    rw [wv_eta]
    repeat' (first | with_reducible refine cnd_split (fun hc => ?_) (fun hc => ?_) | with_reducible refine Reqs.mk ?_ ?_)
    all_goals (try simp only [decide_eq_true_eq, decide_eq_false_iff_not] at *)
    all_goals first
      | exact ⟨ha, hb⟩
      | exact ⟨h1, hd, hab⟩
      | (have h0 : 0 < d := by assumption
         simp only [if_pos h0, wv_eta]
         first
         | exact prod_bd ha hb h0
         | (refine endS_ib (t := (mulDiv a b d)) hr ?_; rw [mulDiv, if_pos h0]))
      | (refine endS_ib (t := (mulDiv a b d)) hr ?_; rw [mulDiv, if_neg (by assumption)])
  · cases hF

-- mulDivUp
def mulDivUp (a b d : Int) : Int × Bool := if 0 < d then (if (wideInt (a * b / d)).2 then (if a * b % d = 0 then wideInt (a * b / d) else if (wideInt (a * b / d)).1 = 9223372036854775807 then (0, false) else ((wideInt (a * b / d)).1 + 1, true)) else (0, false)) else (0, false)
def F_mulDivUp : FT
  | [.c (.p (.int .i64 a)), .c (.p (.int .i64 b)), .c (.p (.int .i64 d))], _ => some (inR a ∧ inR b ∧ inR d, .tup [.c (.p (.int .i64 ((mulDivUp a b d).1))), .c (.p (.bool ((mulDivUp a b d).2)))], [])
  | _, _ => none
theorem F_mulDivUp_eq {a : Int} {b : Int} {d : Int} {g : List PC} : F_mulDivUp [.c (.p (.int .i64 a)), .c (.p (.int .i64 b)), .c (.p (.int .i64 d))] g = some (inR a ∧ inR b ∧ inR d, .tup [.c (.p (.int .i64 ((mulDivUp a b d).1))), .c (.p (.bool ((mulDivUp a b d).2)))], []) := rfl
theorem wideInt_in (w : Int) : inR (wideInt w).1 := by
  unfold wideInt inR
  split
  · rename_i h; rw [within_iff] at h; exact h
  · simp only; omega
theorem wideInt_f {w : Int} (h : (wideInt w).2 = false) : wideInt w = (0, false) := by
  unfold wideInt at *
  split at h
  · cases h
  · rename_i h1; rw [if_neg h1]
theorem wideInt_t {w : Int} (h : (wideInt w).2 = true) : (wideInt w).1 = w ∧ inR w := by
  unfold wideInt at *
  split at h
  · rename_i h1; rw [if_pos h1]; rw [within_iff] at h1; exact ⟨rfl, h1⟩
  · cases h

-- impl.mulDivCeil
theorem impl_mulDivCeil_mulDivUp_ok : Fn Tryz.prog 92 F_mulDivUp := by
  refine fn_of_go (O := orc [⟨81, F_wideMul, .inl impl_WideMul_wideMul_ok⟩, ⟨94, F_wideInt, .inl impl_WideInt_wideInt_ok⟩, ⟨96, F_wideDiv, .inl impl_WideDiv_wideDiv_ok⟩]) mixed T_ok (orc_sound _) Tryz.func92 (by kernel_rfl) rfl Tryz.ntmps92 (by kernel_rfl) Tryz.results92 ?_
  intro args g pre r new hF hpre
  unfold F_mulDivUp at hF
  split at hF
  · rename_i a b d
    simp only [Option.some.injEq, Prod.mk.injEq] at hF
    obtain ⟨rfl, hr, rfl⟩ := hF
    refine ⟨by simp, ?_⟩
    simp (config := { maxSteps := 4000000, implicitDefEqProofs := false }) only [F_wideDiv_eq, F_wideInt_eq, F_wideMul_eq, WK0, WK1, WK2, WK3, WK4, WK5, WK6, WK7, WK8, WK9, WK10, WK11, WK12, WK13, WK14, WK15, WK16, WK17, WK18, WK19, WK20, WK21, WK22, WK23, WK24, WK25, WK26, WK27, WK28, WK29, WK30, look_hit, look_miss, List.map_cons, List.map_nil, Nat.add_zero, max_v, min_v, ↓cnd_t, ↓cnd_f, ↓grd_b, ↓grd_u, startEnv, Option.map_some, List.length_nil, List.length_cons, List.nil_append, List.cons_append, List.getElem?_cons_zero, List.getElem?_cons_succ, List.set_cons_zero, List.set_cons_succ, Bool.not_true, Bool.not_false, reduceIte, Nat.reduceEqDiff, Nat.reduceAdd, Nat.reduceLT, blt_lit, beq_lit, Bool.or_true, Bool.true_or, Bool.or_false, Bool.false_or, Bool.and_true, Bool.true_and, Bool.and_self, cond_true, cond_false, List.append_nil, Iv.eta, Option.map_none, idxO_l0, idxO_l1, decide_true, decide_false, reqs_true, Int.zero_sub, wrap_lit, wrapu_lit, Int.reduceLE, Int.reduceLT, Int.reduceAdd, Int.reduceSub, Int.reduceMul, Int.reduceNeg, Int.reduceEq, Option.bind_some, bin_shr_u64, bin_shl_u64, bin_shr_i64, bin_shl_i64, and_m32', Int.reduceToNat, Int.reducePow, Int.reduceMod, Int.reduceDiv, wrap_u64s, true_or, or_true, true_and, and_true, Option.isSome_none, Option.isSome_some, Nat.reduceLeDiff, Nat.reduceMul, Int.toNat_natCast, Int.cast_ofNat_Int, Int.natCast_zero, Int.natCast_one, List.isEmpty_nil, List.isEmpty_cons, List.replicate_zero, List.replicate_succ, T1, T2, T3, T4, T5, T6, T9, T10, T11, T12, T21, T22, T23, T25, T26, T27, T28, T29, T30, T32, T33, T34, T35, T36, T37, T38, T39, T40, T41, T42, T43, T44, T46, T48, T50, T52, T53, T54, T55, T56, T57, T58, T59, T61, T62, T63, T64, T65, T66, T67, T68, T69, T70, T71, T72, T73, T74, T75, T76, T77, T78, T79, T80, T81, T82, T83, T84, T85, T87, T89, T91, T92, T93, T95, T96, T97, T98, T102, T103, T105, T107, T108, T109, T110, T112, T116, T120, T121, T122, T123, T124, T125, T126, T128, T130, T131, T132, T134, T135, T136, T137, T138, T140, T142, T143, T145, T146, T148, T149, T150, T152, T153, T154, T155, T156, T163, T164, T165, T166, T167]
    have hab := mul_bd hpre.1 hpre.2.1
    obtain ⟨ha, hb, hd⟩ := hpre
    have h1 := prod_in ha hb
    rw [wv_eta]
    repeat' (first | with_reducible refine cnd_split (fun hc => ?_) (fun hc => ?_) | with_reducible refine Reqs.mk ?_ ?_)
    all_goals (try simp only [decide_eq_true_eq, decide_eq_false_iff_not] at *)
    all_goals first
      | exact ⟨ha, hb⟩
      | exact ⟨h1, hd, hab⟩
      | (have h0 : 0 < d := by assumption
         have hm0 := Int.emod_nonneg (a * b) (show d ≠ 0 by omega)
         have hin := wideInt_in (a * b / d)
         simp only [if_pos h0, wv_eta] at *
         first
         | exact prod_bd ha hb h0
         | (refine endS_ib (t := (mulDivUp a b d)) hr ?_; rw [mulDivUp, if_pos h0]
            unfold inR at hin
            first
            | (have hf := wideInt_f (by assumption); simp_all; done)
            | (rw [if_pos (by assumption), if_neg (by omega), if_pos (by assumption)]; done)
            | (rw [if_pos (by assumption), if_neg (by omega), if_neg (by assumption), wrap_om (by omega) (by omega)]; done)
            | (rw [if_pos (by assumption), if_pos (by omega)]
               have ht := (by assumption : (wideInt (a * b / d)).2 = true)
               exact Prod.ext rfl ht.symm)
            | (simp_all; done)))
      | (refine endS_ib (t := (mulDivUp a b d)) hr ?_; rw [mulDivUp, if_neg (by assumption)])
  · cases hF

-- fixFloor
def fixFloor (a d : Int) : Int × Bool := fixed (mulDiv a 4294967296 d).1 (mulDiv a 4294967296 d).2
def fixCeil (a d : Int) : Int × Bool := fixed (mulDivUp a 4294967296 d).1 (mulDivUp a 4294967296 d).2
def F_fixFloor : FT
  | [.c (.p (.int .i64 a)), .c (.p (.int .i64 d))], _ => some (inR a ∧ inR d, .tup [.c (.p (.int .i64 ((fixFloor a d).1))), .c (.p (.bool ((fixFloor a d).2)))], [])
  | _, _ => none
theorem F_fixFloor_eq {a : Int} {d : Int} {g : List PC} : F_fixFloor [.c (.p (.int .i64 a)), .c (.p (.int .i64 d))] g = some (inR a ∧ inR d, .tup [.c (.p (.int .i64 ((fixFloor a d).1))), .c (.p (.bool ((fixFloor a d).2)))], []) := rfl
def F_fixCeil : FT
  | [.c (.p (.int .i64 a)), .c (.p (.int .i64 d))], _ => some (inR a ∧ inR d, .tup [.c (.p (.int .i64 ((fixCeil a d).1))), .c (.p (.bool ((fixCeil a d).2)))], [])
  | _, _ => none
theorem F_fixCeil_eq {a : Int} {d : Int} {g : List PC} : F_fixCeil [.c (.p (.int .i64 a)), .c (.p (.int .i64 d))] g = some (inR a ∧ inR d, .tup [.c (.p (.int .i64 ((fixCeil a d).1))), .c (.p (.bool ((fixCeil a d).2)))], []) := rfl

-- impl.FixFloor
theorem impl_FixFloor_fixFloor_ok : Fn Tryz.prog 70 F_fixFloor := by
  refine fn_of_go (O := orc [⟨77, F_fixed, .inl impl_fixed_fixed_ok⟩, ⟨79, F_mulDiv, .inl impl_MulDivFloor_mulDiv_ok⟩]) mixed T_ok (orc_sound _) Tryz.func70 (by kernel_rfl) rfl Tryz.ntmps70 (by kernel_rfl) Tryz.results70 ?_
  intro args g pre r new hF hpre
  unfold F_fixFloor at hF
  split at hF
  · rename_i a d
    simp only [Option.some.injEq, Prod.mk.injEq] at hF
    obtain ⟨rfl, hr, rfl⟩ := hF
    refine ⟨by simp, ?_⟩
    simp (config := { maxSteps := 4000000, implicitDefEqProofs := false }) only [F_fixed_eq, F_mulDiv_eq, WK0, WK1, WK2, WK3, WK4, WK5, WK6, WK7, WK8, WK9, WK10, WK11, WK12, WK13, WK14, WK15, WK16, WK17, WK18, WK19, WK20, WK21, WK22, WK23, WK24, WK25, WK26, WK27, WK28, WK29, WK30, look_hit, look_miss, List.map_cons, List.map_nil, Nat.add_zero, max_v, min_v, ↓cnd_t, ↓cnd_f, ↓grd_b, ↓grd_u, startEnv, Option.map_some, List.length_nil, List.length_cons, List.nil_append, List.cons_append, List.getElem?_cons_zero, List.getElem?_cons_succ, List.set_cons_zero, List.set_cons_succ, Bool.not_true, Bool.not_false, reduceIte, Nat.reduceEqDiff, Nat.reduceAdd, Nat.reduceLT, blt_lit, beq_lit, Bool.or_true, Bool.true_or, Bool.or_false, Bool.false_or, Bool.and_true, Bool.true_and, Bool.and_self, cond_true, cond_false, List.append_nil, Iv.eta, Option.map_none, idxO_l0, idxO_l1, decide_true, decide_false, reqs_true, Int.zero_sub, wrap_lit, wrapu_lit, Int.reduceLE, Int.reduceLT, Int.reduceAdd, Int.reduceSub, Int.reduceMul, Int.reduceNeg, Int.reduceEq, Option.bind_some, bin_shr_u64, bin_shl_u64, bin_shr_i64, bin_shl_i64, and_m32', Int.reduceToNat, Int.reducePow, Int.reduceMod, Int.reduceDiv, wrap_u64s, true_or, or_true, true_and, and_true, Option.isSome_none, Option.isSome_some, Nat.reduceLeDiff, Nat.reduceMul, Int.toNat_natCast, Int.cast_ofNat_Int, Int.natCast_zero, Int.natCast_one, List.isEmpty_nil, List.isEmpty_cons, List.replicate_zero, List.replicate_succ, T1, T2, T3, T4, T5, T6, T9, T10, T11, T12, T21, T22, T23, T25, T26, T27, T28, T29, T30, T32, T33, T34, T35, T36, T37, T38, T39, T40, T41, T42, T43, T44, T46, T48, T50, T52, T53, T54, T55, T56, T57, T58, T59, T61, T62, T63, T64, T65, T66, T67, T68, T69, T70, T71, T72, T73, T74, T75, T76, T77, T78, T79, T80, T81, T82, T83, T84, T85, T87, T89, T91, T92, T93, T95, T96, T97, T98, T102, T103, T105, T107, T108, T109, T110, T112, T116, T120, T121, T122, T123, T124, T125, T126, T128, T130, T131, T132, T134, T135, T136, T137, T138, T140, T142, T143, T145, T146, T148, T149, T150, T152, T153, T154, T155, T156, T163, T164, T165, T166, T167]
    repeat' (first | with_reducible refine cnd_split (fun hc => ?_) (fun hc => ?_) | with_reducible refine Reqs.mk ?_ ?_)
    all_goals first
      | (refine ⟨hpre.1, ?_, hpre.2⟩; unfold inR; omega)
      | exact endS_ib (t := (fixFloor a d)) hr rfl
  · cases hF

-- impl.FixCeil
theorem impl_FixCeil_fixCeil_ok : Fn Tryz.prog 72 F_fixCeil := by
  refine fn_of_go (O := orc [⟨77, F_fixed, .inl impl_fixed_fixed_ok⟩, ⟨92, F_mulDivUp, .inl impl_mulDivCeil_mulDivUp_ok⟩]) mixed T_ok (orc_sound _) Tryz.func72 (by kernel_rfl) rfl Tryz.ntmps72 (by kernel_rfl) Tryz.results72 ?_
  intro args g pre r new hF hpre
  unfold F_fixCeil at hF
  split at hF
  · rename_i a d
    simp only [Option.some.injEq, Prod.mk.injEq] at hF
    obtain ⟨rfl, hr, rfl⟩ := hF
    refine ⟨by simp, ?_⟩
    simp (config := { maxSteps := 4000000, implicitDefEqProofs := false }) only [F_fixed_eq, F_mulDivUp_eq, WK0, WK1, WK2, WK3, WK4, WK5, WK6, WK7, WK8, WK9, WK10, WK11, WK12, WK13, WK14, WK15, WK16, WK17, WK18, WK19, WK20, WK21, WK22, WK23, WK24, WK25, WK26, WK27, WK28, WK29, WK30, look_hit, look_miss, List.map_cons, List.map_nil, Nat.add_zero, max_v, min_v, ↓cnd_t, ↓cnd_f, ↓grd_b, ↓grd_u, startEnv, Option.map_some, List.length_nil, List.length_cons, List.nil_append, List.cons_append, List.getElem?_cons_zero, List.getElem?_cons_succ, List.set_cons_zero, List.set_cons_succ, Bool.not_true, Bool.not_false, reduceIte, Nat.reduceEqDiff, Nat.reduceAdd, Nat.reduceLT, blt_lit, beq_lit, Bool.or_true, Bool.true_or, Bool.or_false, Bool.false_or, Bool.and_true, Bool.true_and, Bool.and_self, cond_true, cond_false, List.append_nil, Iv.eta, Option.map_none, idxO_l0, idxO_l1, decide_true, decide_false, reqs_true, Int.zero_sub, wrap_lit, wrapu_lit, Int.reduceLE, Int.reduceLT, Int.reduceAdd, Int.reduceSub, Int.reduceMul, Int.reduceNeg, Int.reduceEq, Option.bind_some, bin_shr_u64, bin_shl_u64, bin_shr_i64, bin_shl_i64, and_m32', Int.reduceToNat, Int.reducePow, Int.reduceMod, Int.reduceDiv, wrap_u64s, true_or, or_true, true_and, and_true, Option.isSome_none, Option.isSome_some, Nat.reduceLeDiff, Nat.reduceMul, Int.toNat_natCast, Int.cast_ofNat_Int, Int.natCast_zero, Int.natCast_one, List.isEmpty_nil, List.isEmpty_cons, List.replicate_zero, List.replicate_succ, T1, T2, T3, T4, T5, T6, T9, T10, T11, T12, T21, T22, T23, T25, T26, T27, T28, T29, T30, T32, T33, T34, T35, T36, T37, T38, T39, T40, T41, T42, T43, T44, T46, T48, T50, T52, T53, T54, T55, T56, T57, T58, T59, T61, T62, T63, T64, T65, T66, T67, T68, T69, T70, T71, T72, T73, T74, T75, T76, T77, T78, T79, T80, T81, T82, T83, T84, T85, T87, T89, T91, T92, T93, T95, T96, T97, T98, T102, T103, T105, T107, T108, T109, T110, T112, T116, T120, T121, T122, T123, T124, T125, T126, T128, T130, T131, T132, T134, T135, T136, T137, T138, T140, T142, T143, T145, T146, T148, T149, T150, T152, T153, T154, T155, T156, T163, T164, T165, T166, T167]
    repeat' (first | with_reducible refine cnd_split (fun hc => ?_) (fun hc => ?_) | with_reducible refine Reqs.mk ?_ ?_)
    all_goals first
      | (refine ⟨hpre.1, ?_, hpre.2⟩; unfold inR; omega)
      | exact endS_ib (t := (fixCeil a d)) hr rfl
  · cases hF

-- divDown
def divDown (a b : Int) : Int × Bool := if fixOk a && fixOk b then (if b < 0 then fixed (mulDiv (-a) 4294967296 (-b)).1 (mulDiv (-a) 4294967296 (-b)).2 else fixed (mulDiv a 4294967296 b).1 (mulDiv a 4294967296 b).2) else (0, false)
def divUp (a b : Int) : Int × Bool := if fixOk a && fixOk b then (-(divDown (-a) b).1, (divDown (-a) b).2) else (0, false)
def F_divDown : FT
  | [.c (.p (.int .i64 a)), .c (.p (.int .i64 b))], _ => some (True, .tup [.c (.p (.int .i64 ((divDown a b).1))), .c (.p (.bool ((divDown a b).2)))], [])
  | _, _ => none
theorem F_divDown_eq {a : Int} {b : Int} {g : List PC} : F_divDown [.c (.p (.int .i64 a)), .c (.p (.int .i64 b))] g = some (True, .tup [.c (.p (.int .i64 ((divDown a b).1))), .c (.p (.bool ((divDown a b).2)))], []) := rfl
def F_divUp : FT
  | [.c (.p (.int .i64 a)), .c (.p (.int .i64 b))], _ => some (True, .tup [.c (.p (.int .i64 ((divUp a b).1))), .c (.p (.bool ((divUp a b).2)))], [])
  | _, _ => none
theorem F_divUp_eq {a : Int} {b : Int} {g : List PC} : F_divUp [.c (.p (.int .i64 a)), .c (.p (.int .i64 b))] g = some (True, .tup [.c (.p (.int .i64 ((divUp a b).1))), .c (.p (.bool ((divUp a b).2)))], []) := rfl
theorem divDown_bd (a b : Int) : -1152921504606846976 ≤ (divDown a b).1 ∧ (divDown a b).1 ≤ 1152921504606846976 := by
  unfold divDown
  split
  · split <;> exact fixed_bd _ _
  · simp only; omega
theorem divUp_bd (a b : Int) : -1152921504606846976 ≤ (divUp a b).1 ∧ (divUp a b).1 ≤ 1152921504606846976 := by
  unfold divUp
  have := divDown_bd (-a) b
  split <;> simp only <;> omega
theorem wnegV {a b : Int} : IntKind.i64.wrap (-(divDown a b).1) = -(divDown a b).1 := by
  have := divDown_bd a b; exact wrap_om (by omega) (by omega)
theorem divDown_f {a b : Int} (h : fixOk b = false) : divDown a b = (0, false) := by simp [divDown, h]
theorem divDown_0 {a : Int} : divDown a 0 = (0, false) := by
  unfold divDown
  split
  · rw [if_neg (by omega)]
    simp [mulDiv, fixed]
  · rfl
theorem fix_in2 {n : Int} (h : fixOk n = true) : inR n ∧ inR (-n) ∧ IntKind.i64.wrap (-n) = -n := by
  have h1 := wneg h
  rw [fixOk_iff] at h; unfold inR; omega

-- impl.DivDown
theorem impl_DivDown_divDown_ok : Fn Tryz.prog 53 F_divDown := by
  refine fn_of_go (O := orc [⟨76, F_fixOk, .inl impl_ValidFix_fixOk_ok⟩, ⟨77, F_fixed, .inl impl_fixed_fixed_ok⟩, ⟨79, F_mulDiv, .inl impl_MulDivFloor_mulDiv_ok⟩]) mixed T_ok (orc_sound _) Tryz.func53 (by kernel_rfl) rfl Tryz.ntmps53 (by kernel_rfl) Tryz.results53 ?_
  intro args g pre r new hF hpre
  unfold F_divDown at hF
  split at hF
  · rename_i a b
    simp only [Option.some.injEq, Prod.mk.injEq] at hF
    obtain ⟨rfl, hr, rfl⟩ := hF
    refine ⟨by simp, ?_⟩
    simp (config := { maxSteps := 4000000, implicitDefEqProofs := false }) only [F_fixOk_eq, F_fixed_eq, F_mulDiv_eq, WK0, WK1, WK2, WK3, WK4, WK5, WK6, WK7, WK8, WK9, WK10, WK11, WK12, WK13, WK14, WK15, WK16, WK17, WK18, WK19, WK20, WK21, WK22, WK23, WK24, WK25, WK26, WK27, WK28, WK29, WK30, look_hit, look_miss, List.map_cons, List.map_nil, Nat.add_zero, max_v, min_v, ↓cnd_t, ↓cnd_f, ↓grd_b, ↓grd_u, startEnv, Option.map_some, List.length_nil, List.length_cons, List.nil_append, List.cons_append, List.getElem?_cons_zero, List.getElem?_cons_succ, List.set_cons_zero, List.set_cons_succ, Bool.not_true, Bool.not_false, reduceIte, Nat.reduceEqDiff, Nat.reduceAdd, Nat.reduceLT, blt_lit, beq_lit, Bool.or_true, Bool.true_or, Bool.or_false, Bool.false_or, Bool.and_true, Bool.true_and, Bool.and_self, cond_true, cond_false, List.append_nil, Iv.eta, Option.map_none, idxO_l0, idxO_l1, decide_true, decide_false, reqs_true, Int.zero_sub, wrap_lit, wrapu_lit, Int.reduceLE, Int.reduceLT, Int.reduceAdd, Int.reduceSub, Int.reduceMul, Int.reduceNeg, Int.reduceEq, Option.bind_some, bin_shr_u64, bin_shl_u64, bin_shr_i64, bin_shl_i64, and_m32', Int.reduceToNat, Int.reducePow, Int.reduceMod, Int.reduceDiv, wrap_u64s, true_or, or_true, true_and, and_true, Option.isSome_none, Option.isSome_some, Nat.reduceLeDiff, Nat.reduceMul, Int.toNat_natCast, Int.cast_ofNat_Int, Int.natCast_zero, Int.natCast_one, List.isEmpty_nil, List.isEmpty_cons, List.replicate_zero, List.replicate_succ, T1, T2, T3, T4, T5, T6, T9, T10, T11, T12, T21, T22, T23, T25, T26, T27, T28, T29, T30, T32, T33, T34, T35, T36, T37, T38, T39, T40, T41, T42, T43, T44, T46, T48, T50, T52, T53, T54, T55, T56, T57, T58, T59, T61, T62, T63, T64, T65, T66, T67, T68, T69, T70, T71, T72, T73, T74, T75, T76, T77, T78, T79, T80, T81, T82, T83, T84, T85, T87, T89, T91, T92, T93, T95, T96, T97, T98, T102, T103, T105, T107, T108, T109, T110, T112, T116, T120, T121, T122, T123, T124, T125, T126, T128, T130, T131, T132, T134, T135, T136, T137, T138, T140, T142, T143, T145, T146, T148, T149, T150, T152, T153, T154, T155, T156, T163, T164, T165, T166, T167]
    repeat' (first | with_reducible refine cnd_split (fun hc => ?_) (fun hc => ?_) | with_reducible refine Reqs.mk ?_ ?_)
    all_goals (try simp only [decide_eq_true_eq, decide_eq_false_iff_not] at *)
    all_goals first
      | (refine endS_ib (t := (divDown a b)) hr ?_; simp only [divDown]; simp_all; done)
      | (have h1 := @fix_in2 a (by assumption)
         have h2 := @fix_in2 b (by assumption)
         try simp only [h1.2.2, h2.2.2]
         first
         | (refine ⟨h1.1, ?_, h2.1⟩; unfold inR; omega)
         | (refine ⟨h1.2.1, ?_, h2.2.1⟩; unfold inR; omega)
         | (refine endS_ib (t := (divDown a b)) hr ?_; rw [divDown, if_pos (by simp only [Bool.and_eq_true]; exact ⟨by assumption, by assumption⟩), if_neg (by omega)])
         | (refine endS_ib (t := (divDown a b)) hr ?_; rw [divDown, if_pos (by simp only [Bool.and_eq_true]; exact ⟨by assumption, by assumption⟩), if_pos (by omega)]))
  · cases hF

-- impl.DivUp
theorem impl_DivUp_divUp_ok : Fn Tryz.prog 54 F_divUp := by
  refine fn_of_go (O := orc [⟨53, F_divDown, .inl impl_DivDown_divDown_ok⟩, ⟨76, F_fixOk, .inl impl_ValidFix_fixOk_ok⟩]) mixed T_ok (orc_sound _) Tryz.func54 (by kernel_rfl) rfl Tryz.ntmps54 (by kernel_rfl) Tryz.results54 ?_
  intro args g pre r new hF hpre
  unfold F_divUp at hF
  split at hF
  · rename_i a b
    simp only [Option.some.injEq, Prod.mk.injEq] at hF
    obtain ⟨rfl, hr, rfl⟩ := hF
    refine ⟨by simp, ?_⟩
    simp (config := { maxSteps := 4000000, implicitDefEqProofs := false }) only [F_divDown_eq, F_fixOk_eq, WK0, WK1, WK2, WK3, WK4, WK5, WK6, WK7, WK8, WK9, WK10, WK11, WK12, WK13, WK14, WK15, WK16, WK17, WK18, WK19, WK20, WK21, WK22, WK23, WK24, WK25, WK26, WK27, WK28, WK29, WK30, look_hit, look_miss, List.map_cons, List.map_nil, Nat.add_zero, max_v, min_v, ↓cnd_t, ↓cnd_f, ↓grd_b, ↓grd_u, startEnv, Option.map_some, List.length_nil, List.length_cons, List.nil_append, List.cons_append, List.getElem?_cons_zero, List.getElem?_cons_succ, List.set_cons_zero, List.set_cons_succ, Bool.not_true, Bool.not_false, reduceIte, Nat.reduceEqDiff, Nat.reduceAdd, Nat.reduceLT, blt_lit, beq_lit, Bool.or_true, Bool.true_or, Bool.or_false, Bool.false_or, Bool.and_true, Bool.true_and, Bool.and_self, cond_true, cond_false, List.append_nil, Iv.eta, Option.map_none, idxO_l0, idxO_l1, decide_true, decide_false, reqs_true, Int.zero_sub, wrap_lit, wrapu_lit, Int.reduceLE, Int.reduceLT, Int.reduceAdd, Int.reduceSub, Int.reduceMul, Int.reduceNeg, Int.reduceEq, Option.bind_some, bin_shr_u64, bin_shl_u64, bin_shr_i64, bin_shl_i64, and_m32', Int.reduceToNat, Int.reducePow, Int.reduceMod, Int.reduceDiv, wrap_u64s, true_or, or_true, true_and, and_true, Option.isSome_none, Option.isSome_some, Nat.reduceLeDiff, Nat.reduceMul, Int.toNat_natCast, Int.cast_ofNat_Int, Int.natCast_zero, Int.natCast_one, List.isEmpty_nil, List.isEmpty_cons, List.replicate_zero, List.replicate_succ, T1, T2, T3, T4, T5, T6, T9, T10, T11, T12, T21, T22, T23, T25, T26, T27, T28, T29, T30, T32, T33, T34, T35, T36, T37, T38, T39, T40, T41, T42, T43, T44, T46, T48, T50, T52, T53, T54, T55, T56, T57, T58, T59, T61, T62, T63, T64, T65, T66, T67, T68, T69, T70, T71, T72, T73, T74, T75, T76, T77, T78, T79, T80, T81, T82, T83, T84, T85, T87, T89, T91, T92, T93, T95, T96, T97, T98, T102, T103, T105, T107, T108, T109, T110, T112, T116, T120, T121, T122, T123, T124, T125, T126, T128, T130, T131, T132, T134, T135, T136, T137, T138, T140, T142, T143, T145, T146, T148, T149, T150, T152, T153, T154, T155, T156, T163, T164, T165, T166, T167]
    repeat' (first | with_reducible refine cnd_split (fun hc => ?_) (fun hc => ?_) | with_reducible refine Reqs.mk ?_ ?_)
    all_goals (refine endS_ib (t := (divUp a b)) hr ?_; first | (simp_all [divUp]; done) | skip)
    rw [wnegV, wneg (by assumption)]
    simp_all [divUp]
  · cases hF

-- divI
def divI (a b : Iv) : Iv := if okI a && okI b && !within 0 b.lo b.hi then comb divDown divUp a b else whole
def F_combD : FT
  | [.agg [.int .i64 a1, .int .i64 a2], .agg [.int .i64 b1, .int .i64 b2], .c (.p (.fn 53)), .c (.p (.fn 54))], _ => some (True, .v (.agg [.int .i64 ((comb divDown divUp (Iv.mk a1 a2) (Iv.mk b1 b2))).lo, .int .i64 ((comb divDown divUp (Iv.mk a1 a2) (Iv.mk b1 b2))).hi]), [])
  | _, _ => none
theorem F_combD_eq {a1 : Int} {a2 : Int} {b1 : Int} {b2 : Int} {g : List PC} : F_combD [.agg [.int .i64 a1, .int .i64 a2], .agg [.int .i64 b1, .int .i64 b2], .c (.p (.fn 53)), .c (.p (.fn 54))] g = some (True, .v (.agg [.int .i64 ((comb divDown divUp (Iv.mk a1 a2) (Iv.mk b1 b2))).lo, .int .i64 ((comb divDown divUp (Iv.mk a1 a2) (Iv.mk b1 b2))).hi]), []) := rfl
def F_divI : FT
  | [.agg [.int .i64 a1, .int .i64 a2], .agg [.int .i64 b1, .int .i64 b2]], _ => some (True, .v (.agg [.int .i64 ((divI (Iv.mk a1 a2) (Iv.mk b1 b2))).lo, .int .i64 ((divI (Iv.mk a1 a2) (Iv.mk b1 b2))).hi]), [])
  | _, _ => none
theorem F_divI_eq {a1 : Int} {a2 : Int} {b1 : Int} {b2 : Int} {g : List PC} : F_divI [.agg [.int .i64 a1, .int .i64 a2], .agg [.int .i64 b1, .int .i64 b2]] g = some (True, .v (.agg [.int .i64 ((divI (Iv.mk a1 a2) (Iv.mk b1 b2))).lo, .int .i64 ((divI (Iv.mk a1 a2) (Iv.mk b1 b2))).hi]), []) := rfl
theorem minV {a b : Int} : min 1152921504606846976 (divDown a b).1 = (divDown a b).1 := by
  have := divDown_bd a b; omega
theorem maxV {a b : Int} : max (-1152921504606846976) (divUp a b).1 = (divUp a b).1 := by
  have := divUp_bd a b; omega

-- impl.combine2
theorem impl_combine_combD_ok : Fn Tryz.prog 50 F_combD := by
  refine fn_of_go (O := orc [⟨36, F_whole, .inl impl_Whole_whole_ok⟩, ⟨53, F_divDown, .inl impl_DivDown_divDown_ok⟩, ⟨54, F_divUp, .inl impl_DivUp_divUp_ok⟩, ⟨57, F_bounded, .inl impl_bounded_bounded_ok⟩]) mixed T_ok (orc_sound _) Tryz.func50 (by kernel_rfl) rfl Tryz.ntmps50 (by kernel_rfl) Tryz.results50 ?_
  intro args g pre r new hF hpre
  unfold F_combD at hF
  split at hF
  · rename_i a1 a2 b1 b2
    simp only [Option.some.injEq, Prod.mk.injEq] at hF
    obtain ⟨rfl, hr, rfl⟩ := hF
    refine ⟨by simp, ?_⟩
    simp (config := { maxSteps := 4000000, implicitDefEqProofs := false }) only [F_bounded_eq, F_divDown_eq, F_divUp_eq, F_whole_eq, WK0, WK1, WK2, WK3, WK4, WK5, WK6, WK7, WK8, WK9, WK10, WK11, WK12, WK13, WK14, WK15, WK16, WK17, WK18, WK19, WK20, WK21, WK22, WK23, WK24, WK25, WK26, WK27, WK28, WK29, WK30, look_hit, look_miss, List.map_cons, List.map_nil, Nat.add_zero, max_v, min_v, ↓cnd_t, ↓cnd_f, ↓grd_b, ↓grd_u, startEnv, Option.map_some, List.length_nil, List.length_cons, List.nil_append, List.cons_append, List.getElem?_cons_zero, List.getElem?_cons_succ, List.set_cons_zero, List.set_cons_succ, Bool.not_true, Bool.not_false, reduceIte, Nat.reduceEqDiff, Nat.reduceAdd, Nat.reduceLT, blt_lit, beq_lit, Bool.or_true, Bool.true_or, Bool.or_false, Bool.false_or, Bool.and_true, Bool.true_and, Bool.and_self, cond_true, cond_false, List.append_nil, Iv.eta, Option.map_none, idxO_l0, idxO_l1, decide_true, decide_false, reqs_true, Int.zero_sub, wrap_lit, wrapu_lit, Int.reduceLE, Int.reduceLT, Int.reduceAdd, Int.reduceSub, Int.reduceMul, Int.reduceNeg, Int.reduceEq, Option.bind_some, bin_shr_u64, bin_shl_u64, bin_shr_i64, bin_shl_i64, and_m32', Int.reduceToNat, Int.reducePow, Int.reduceMod, Int.reduceDiv, wrap_u64s, true_or, or_true, true_and, and_true, Option.isSome_none, Option.isSome_some, Nat.reduceLeDiff, Nat.reduceMul, Int.toNat_natCast, Int.cast_ofNat_Int, Int.natCast_zero, Int.natCast_one, List.isEmpty_nil, List.isEmpty_cons, List.replicate_zero, List.replicate_succ, T1, T2, T3, T4, T5, T6, T9, T10, T11, T12, T21, T22, T23, T25, T26, T27, T28, T29, T30, T32, T33, T34, T35, T36, T37, T38, T39, T40, T41, T42, T43, T44, T46, T48, T50, T52, T53, T54, T55, T56, T57, T58, T59, T61, T62, T63, T64, T65, T66, T67, T68, T69, T70, T71, T72, T73, T74, T75, T76, T77, T78, T79, T80, T81, T82, T83, T84, T85, T87, T89, T91, T92, T93, T95, T96, T97, T98, T102, T103, T105, T107, T108, T109, T110, T112, T116, T120, T121, T122, T123, T124, T125, T126, T128, T130, T131, T132, T134, T135, T136, T137, T138, T140, T142, T143, T145, T146, T148, T149, T150, T152, T153, T154, T155, T156, T163, T164, T165, T166, T167]
    try simp (config := { maxSteps := 4000000, implicitDefEqProofs := false }) only [F_bounded_eq, F_divDown_eq, F_divUp_eq, F_whole_eq, WK0, WK1, WK2, WK3, WK4, WK5, WK6, WK7, WK8, WK9, WK10, WK11, WK12, WK13, WK14, WK15, WK16, WK17, WK18, WK19, WK20, WK21, WK22, WK23, WK24, WK25, WK26, WK27, WK28, WK29, WK30, look_hit, look_miss, List.map_cons, List.map_nil, Nat.add_zero, max_v, min_v, ↓cnd_t, ↓cnd_f, ↓grd_b, ↓grd_u, startEnv, Option.map_some, List.length_nil, List.length_cons, List.nil_append, List.cons_append, List.getElem?_cons_zero, List.getElem?_cons_succ, List.set_cons_zero, List.set_cons_succ, Bool.not_true, Bool.not_false, reduceIte, Nat.reduceEqDiff, Nat.reduceAdd, Nat.reduceLT, blt_lit, beq_lit, Bool.or_true, Bool.true_or, Bool.or_false, Bool.false_or, Bool.and_true, Bool.true_and, Bool.and_self, cond_true, cond_false, List.append_nil, Iv.eta, Option.map_none, idxO_l0, idxO_l1, decide_true, decide_false, reqs_true, Int.zero_sub, wrap_lit, wrapu_lit, Int.reduceLE, Int.reduceLT, Int.reduceAdd, Int.reduceSub, Int.reduceMul, Int.reduceNeg, Int.reduceEq, Option.bind_some, bin_shr_u64, bin_shl_u64, bin_shr_i64, bin_shl_i64, and_m32', Int.reduceToNat, Int.reducePow, Int.reduceMod, Int.reduceDiv, wrap_u64s, true_or, or_true, true_and, and_true, Option.isSome_none, Option.isSome_some, Nat.reduceLeDiff, Nat.reduceMul, Int.toNat_natCast, Int.cast_ofNat_Int, Int.natCast_zero, Int.natCast_one, List.isEmpty_nil, List.isEmpty_cons, List.replicate_zero, List.replicate_succ, T1, T2, T3, T4, T5, T6, T9, T10, T11, T12, T21, T22, T23, T25, T26, T27, T28, T29, T30, T32, T33, T34, T35, T36, T37, T38, T39, T40, T41, T42, T43, T44, T46, T48, T50, T52, T53, T54, T55, T56, T57, T58, T59, T61, T62, T63, T64, T65, T66, T67, T68, T69, T70, T71, T72, T73, T74, T75, T76, T77, T78, T79, T80, T81, T82, T83, T84, T85, T87, T89, T91, T92, T93, T95, T96, T97, T98, T102, T103, T105, T107, T108, T109, T110, T112, T116, T120, T121, T122, T123, T124, T125, T126, T128, T130, T131, T132, T134, T135, T136, T137, T138, T140, T142, T143, T145, T146, T148, T149, T150, T152, T153, T154, T155, T156, T163, T164, T165, T166, T167, go_turn_eq, again_n, again_r, again_e]
    repeat' (first | with_reducible refine cnd_split (fun hc => ?_) (fun hc => ?_) | with_reducible refine Reqs.mk ?_ ?_)
    all_goals (refine endS_v (t := (comb divDown divUp (Iv.mk a1 a2) (Iv.mk b1 b2))) hr ?_; simp_all [comb, Int.min_self, Int.max_self])
  · cases hF

-- impl.DivI
theorem impl_DivI_divI_ok : Fn Tryz.prog 14 F_divI := by
  refine fn_of_go (O := orc [⟨10, F_hasI, .inl impl_HasI_hasI_ok⟩, ⟨36, F_whole, .inl impl_Whole_whole_ok⟩, ⟨49, F_areOk, .inl impl_areBounded_areOk_ok⟩, ⟨50, F_combD, .inl impl_combine_combD_ok⟩, ⟨53, F_divDown, .inl impl_DivDown_divDown_ok⟩, ⟨54, F_divUp, .inl impl_DivUp_divUp_ok⟩]) mixed T_ok (orc_sound _) Tryz.func14 (by kernel_rfl) rfl Tryz.ntmps14 (by kernel_rfl) Tryz.results14 ?_
  intro args g pre r new hF hpre
  unfold F_divI at hF
  split at hF
  · rename_i a1 a2 b1 b2
    simp only [Option.some.injEq, Prod.mk.injEq] at hF
    obtain ⟨rfl, hr, rfl⟩ := hF
    refine ⟨by simp, ?_⟩
    simp (config := { maxSteps := 4000000, implicitDefEqProofs := false }) only [F_areOk_eq, F_combD_eq, F_divDown_eq, F_divUp_eq, F_hasI_eq, F_whole_eq, WK0, WK1, WK2, WK3, WK4, WK5, WK6, WK7, WK8, WK9, WK10, WK11, WK12, WK13, WK14, WK15, WK16, WK17, WK18, WK19, WK20, WK21, WK22, WK23, WK24, WK25, WK26, WK27, WK28, WK29, WK30, look_hit, look_miss, List.map_cons, List.map_nil, Nat.add_zero, max_v, min_v, ↓cnd_t, ↓cnd_f, ↓grd_b, ↓grd_u, startEnv, Option.map_some, List.length_nil, List.length_cons, List.nil_append, List.cons_append, List.getElem?_cons_zero, List.getElem?_cons_succ, List.set_cons_zero, List.set_cons_succ, Bool.not_true, Bool.not_false, reduceIte, Nat.reduceEqDiff, Nat.reduceAdd, Nat.reduceLT, blt_lit, beq_lit, Bool.or_true, Bool.true_or, Bool.or_false, Bool.false_or, Bool.and_true, Bool.true_and, Bool.and_self, cond_true, cond_false, List.append_nil, Iv.eta, Option.map_none, idxO_l0, idxO_l1, decide_true, decide_false, reqs_true, Int.zero_sub, wrap_lit, wrapu_lit, Int.reduceLE, Int.reduceLT, Int.reduceAdd, Int.reduceSub, Int.reduceMul, Int.reduceNeg, Int.reduceEq, Option.bind_some, bin_shr_u64, bin_shl_u64, bin_shr_i64, bin_shl_i64, and_m32', Int.reduceToNat, Int.reducePow, Int.reduceMod, Int.reduceDiv, wrap_u64s, true_or, or_true, true_and, and_true, Option.isSome_none, Option.isSome_some, Nat.reduceLeDiff, Nat.reduceMul, Int.toNat_natCast, Int.cast_ofNat_Int, Int.natCast_zero, Int.natCast_one, List.isEmpty_nil, List.isEmpty_cons, List.replicate_zero, List.replicate_succ, T1, T2, T3, T4, T5, T6, T9, T10, T11, T12, T21, T22, T23, T25, T26, T27, T28, T29, T30, T32, T33, T34, T35, T36, T37, T38, T39, T40, T41, T42, T43, T44, T46, T48, T50, T52, T53, T54, T55, T56, T57, T58, T59, T61, T62, T63, T64, T65, T66, T67, T68, T69, T70, T71, T72, T73, T74, T75, T76, T77, T78, T79, T80, T81, T82, T83, T84, T85, T87, T89, T91, T92, T93, T95, T96, T97, T98, T102, T103, T105, T107, T108, T109, T110, T112, T116, T120, T121, T122, T123, T124, T125, T126, T128, T130, T131, T132, T134, T135, T136, T137, T138, T140, T142, T143, T145, T146, T148, T149, T150, T152, T153, T154, T155, T156, T163, T164, T165, T166, T167]
    repeat' (first | with_reducible refine cnd_split (fun hc => ?_) (fun hc => ?_) | with_reducible refine Reqs.mk ?_ ?_)
    all_goals (refine endS_v (t := (divI (Iv.mk a1 a2) (Iv.mk b1 b2))) hr ?_; simp_all [divI])
  · cases hF

end Go.Proofs.YtcnapkdccjibpaaGreatDoor.Eng
