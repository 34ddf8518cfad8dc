/- What functions of the program compute, and that the program computes it: part 9. -/
import Derived.Test.YtcnapkdccjibpaaGreatDoorTab
import Derived.Test.YtcnapkdccjibpaaGreatDoorEng16
import Derived.Laws.BitsLemmas
import Derived.Laws.Bits64
import Derived.Laws.Bits64b
import Derived.Lib.Mul64
import Derived.Lib.BitFns
import Derived.Laws.Externs
import Derived.Test.YtcnapkdccjibpaaGreatDoorL1
import Derived.Test.YtcnapkdccjibpaaGreatDoorL2
import Derived.Test.YtcnapkdccjibpaaGreatDoorL3
import Derived.Test.YtcnapkdccjibpaaGreatDoorL6
import Derived.Test.YtcnapkdccjibpaaGreatDoorL8
namespace Go.Proofs.YtcnapkdccjibpaaGreatDoor.Eng
open Go Go.RowKit
set_option linter.unusedVariables false
set_option linter.unusedSimpArgs false
set_option maxRecDepth 100000
set_option maxHeartbeats 1000000
-- addsub
def F_add64 : FT
  | [.c (.p (.int .u64 x)), .c (.p (.int .u64 y)), .c (.p (.int .u64 c))], _ => some (inU x ∧ inU y ∧ (c = 0 ∨ c = 1), .tup [.c (.p (.int .u64 ((((x + y + c) % 18446744073709551616, (x + y + c) / 18446744073709551616)).1))), .c (.p (.int .u64 ((((x + y + c) % 18446744073709551616, (x + y + c) / 18446744073709551616)).2)))], [])
  | _, _ => none
theorem F_add64_eq {x : Int} {y : Int} {c : Int} {g : List PC} : F_add64 [.c (.p (.int .u64 x)), .c (.p (.int .u64 y)), .c (.p (.int .u64 c))] g = some (inU x ∧ inU y ∧ (c = 0 ∨ c = 1), .tup [.c (.p (.int .u64 ((((x + y + c) % 18446744073709551616, (x + y + c) / 18446744073709551616)).1))), .c (.p (.int .u64 ((((x + y + c) % 18446744073709551616, (x + y + c) / 18446744073709551616)).2)))], []) := rfl
def F_sub64 : FT
  | [.c (.p (.int .u64 x)), .c (.p (.int .u64 y)), .c (.p (.int .u64 c))], _ => some (inU x ∧ inU y ∧ (c = 0 ∨ c = 1), .tup [.c (.p (.int .u64 ((((x - y - c) % 18446744073709551616, if x < y + c then 1 else 0)).1))), .c (.p (.int .u64 ((((x - y - c) % 18446744073709551616, if x < y + c then 1 else 0)).2)))], [])
  | _, _ => none
theorem F_sub64_eq {x : Int} {y : Int} {c : Int} {g : List PC} : F_sub64 [.c (.p (.int .u64 x)), .c (.p (.int .u64 y)), .c (.p (.int .u64 c))] g = some (inU x ∧ inU y ∧ (c = 0 ∨ c = 1), .tup [.c (.p (.int .u64 ((((x - y - c) % 18446744073709551616, if x < y + c then 1 else 0)).1))), .c (.p (.int .u64 ((((x - y - c) % 18446744073709551616, if x < y + c then 1 else 0)).2)))], []) := rfl

-- math/bits.Add64
theorem math_bits_Add64_add64_ok : Ext Tryz.prog 121 F_add64 := by
  intro args g pre r new hF hpre G w hG
  unfold F_add64 at hF
  split at hF
  · rename_i x y c
    simp only [Option.some.injEq, Prod.mk.injEq] at hF
    obtain ⟨rfl, rfl, rfl⟩ := hF
    obtain ⟨hx, hy, hc⟩ := hpre
    unfold inU at hx hy
    refine ⟨rfl, by simp [SV.res, AV.res, Cl.res], ?_⟩
    show (callFunc 121 #[.int .u64 x, .int .u64 y, .int .u64 c]).run Tryz.prog w = _
    rw [run_callFunc_extern Tryz.func121 (by kernel_rfl) (by kernel_rfl) (by kernel_rfl) (e := add64Entry) (by kernel_rfl), run_add64 x y c hx.1 hy.1 (by omega) (by omega)]
    rfl
  · cases hF

-- math/bits.Sub64
def sub64E : Array Value → Sem Value := fun args => do
  let (x, y, b) ← Extern.MathBitsCarry.three "Sub64" args
  pure (Extern.MathBitsCarry.pair ((x + Extern.MathBitsCarry.m64 - y - b) % Extern.MathBitsCarry.m64) (if x < y + b then 1 else 0))
theorem run_sub64E {P : Program} (x y b : Nat) (hb : b ≤ 1) (w : World) :
    (sub64E #[.int .u64 x, .int .u64 y, .int .u64 b]).run P w =
      .ok (.tuple #[.int .u64 (((x + 18446744073709551616 - y - b) % 18446744073709551616 : Nat) : Int), .int .u64 ((if x < y + b then 1 else 0 : Nat) : Int)]) w := by
  have : b = 0 ∨ b = 1 := by omega
  rcases this with rfl | rfl <;> rfl
theorem math_bits_Sub64_sub64_ok : Ext Tryz.prog 143 F_sub64 := by
  intro args g pre r new hF hpre G w hG
  unfold F_sub64 at hF
  split at hF
  · rename_i x y c
    simp only [Option.some.injEq, Prod.mk.injEq] at hF
    obtain ⟨rfl, rfl, rfl⟩ := hF
    obtain ⟨hx, hy, hc⟩ := hpre
    unfold inU at hx hy
    obtain ⟨a, rfl⟩ := natOf hx.1
    obtain ⟨b, rfl⟩ := natOf hy.1
    refine ⟨rfl, by simp [SV.res, AV.res, Cl.res], ?_⟩
    show (callFunc 143 #[.int .u64 (a : Int), .int .u64 (b : Int), .int .u64 c]).run Tryz.prog w = _
    have key : ∀ k : Nat, k ≤ 1 → ((sub64E #[.int .u64 (a : Int), .int .u64 (b : Int), .int .u64 (k : Int)]).run Tryz.prog w).andThen (fun v w' => Result.ok (Next.value v) w') =
        .ok (.value (SV.conc [] G (.tup [.c (.p (.int .u64 (((a : Int) - b - k) % 18446744073709551616))), .c (.p (.int .u64 (if (a : Int) < b + k then 1 else 0)))]))) w := by
      intro k hk
      rw [run_sub64E a b k hk w]
      have e1 : (((a + 18446744073709551616 - b - k) % 18446744073709551616 : Nat) : Int) = ((a : Int) - b - k) % 18446744073709551616 := by omega
      have e2 : ((if a < b + k then 1 else 0 : Nat) : Int) = if (a : Int) < b + k then 1 else 0 := by split <;> split <;> omega
      rw [e1, e2]
      rfl
    rw [run_callFunc_extern Tryz.func143 (by kernel_rfl) (by kernel_rfl) (by kernel_rfl) (e := sub64E) (by kernel_rfl)]
    rcases hc with rfl | rfl
    · exact key 0 (by omega)
    · exact key 1 (by omega)
  · cases hF

-- (impl.Wide).negative
theorem _impl_Wide__negative_minus_ok : Fn Tryz.prog 120 F_minus := by
  refine fn_of_go (O := orc [⟨143, F_sub64, .inr math_bits_Sub64_sub64_ok⟩]) mixed T_ok (orc_sound _) Tryz.func120 (by kernel_rfl) rfl Tryz.ntmps120 (by kernel_rfl) Tryz.results120 ?_
  intro args g pre r new hF hpre
  unfold F_minus at hF
  split at hF
  · rename_i w1 w2
    simp only [Option.some.injEq, Prod.mk.injEq] at hF
    obtain ⟨rfl, hr, rfl⟩ := hF
    refine ⟨by simp, ?_⟩
    simp (config := { maxSteps := 4000000, implicitDefEqProofs := false }) only [F_sub64_eq, WK0, WK1, WK2, WK3, WK4, WK5, WK6, WK7, WK8, WK9, WK10, WK11, WK12, WK13, WK14, WK15, WK16, WK17, WK18, WK19, WK20, WK21, WK22, WK23, WK24, WK25, WK26, WK27, WK28, WK29, WK30, look_hit, look_miss, List.map_cons, List.map_nil, Nat.add_zero, max_v, min_v, ↓cnd_t, ↓cnd_f, ↓grd_b, ↓grd_u, startEnv, Option.map_some, List.length_nil, List.length_cons, List.nil_append, List.cons_append, List.getElem?_cons_zero, List.getElem?_cons_succ, List.set_cons_zero, List.set_cons_succ, Bool.not_true, Bool.not_false, reduceIte, Nat.reduceEqDiff, Nat.reduceAdd, Nat.reduceLT, blt_lit, beq_lit, Bool.or_true, Bool.true_or, Bool.or_false, Bool.false_or, Bool.and_true, Bool.true_and, Bool.and_self, cond_true, cond_false, List.append_nil, Iv.eta, Option.map_none, idxO_l0, idxO_l1, decide_true, decide_false, reqs_true, Int.zero_sub, wrap_lit, wrapu_lit, Int.reduceLE, Int.reduceLT, Int.reduceAdd, Int.reduceSub, Int.reduceMul, Int.reduceNeg, Int.reduceEq, Option.bind_some, bin_shr_u64, bin_shl_u64, bin_shr_i64, bin_shl_i64, and_m32', Int.reduceToNat, Int.reducePow, Int.reduceMod, Int.reduceDiv, wrap_u64s, true_or, or_true, true_and, and_true, Option.isSome_none, Option.isSome_some, Nat.reduceLeDiff, Nat.reduceMul, Int.toNat_natCast, Int.cast_ofNat_Int, Int.natCast_zero, Int.natCast_one, List.isEmpty_nil, List.isEmpty_cons, List.replicate_zero, List.replicate_succ, T1, T2, T3, T4, T5, T6, T9, T10, T11, T12, T21, T22, T23, T25, T26, T27, T28, T29, T30, T32, T33, T34, T35, T36, T37, T38, T39, T40, T41, T42, T43, T44, T46, T48, T50, T52, T53, T54, T55, T56, T57, T58, T59, T61, T62, T63, T64, T65, T66, T67, T68, T69, T70, T71, T72, T73, T74, T75, T76, T77, T78, T79, T80, T81, T82, T83, T84, T85, T87, T89, T91, T92, T93, T95, T96, T97, T98, T102, T103, T105, T107, T108, T109, T110, T112, T116, T120, T121, T122, T123, T124, T125, T126, T128, T130, T131, T132, T134, T135, T136, T137, T138, T140, T142, T143, T145, T146, T148, T149, T150, T152, T153, T154, T155, T156, T163, T164, T165, T166, T167]
    unfold inR inU wv at hpre
    repeat' (first | with_reducible refine cnd_split (fun hc => ?_) (fun hc => ?_) | with_reducible refine Reqs.mk ?_ ?_)
    all_goals first
      | (unfold inU; omega)
      | (refine ⟨?_, ?_, ?_⟩ <;> first | (unfold inU; omega) | (split <;> omega))
      | (refine endS_w (t := (-(wv w1 w2))) hr ?_
         unfold whi wlo wv
         rw [IntKind.wrap_i64]
         simp only [Int.add_zero]
         split <;> omega)
  · cases hF

-- divide
def F_divide : FT
  | [.c (.p (.int .u64 hi)), .c (.p (.int .u64 lo)), .c (.p (.int .u64 d))], _ => some (inU hi ∧ inU lo ∧ 0 < d ∧ d < 9223372036854775808, .tup [.c (.p (.int .u64 (((hi / d, (hi % d * 18446744073709551616 + lo) / d, (hi % d * 18446744073709551616 + lo) % d)).1))), .c (.p (.int .u64 (((hi / d, (hi % d * 18446744073709551616 + lo) / d, (hi % d * 18446744073709551616 + lo) % d)).2.1))), .c (.p (.int .u64 (((hi / d, (hi % d * 18446744073709551616 + lo) / d, (hi % d * 18446744073709551616 + lo) % d)).2.2)))], [])
  | _, _ => none
theorem F_divide_eq {hi : Int} {lo : Int} {d : Int} {g : List PC} : F_divide [.c (.p (.int .u64 hi)), .c (.p (.int .u64 lo)), .c (.p (.int .u64 d))] g = some (inU hi ∧ inU lo ∧ 0 < d ∧ d < 9223372036854775808, .tup [.c (.p (.int .u64 (((hi / d, (hi % d * 18446744073709551616 + lo) / d, (hi % d * 18446744073709551616 + lo) % d)).1))), .c (.p (.int .u64 (((hi / d, (hi % d * 18446744073709551616 + lo) / d, (hi % d * 18446744073709551616 + lo) % d)).2.1))), .c (.p (.int .u64 (((hi / d, (hi % d * 18446744073709551616 + lo) / d, (hi % d * 18446744073709551616 + lo) % d)).2.2)))], []) := rfl
theorem split_div {hi lo d : Int} (hd : 0 < d) (hl : 0 ≤ lo) (h2 : lo < 18446744073709551616) :
    (hi * 18446744073709551616 + lo) / d = hi / d * 18446744073709551616 + (hi % d * 18446744073709551616 + lo) / d ∧
    (hi * 18446744073709551616 + lo) % d = (hi % d * 18446744073709551616 + lo) % d ∧ 0 ≤ (hi % d * 18446744073709551616 + lo) / d ∧ (hi % d * 18446744073709551616 + lo) / d < 18446744073709551616 := by
  have e := Int.ediv_mul_add_emod hi d
  have r1 := Int.emod_nonneg hi (show d ≠ 0 by omega)
  have r2 := Int.emod_lt_of_pos hi hd
  have h : hi * 18446744073709551616 + lo = (hi % d * 18446744073709551616 + lo) + (hi / d * 18446744073709551616) * d := by
    rw [Int.mul_right_comm]; omega
  refine ⟨?_, ?_, Int.ediv_nonneg (by omega) (by omega), ?_⟩
  · rw [h, Int.add_mul_ediv_right _ _ (by omega)]; omega
  · rw [h, Int.add_mul_emod_self_right]
  · refine Int.ediv_lt_of_lt_mul hd ?_
    omega
theorem div_halves {hi lo d : Int} (hd : 0 < d) (hl : 0 ≤ lo) (h2 : lo < 18446744073709551616) :
    hi / d = whi (wv hi lo / d) ∧ (hi % d * 18446744073709551616 + lo) / d = wlo (wv hi lo / d) ∧ (hi % d * 18446744073709551616 + lo) % d = wv hi lo % d := by
  obtain ⟨h1, h3, h4, h5⟩ := @split_div hi lo d hd hl h2
  unfold wv
  rw [h1, ← h3]
  unfold whi wlo
  omega
theorem neg_div {w d : Int} (hd : 0 < d) : (-w % d = 0 → w / d = -(-w / d) ∧ w % d = 0) ∧ (-w % d ≠ 0 → w / d = -(-w / d + 1) ∧ w % d = d - -w % d) := by
  have e := Int.ediv_mul_add_emod (-w) d
  have r1 := Int.emod_nonneg (-w) (show d ≠ 0 by omega)
  have r2 := Int.emod_lt_of_pos (-w) hd
  constructor
  · intro h
    have h0 : w = -(-w / d) * d := by rw [Int.neg_mul]; omega
    generalize -(-w / d) = q at *
    rw [h0, Int.mul_ediv_cancel _ (by omega), Int.mul_emod_left]
    exact ⟨rfl, rfl⟩
  · intro h
    have h0 : w = (d - -w % d) + -(-w / d + 1) * d := by rw [Int.neg_mul, Int.add_mul]; omega
    generalize -w % d = r at *
    generalize -w / d = q at *
    rw [h0, Int.add_mul_ediv_right _ _ (by omega), Int.add_mul_emod_self_right, Int.ediv_eq_zero_of_lt (by omega) (by omega), Int.emod_eq_of_lt (by omega) (by omega)]
    omega

-- lowDivide
def topD (r0 lo : Int) (k : Nat) : Int := r0 * 2 ^ (64 - k) + lo / 2 ^ k
theorem stepD {r0 lo : Int} {k : Nat} (hk : k < 64) : topD r0 lo k = 2 * topD r0 lo (k + 1) + lo / 2 ^ k % 2 := by
  unfold topD
  have e1 : (2 : Int) ^ (64 - k) = 2 ^ (64 - (k + 1)) * 2 := by rw [← Int.pow_succ]; congr 1; omega
  have e2 : lo / 2 ^ (k + 1) = lo / 2 ^ k / 2 := by rw [Int.pow_succ, ← Int.ediv_ediv_of_nonneg (by exact Int.le_of_lt (Int.pow_pos (by omega)))]
  rw [e1, e2, ← Int.mul_assoc]
  omega
theorem two_step {v d b : Int} (hd : 0 < d) (hb : b = 0 ∨ b = 1) :
    (d ≤ v % d * 2 + b → (2 * v + b) / d = 2 * (v / d) + 1 ∧ (2 * v + b) % d = v % d * 2 + b - d) ∧ (v % d * 2 + b < d → (2 * v + b) / d = 2 * (v / d) ∧ (2 * v + b) % d = v % d * 2 + b) := by
  have e := Int.ediv_mul_add_emod v d
  have r1 := Int.emod_nonneg v (show d ≠ 0 by omega)
  have r2 := Int.emod_lt_of_pos v hd
  have h0 : 2 * v + b = (v % d * 2 + b) + 2 * (v / d) * d := by rw [Int.mul_assoc]; omega
  constructor
  · intro h
    have h1 : 2 * v + b = (v % d * 2 + b - d) + (2 * (v / d) + 1) * d := by rw [Int.add_mul]; omega
    rw [h1, Int.add_mul_ediv_right _ _ (by omega), Int.add_mul_emod_self_right, Int.ediv_eq_zero_of_lt (by omega) (by omega), Int.emod_eq_of_lt (by omega) (by omega)]
    omega
  · intro h
    rw [h0, Int.add_mul_ediv_right _ _ (by omega), Int.add_mul_emod_self_right, Int.ediv_eq_zero_of_lt (by omega) (by omega), Int.emod_eq_of_lt (by omega) (by omega)]
    omega

-- lowDivide2
theorem topD_64 {r0 lo : Int} (h : 0 ≤ lo ∧ lo ≤ 18446744073709551615) : topD r0 lo 64 = r0 := by
  unfold topD
  have : lo / 2 ^ 64 = 0 := Int.ediv_eq_zero_of_lt h.1 (by omega)
  rw [this]; simp
theorem topD_0 {r0 lo : Int} : topD r0 lo 0 = r0 * 18446744073709551616 + lo := by
  unfold topD
  simp
theorem topD_lt {r0 lo d : Int} {k : Nat} (hk : k ≤ 64) (hd : 0 < d) (h : 0 ≤ lo ∧ lo ≤ 18446744073709551615) (hr : r0 < d) (h0 : 0 ≤ r0) (hk1 : 0 < k) : 0 ≤ topD r0 lo k / d ∧ topD r0 lo k / d < 9223372036854775808 := by
  have hP : (0 : Int) < 2 ^ k := Int.pow_pos (by omega)
  have hK : (0 : Int) < 2 ^ (64 - k) := Int.pow_pos (by omega)
  have hPK : (2 : Int) ^ (64 - k) * 2 ^ k = 18446744073709551616 := by
    rw [← Int.pow_add, show 64 - k + k = 64 by omega]; rfl
  have hP2 : (2 : Int) ≤ 2 ^ k := by
    obtain ⟨j, rfl⟩ : ∃ j, k = j + 1 := ⟨k - 1, by omega⟩
    have : (0 : Int) < 2 ^ j := Int.pow_pos (by omega)
    rw [Int.pow_succ]; omega
  unfold topD
  generalize (2 : Int) ^ k = P at *
  generalize (2 : Int) ^ (64 - k) = K at *
  have h1 : lo / P < K := Int.ediv_lt_of_lt_mul hP (by rw [hPK]; omega)
  have h2 : 0 ≤ lo / P := Int.ediv_nonneg h.1 (by omega)
  have h3 : 0 ≤ r0 * K := Int.mul_nonneg h0 (by omega)
  have h4 : (r0 + 1) * K ≤ d * K := Int.mul_le_mul_of_nonneg_right (by omega) (by omega)
  rw [Int.add_mul] at h4
  have h5 : K * 2 ≤ K * P := Int.mul_le_mul_of_nonneg_left hP2 (by omega)
  rw [hPK] at h5
  refine ⟨Int.ediv_nonneg (by omega) (by omega), ?_⟩
  have h6 : (r0 * K + lo / P) / d < K := Int.ediv_lt_of_lt_mul hd (by have e : K * d = d * K := Int.mul_comm ..; omega)
  omega
theorem or_two {b q : Int} (hb : b = 0 ∨ b = 1) (hq : 0 ≤ q) (h : q * 2 + b < 18446744073709551616) : (((BitVec.ofInt IntKind.u64.bits b ||| BitVec.ofInt IntKind.u64.bits (q * 2)).toNat : Nat) : Int) = q * 2 + b := by
  have := or_lit 1 (x := b) (q := q) (by omega) (by omega) hq (by omega)
  simpa using this
theorem and_1' {a : Int} : (((BitVec.ofInt IntKind.u64.bits a &&& BitVec.ofInt IntKind.u64.bits 1).toNat : Nat) : Int) = a % 2 := by
  have h1 : (BitVec.ofInt IntKind.u64.bits a).toNat = (a % 18446744073709551616).toNat := by rw [bits_u64]; simp
  have h2 : (BitVec.ofInt IntKind.u64.bits 1).toNat = 1 := by rw [bits_u64]; simp
  rw [BitVec.toNat_and, h1, h2, Nat.and_two_pow_sub_one_eq_mod _ 1]
  omega

-- impl.divided
theorem impl_divided_divide_ok : Fn Tryz.prog 119 F_divide := by
  refine fn_of_go (O := orc [⟨142, F_div64, .inl math_bits_Div64_div64_ok⟩]) mixed T_ok (orc_sound _) Tryz.func119 (by kernel_rfl) rfl Tryz.ntmps119 (by kernel_rfl) Tryz.results119 ?_
  intro args g pre r new hF hpre
  unfold F_divide at hF
  split at hF
  · rename_i hi lo d
    simp only [Option.some.injEq, Prod.mk.injEq] at hF
    obtain ⟨rfl, hr, rfl⟩ := hF
    refine ⟨by simp, ?_⟩
    obtain ⟨p1, p2, hd, hd2⟩ := hpre
    unfold inU at p1 p2
    have r1 := Int.emod_nonneg hi (show d ≠ 0 by omega)
    have r2 := Int.emod_lt_of_pos hi hd
    have f1 : decide (d = 0) = false := by simp only [decide_eq_false_iff_not]; omega
    have f2 : hi.tdiv d = hi / d := tdiv_p p1.1
    have f3 : hi.tmod d = hi % d := tmod_p p1.1
    have f4 : hi / d % 18446744073709551616 = hi / d := by have := (@quo_bd2 hi d hd).1 p1.1; omega
    simp (config := { maxSteps := 4000000, implicitDefEqProofs := false }) only [F_div64_eq, WK0, WK1, WK2, WK3, WK4, WK5, WK6, WK7, WK8, WK9, WK10, WK11, WK12, WK13, WK14, WK15, WK16, WK17, WK18, WK19, WK20, WK21, WK22, WK23, WK24, WK25, WK26, WK27, WK28, WK29, WK30, look_hit, look_miss, List.map_cons, List.map_nil, Nat.add_zero, max_v, min_v, ↓cnd_t, ↓cnd_f, ↓grd_b, ↓grd_u, startEnv, Option.map_some, List.length_nil, List.length_cons, List.nil_append, List.cons_append, List.getElem?_cons_zero, List.getElem?_cons_succ, List.set_cons_zero, List.set_cons_succ, Bool.not_true, Bool.not_false, reduceIte, Nat.reduceEqDiff, Nat.reduceAdd, Nat.reduceLT, blt_lit, beq_lit, Bool.or_true, Bool.true_or, Bool.or_false, Bool.false_or, Bool.and_true, Bool.true_and, Bool.and_self, cond_true, cond_false, List.append_nil, Iv.eta, Option.map_none, idxO_l0, idxO_l1, decide_true, decide_false, reqs_true, Int.zero_sub, wrap_lit, wrapu_lit, Int.reduceLE, Int.reduceLT, Int.reduceAdd, Int.reduceSub, Int.reduceMul, Int.reduceNeg, Int.reduceEq, Option.bind_some, bin_shr_u64, bin_shl_u64, bin_shr_i64, bin_shl_i64, and_m32', Int.reduceToNat, Int.reducePow, Int.reduceMod, Int.reduceDiv, wrap_u64s, true_or, or_true, true_and, and_true, Option.isSome_none, Option.isSome_some, Nat.reduceLeDiff, Nat.reduceMul, Int.toNat_natCast, Int.cast_ofNat_Int, Int.natCast_zero, Int.natCast_one, List.isEmpty_nil, List.isEmpty_cons, List.replicate_zero, List.replicate_succ, T1, T2, T3, T4, T5, T6, T9, T10, T11, T12, T21, T22, T23, T25, T26, T27, T28, T29, T30, T32, T33, T34, T35, T36, T37, T38, T39, T40, T41, T42, T43, T44, T46, T48, T50, T52, T53, T54, T55, T56, T57, T58, T59, T61, T62, T63, T64, T65, T66, T67, T68, T69, T70, T71, T72, T73, T74, T75, T76, T77, T78, T79, T80, T81, T82, T83, T84, T85, T87, T89, T91, T92, T93, T95, T96, T97, T98, T102, T103, T105, T107, T108, T109, T110, T112, T116, T120, T121, T122, T123, T124, T125, T126, T128, T130, T131, T132, T134, T135, T136, T137, T138, T140, T142, T143, T145, T146, T148, T149, T150, T152, T153, T154, T155, T156, T163, T164, T165, T166, T167, bin_quo_c, bin_rem_c, f1, f2, f3, f4]
    repeat' (first | with_reducible refine cnd_split (fun hc => ?_) (fun hc => ?_) | with_reducible refine Reqs.mk ?_ ?_)
    · unfold inU; omega
    · exact endS_uuu (t := ((hi / d, (hi % d * 18446744073709551616 + lo) / d, (hi % d * 18446744073709551616 + lo) % d))) hr rfl
  · cases hF

-- spec.l02Divide
theorem spec_l02Divide_divide_ok : Fn Tryz.prog 129 F_divide := by
  refine fn_of_go (O := orc []) mixed T_ok (orc_sound _) Tryz.func129 (by kernel_rfl) rfl Tryz.ntmps129 (by kernel_rfl) Tryz.results129 ?_
  intro args g pre r new hF hpre
  unfold F_divide at hF
  split at hF
  · rename_i hi lo d
    simp only [Option.some.injEq, Prod.mk.injEq] at hF
    obtain ⟨rfl, hr, rfl⟩ := hF
    refine ⟨by simp, ?_⟩
    obtain ⟨p1, p2, hd, hd2⟩ := hpre
    unfold inU at p1 p2
    have r1 := Int.emod_nonneg hi (show d ≠ 0 by omega)
    have r2 := Int.emod_lt_of_pos hi hd
    have f1 : decide (d = 0) = false := by simp only [decide_eq_false_iff_not]; omega
    have f2 : hi.tdiv d = hi / d := tdiv_p p1.1
    have f3 : hi.tmod d = hi % d := tmod_p p1.1
    have f4 : hi / d % 18446744073709551616 = hi / d := by have := (@quo_bd2 hi d hd).1 p1.1; omega
    simp (config := { maxSteps := 4000000, implicitDefEqProofs := false }) only [WK0, WK1, WK2, WK3, WK4, WK5, WK6, WK7, WK8, WK9, WK10, WK11, WK12, WK13, WK14, WK15, WK16, WK17, WK18, WK19, WK20, WK21, WK22, WK23, WK24, WK25, WK26, WK27, WK28, WK29, WK30, look_hit, look_miss, List.map_cons, List.map_nil, Nat.add_zero, max_v, min_v, ↓cnd_t, ↓cnd_f, ↓grd_b, ↓grd_u, startEnv, Option.map_some, List.length_nil, List.length_cons, List.nil_append, List.cons_append, List.getElem?_cons_zero, List.getElem?_cons_succ, List.set_cons_zero, List.set_cons_succ, Bool.not_true, Bool.not_false, reduceIte, Nat.reduceEqDiff, Nat.reduceAdd, Nat.reduceLT, blt_lit, beq_lit, Bool.or_true, Bool.true_or, Bool.or_false, Bool.false_or, Bool.and_true, Bool.true_and, Bool.and_self, cond_true, cond_false, List.append_nil, Iv.eta, Option.map_none, idxO_l0, idxO_l1, decide_true, decide_false, reqs_true, Int.zero_sub, wrap_lit, wrapu_lit, Int.reduceLE, Int.reduceLT, Int.reduceAdd, Int.reduceSub, Int.reduceMul, Int.reduceNeg, Int.reduceEq, Option.bind_some, bin_shr_u64, bin_shl_u64, bin_shr_i64, bin_shl_i64, and_m32', Int.reduceToNat, Int.reducePow, Int.reduceMod, Int.reduceDiv, wrap_u64s, true_or, or_true, true_and, and_true, Option.isSome_none, Option.isSome_some, Nat.reduceLeDiff, Nat.reduceMul, Int.toNat_natCast, Int.cast_ofNat_Int, Int.natCast_zero, Int.natCast_one, List.isEmpty_nil, List.isEmpty_cons, List.replicate_zero, List.replicate_succ, T1, T2, T3, T4, T5, T6, T9, T10, T11, T12, T21, T22, T23, T25, T26, T27, T28, T29, T30, T32, T33, T34, T35, T36, T37, T38, T39, T40, T41, T42, T43, T44, T46, T48, T50, T52, T53, T54, T55, T56, T57, T58, T59, T61, T62, T63, T64, T65, T66, T67, T68, T69, T70, T71, T72, T73, T74, T75, T76, T77, T78, T79, T80, T81, T82, T83, T84, T85, T87, T89, T91, T92, T93, T95, T96, T97, T98, T102, T103, T105, T107, T108, T109, T110, T112, T116, T120, T121, T122, T123, T124, T125, T126, T128, T130, T131, T132, T134, T135, T136, T137, T138, T140, T142, T143, T145, T146, T148, T149, T150, T152, T153, T154, T155, T156, T163, T164, T165, T166, T167, bin_quo_c, bin_rem_c, f1, f2, f3, f4]
    repeat' (first | with_reducible refine cnd_split (fun hc => ?_) (fun hc => ?_) | with_reducible refine Reqs.mk ?_ ?_)
    refine go_loop (α := Nat) (fun k => k) (fun k e h => h = [] ∧ k ≤ 64 ∧ look e 1 = some (.v (.c (.p (.int .u64 lo)))) ∧ look e 2 = some (.v (.c (.p (.int .u64 d)))) ∧ look e 9 = some (.v (.c (.p (.int .u64 (hi / d))))) ∧ look e 10 = some (.v (.c (.p (.int .u64 (topD (hi % d) lo k % d))))) ∧ look e 11 = some (.v (.c (.p (.int .u64 (topD (hi % d) lo k / d))))) ∧ look e 12 = some (.v (.c (.p (.int .i64 ((k : Int) - 1)))))) 64 ?_ ?_
    · refine ⟨rfl, by omega, rfl, rfl, rfl, ?_, ?_, rfl⟩
      · rw [topD_64 p2, Int.emod_eq_of_lt r1 r2]; rfl
      · rw [topD_64 p2, Int.ediv_eq_zero_of_lt r1 r2]; rfl
    · rintro X k e h ⟨rfl, hk, l1, l2, l9, l10, l11, l12⟩ hX
      cases k with
      | zero =>
        simp only [Int.natCast_zero, Int.zero_sub] at l12
        rw [topD_0] at l10 l11
        simp (config := { maxSteps := 4000000, implicitDefEqProofs := false }) only [WK0, WK1, WK2, WK3, WK4, WK5, WK6, WK7, WK8, WK9, WK10, WK11, WK12, WK13, WK14, WK15, WK16, WK17, WK18, WK19, WK20, WK21, WK22, WK23, WK24, WK25, WK26, WK27, WK28, WK29, WK30, look_hit, look_miss, List.map_cons, List.map_nil, Nat.add_zero, max_v, min_v, ↓cnd_t, ↓cnd_f, ↓grd_b, ↓grd_u, startEnv, Option.map_some, List.length_nil, List.length_cons, List.nil_append, List.cons_append, List.getElem?_cons_zero, List.getElem?_cons_succ, List.set_cons_zero, List.set_cons_succ, Bool.not_true, Bool.not_false, reduceIte, Nat.reduceEqDiff, Nat.reduceAdd, Nat.reduceLT, blt_lit, beq_lit, Bool.or_true, Bool.true_or, Bool.or_false, Bool.false_or, Bool.and_true, Bool.true_and, Bool.and_self, cond_true, cond_false, List.append_nil, Iv.eta, Option.map_none, idxO_l0, idxO_l1, decide_true, decide_false, reqs_true, Int.zero_sub, wrap_lit, wrapu_lit, Int.reduceLE, Int.reduceLT, Int.reduceAdd, Int.reduceSub, Int.reduceMul, Int.reduceNeg, Int.reduceEq, Option.bind_some, bin_shr_u64, bin_shl_u64, bin_shr_i64, bin_shl_i64, and_m32', Int.reduceToNat, Int.reducePow, Int.reduceMod, Int.reduceDiv, wrap_u64s, true_or, or_true, true_and, and_true, Option.isSome_none, Option.isSome_some, Nat.reduceLeDiff, Nat.reduceMul, Int.toNat_natCast, Int.cast_ofNat_Int, Int.natCast_zero, Int.natCast_one, List.isEmpty_nil, List.isEmpty_cons, List.replicate_zero, List.replicate_succ, T1, T2, T3, T4, T5, T6, T9, T10, T11, T12, T21, T22, T23, T25, T26, T27, T28, T29, T30, T32, T33, T34, T35, T36, T37, T38, T39, T40, T41, T42, T43, T44, T46, T48, T50, T52, T53, T54, T55, T56, T57, T58, T59, T61, T62, T63, T64, T65, T66, T67, T68, T69, T70, T71, T72, T73, T74, T75, T76, T77, T78, T79, T80, T81, T82, T83, T84, T85, T87, T89, T91, T92, T93, T95, T96, T97, T98, T102, T103, T105, T107, T108, T109, T110, T112, T116, T120, T121, T122, T123, T124, T125, T126, T128, T130, T131, T132, T134, T135, T136, T137, T138, T140, T142, T143, T145, T146, T148, T149, T150, T152, T153, T154, T155, T156, T163, T164, T165, T166, T167, bin_quo_c, bin_rem_c, l1, l2, l9, l10, l11, l12]
        exact endS_uuu (t := ((hi / d, (hi % d * 18446744073709551616 + lo) / d, (hi % d * 18446744073709551616 + lo) % d))) hr rfl
      | succ k =>
        have e12 : ((k + 1 : Nat) : Int) - 1 = k := by omega
        rw [e12] at l12
        have hq := @topD_lt (hi % d) lo d (k + 1) hk hd p2 r2 r1 (by omega)
        have hb : lo / 2 ^ k % 2 = 0 ∨ lo / 2 ^ k % 2 = 1 := by omega
        have hst := @two_step (topD (hi % d) lo (k + 1)) d (lo / 2 ^ k % 2) hd hb
        have hm1 := Int.emod_nonneg (topD (hi % d) lo (k + 1)) (show d ≠ 0 by omega)
        have hm2 := Int.emod_lt_of_pos (topD (hi % d) lo (k + 1)) hd
        have hs := @stepD (hi % d) lo k (by omega)
        rw [← hs] at hst
        obtain ⟨R, eR⟩ : ∃ x, topD (hi % d) lo (k + 1) % d = x := ⟨_, rfl⟩
        obtain ⟨Q, eQ⟩ : ∃ x, topD (hi % d) lo (k + 1) / d = x := ⟨_, rfl⟩
        obtain ⟨b, eb⟩ : ∃ x, lo / 2 ^ k % 2 = x := ⟨_, rfl⟩
        rw [eR] at l10 hm1 hm2 hst
        rw [eQ] at l11 hq hst
        rw [eb] at hb hst
        have k64 : k ≤ 64 := by omega
        have t0 : R / 9223372036854775808 = 0 := by omega
        have t1 : R * 2 % 18446744073709551616 = R * 2 := by omega
        have t2 := @and_1' (lo / 2 ^ k)
        rw [eb] at t2
        have t3 : b % 18446744073709551616 = b := by omega
        have t4 : (((BitVec.ofInt IntKind.u64.bits (R * 2) ||| BitVec.ofInt IntKind.u64.bits b).toNat : Nat) : Int) % 18446744073709551616 = R * 2 + b := by
          rw [BitVec.or_comm, or_two hb hm1 (by omega)]; omega
        have t5 : Q * 2 % 18446744073709551616 = Q * 2 := by omega
        have t6 : (((BitVec.ofInt IntKind.u64.bits (Q * 2) ||| BitVec.ofInt IntKind.u64.bits 1).toNat : Nat) : Int) % 18446744073709551616 = Q * 2 + 1 := by
          rw [BitVec.or_comm, or_two (.inr rfl) hq.1 (by omega)]; omega
        have t7 : (k : Int) % 18446744073709551616 = k := by omega
        have t8 : IntKind.i64.wrap ((k : Int) - 1) = (k : Int) - 1 := wrap_om (by omega) (by omega)
        simp (config := { maxSteps := 4000000, implicitDefEqProofs := false }) only [WK0, WK1, WK2, WK3, WK4, WK5, WK6, WK7, WK8, WK9, WK10, WK11, WK12, WK13, WK14, WK15, WK16, WK17, WK18, WK19, WK20, WK21, WK22, WK23, WK24, WK25, WK26, WK27, WK28, WK29, WK30, look_hit, look_miss, List.map_cons, List.map_nil, Nat.add_zero, max_v, min_v, ↓cnd_t, ↓cnd_f, ↓grd_b, ↓grd_u, startEnv, Option.map_some, List.length_nil, List.length_cons, List.nil_append, List.cons_append, List.getElem?_cons_zero, List.getElem?_cons_succ, List.set_cons_zero, List.set_cons_succ, Bool.not_true, Bool.not_false, reduceIte, Nat.reduceEqDiff, Nat.reduceAdd, Nat.reduceLT, blt_lit, beq_lit, Bool.or_true, Bool.true_or, Bool.or_false, Bool.false_or, Bool.and_true, Bool.true_and, Bool.and_self, cond_true, cond_false, List.append_nil, Iv.eta, Option.map_none, idxO_l0, idxO_l1, decide_true, decide_false, reqs_true, Int.zero_sub, wrap_lit, wrapu_lit, Int.reduceLE, Int.reduceLT, Int.reduceAdd, Int.reduceSub, Int.reduceMul, Int.reduceNeg, Int.reduceEq, Option.bind_some, bin_shr_u64, bin_shl_u64, bin_shr_i64, bin_shl_i64, and_m32', Int.reduceToNat, Int.reducePow, Int.reduceMod, Int.reduceDiv, wrap_u64s, true_or, or_true, true_and, and_true, Option.isSome_none, Option.isSome_some, Nat.reduceLeDiff, Nat.reduceMul, Int.toNat_natCast, Int.cast_ofNat_Int, Int.natCast_zero, Int.natCast_one, List.isEmpty_nil, List.isEmpty_cons, List.replicate_zero, List.replicate_succ, T1, T2, T3, T4, T5, T6, T9, T10, T11, T12, T21, T22, T23, T25, T26, T27, T28, T29, T30, T32, T33, T34, T35, T36, T37, T38, T39, T40, T41, T42, T43, T44, T46, T48, T50, T52, T53, T54, T55, T56, T57, T58, T59, T61, T62, T63, T64, T65, T66, T67, T68, T69, T70, T71, T72, T73, T74, T75, T76, T77, T78, T79, T80, T81, T82, T83, T84, T85, T87, T89, T91, T92, T93, T95, T96, T97, T98, T102, T103, T105, T107, T108, T109, T110, T112, T116, T120, T121, T122, T123, T124, T125, T126, T128, T130, T131, T132, T134, T135, T136, T137, T138, T140, T142, T143, T145, T146, T148, T149, T150, T152, T153, T154, T155, T156, T163, T164, T165, T166, T167, bin_quo_c, bin_rem_c, l1, l2, l9, l10, l11, l12, t0, t1, t2, t3, t4, t5, t6, t7, t8, bin_shr_s k64]
        repeat' (first | with_reducible refine cnd_split (fun hc => ?_) (fun hc => ?_) | with_reducible refine Reqs.mk ?_ ?_)
        all_goals (try simp only [decide_eq_true_eq, decide_eq_false_iff_not] at *)
        · have h2 := hst.1 (by assumption)
          have t9 : (R * 2 + b - d) % 18446744073709551616 = R * 2 + b - d := by omega
          simp only [t9]
          refine hX k _ _ (Nat.lt_succ_self k) ⟨rfl, by omega, ?_, ?_, ?_, ?_, ?_, ?_⟩
          all_goals first
            | (simp [look, l1, l2, l9, h2.1, h2.2]; done)
            | (simp [look, h2.1, h2.2]; omega)
        · have h2 := hst.2 (by omega)
          refine hX k _ _ (Nat.lt_succ_self k) ⟨rfl, by omega, ?_, ?_, ?_, ?_, ?_, ?_⟩
          all_goals first
            | (simp [look, l1, l2, l9, h2.1, h2.2]; done)
            | (simp [look, h2.1, h2.2]; omega)
        · exfalso; omega
  · cases hF

-- wideDiv
def F_wideDiv : FT
  | [.agg [.int .i64 w1, .int .u64 w2], .c (.p (.int .i64 d))], _ => some ((inR w1 ∧ inU w2) ∧ inR d ∧ -85070591730234615865843651857942052864 ≤ (wv w1 w2) ∧ (wv w1 w2) ≤ 85070591730234615865843651857942052864, .tup [.agg [.int .i64 (whi (((if 0 < d then ((wv w1 w2)) / d else 0, if 0 < d then ((wv w1 w2)) % d else 0, decide (0 < d))).1)), .int .u64 (wlo (((if 0 < d then ((wv w1 w2)) / d else 0, if 0 < d then ((wv w1 w2)) % d else 0, decide (0 < d))).1))], .c (.p (.int .i64 (((if 0 < d then ((wv w1 w2)) / d else 0, if 0 < d then ((wv w1 w2)) % d else 0, decide (0 < d))).2.1))), .c (.p (.bool (((if 0 < d then ((wv w1 w2)) / d else 0, if 0 < d then ((wv w1 w2)) % d else 0, decide (0 < d))).2.2)))], [])
  | _, _ => none
theorem F_wideDiv_eq {w1 : Int} {w2 : Int} {d : Int} {g : List PC} : F_wideDiv [.agg [.int .i64 w1, .int .u64 w2], .c (.p (.int .i64 d))] g = some ((inR w1 ∧ inU w2) ∧ inR d ∧ -85070591730234615865843651857942052864 ≤ (wv w1 w2) ∧ (wv w1 w2) ≤ 85070591730234615865843651857942052864, .tup [.agg [.int .i64 (whi (((if 0 < d then ((wv w1 w2)) / d else 0, if 0 < d then ((wv w1 w2)) % d else 0, decide (0 < d))).1)), .int .u64 (wlo (((if 0 < d then ((wv w1 w2)) / d else 0, if 0 < d then ((wv w1 w2)) % d else 0, decide (0 < d))).1))], .c (.p (.int .i64 (((if 0 < d then ((wv w1 w2)) / d else 0, if 0 < d then ((wv w1 w2)) % d else 0, decide (0 < d))).2.1))), .c (.p (.bool (((if 0 < d then ((wv w1 w2)) / d else 0, if 0 < d then ((wv w1 w2)) % d else 0, decide (0 < d))).2.2)))], []) := rfl
def F_lowDiv : FT
  | [.agg [.int .i64 w1, .int .u64 w2], .c (.p (.int .i64 d))], _ => some ((inR w1 ∧ inU w2) ∧ 0 < d ∧ d < 9223372036854775808 ∧ -85070591730234615865843651857942052864 ≤ (wv w1 w2) ∧ (wv w1 w2) ≤ 85070591730234615865843651857942052864, .tup [.agg [.int .i64 (whi (((((wv w1 w2)) / d, ((wv w1 w2)) % d)).1)), .int .u64 (wlo (((((wv w1 w2)) / d, ((wv w1 w2)) % d)).1))], .c (.p (.int .i64 (((((wv w1 w2)) / d, ((wv w1 w2)) % d)).2)))], [])
  | _, _ => none
theorem F_lowDiv_eq {w1 : Int} {w2 : Int} {d : Int} {g : List PC} : F_lowDiv [.agg [.int .i64 w1, .int .u64 w2], .c (.p (.int .i64 d))] g = some ((inR w1 ∧ inU w2) ∧ 0 < d ∧ d < 9223372036854775808 ∧ -85070591730234615865843651857942052864 ≤ (wv w1 w2) ∧ (wv w1 w2) ≤ 85070591730234615865843651857942052864, .tup [.agg [.int .i64 (whi (((((wv w1 w2)) / d, ((wv w1 w2)) % d)).1)), .int .u64 (wlo (((((wv w1 w2)) / d, ((wv w1 w2)) % d)).1))], .c (.p (.int .i64 (((((wv w1 w2)) / d, ((wv w1 w2)) % d)).2)))], []) := rfl
theorem wide_neg {w1 w2 : Int} (h : (inR w1 ∧ inU w2) ∧ -85070591730234615865843651857942052864 ≤ wv w1 w2 ∧ wv w1 w2 ≤ 85070591730234615865843651857942052864) (h0 : w1 < 0) :
    inR (whi (-wv w1 w2)) ∧ inU (wlo (-wv w1 w2)) ∧ 0 ≤ whi (-wv w1 w2) ∧ wv (whi (-wv w1 w2)) (wlo (-wv w1 w2)) = -wv w1 w2 ∧ 0 < -wv w1 w2 := by
  obtain ⟨⟨h1, h2⟩, h3, h4⟩ := h
  rw [wv_eta]
  unfold inR inU at *
  unfold whi wlo
  unfold wv at *
  omega
theorem halves_in {w d : Int} (hd : 0 < d) (h0 : 0 ≤ w) (h1 : w ≤ 85070591730234615865843651857942052864) :
    0 ≤ whi (w / d) ∧ whi (w / d) ≤ 4611686018427387904 ∧ inU (wlo (w / d)) := by
  have := (@quo_bd2 w d hd).1 h0
  unfold inU whi wlo
  omega

theorem bump {z : Int} (h0 : 0 ≤ z) (h1 : z ≤ 85070591730234615865843651857942052864) : wv (IntKind.i64.wrap ((whi z + (wlo z + 1 + 0) / 18446744073709551616) % 18446744073709551616)) ((wlo z + 1 + 0) % 18446744073709551616) = z + 1 := by
  rw [IntKind.wrap_i64]
  unfold wv whi wlo
  omega

-- impl.WideDiv
theorem impl_WideDiv_wideDiv_ok : Fn Tryz.prog 96 F_wideDiv := by
  refine fn_of_go (O := orc [⟨119, F_divide, .inl impl_divided_divide_ok⟩, ⟨120, F_minus, .inl _impl_Wide__negative_minus_ok⟩, ⟨121, F_add64, .inr math_bits_Add64_add64_ok⟩]) mixed T_ok (orc_sound _) Tryz.func96 (by kernel_rfl) rfl Tryz.ntmps96 (by kernel_rfl) Tryz.results96 ?_
  intro args g pre r new hF hpre
  unfold F_wideDiv at hF
  split at hF
  · rename_i w1 w2 d
    simp only [Option.some.injEq, Prod.mk.injEq] at hF
    obtain ⟨rfl, hr, rfl⟩ := hF
    refine ⟨by simp, ?_⟩
    simp (config := { maxSteps := 4000000, implicitDefEqProofs := false }) only [F_add64_eq, F_divide_eq, F_minus_eq, WK0, WK1, WK2, WK3, WK4, WK5, WK6, WK7, WK8, WK9, WK10, WK11, WK12, WK13, WK14, WK15, WK16, WK17, WK18, WK19, WK20, WK21, WK22, WK23, WK24, WK25, WK26, WK27, WK28, WK29, WK30, look_hit, look_miss, List.map_cons, List.map_nil, Nat.add_zero, max_v, min_v, ↓cnd_t, ↓cnd_f, ↓grd_b, ↓grd_u, startEnv, Option.map_some, List.length_nil, List.length_cons, List.nil_append, List.cons_append, List.getElem?_cons_zero, List.getElem?_cons_succ, List.set_cons_zero, List.set_cons_succ, Bool.not_true, Bool.not_false, reduceIte, Nat.reduceEqDiff, Nat.reduceAdd, Nat.reduceLT, blt_lit, beq_lit, Bool.or_true, Bool.true_or, Bool.or_false, Bool.false_or, Bool.and_true, Bool.true_and, Bool.and_self, cond_true, cond_false, List.append_nil, Iv.eta, Option.map_none, idxO_l0, idxO_l1, decide_true, decide_false, reqs_true, Int.zero_sub, wrap_lit, wrapu_lit, Int.reduceLE, Int.reduceLT, Int.reduceAdd, Int.reduceSub, Int.reduceMul, Int.reduceNeg, Int.reduceEq, Option.bind_some, bin_shr_u64, bin_shl_u64, bin_shr_i64, bin_shl_i64, and_m32', Int.reduceToNat, Int.reducePow, Int.reduceMod, Int.reduceDiv, wrap_u64s, true_or, or_true, true_and, and_true, Option.isSome_none, Option.isSome_some, Nat.reduceLeDiff, Nat.reduceMul, Int.toNat_natCast, Int.cast_ofNat_Int, Int.natCast_zero, Int.natCast_one, List.isEmpty_nil, List.isEmpty_cons, List.replicate_zero, List.replicate_succ, T1, T2, T3, T4, T5, T6, T9, T10, T11, T12, T21, T22, T23, T25, T26, T27, T28, T29, T30, T32, T33, T34, T35, T36, T37, T38, T39, T40, T41, T42, T43, T44, T46, T48, T50, T52, T53, T54, T55, T56, T57, T58, T59, T61, T62, T63, T64, T65, T66, T67, T68, T69, T70, T71, T72, T73, T74, T75, T76, T77, T78, T79, T80, T81, T82, T83, T84, T85, T87, T89, T91, T92, T93, T95, T96, T97, T98, T102, T103, T105, T107, T108, T109, T110, T112, T116, T120, T121, T122, T123, T124, T125, T126, T128, T130, T131, T132, T134, T135, T136, T137, T138, T140, T142, T143, T145, T146, T148, T149, T150, T152, T153, T154, T155, T156, T163, T164, T165, T166, T167]
    obtain ⟨⟨p1, p2⟩, pd, p3, p4⟩ := hpre
    have q1 := p1
    have q2 := p2
    have qd := pd
    unfold inR at q1 qd
    unfold inU at q2
    repeat' (first | with_reducible refine cnd_split (fun hc => ?_) (fun hc => ?_) | with_reducible refine Reqs.mk ?_ ?_)
    all_goals (try simp only [decide_eq_true_eq, decide_eq_false_iff_not, Int.not_le, Int.not_lt] at *)
    all_goals first
      | (refine endS_wib (t := ((if 0 < d then ((wv w1 w2)) / d else 0, if 0 < d then ((wv w1 w2)) % d else 0, decide (0 < d)))) hr ?_
         have hd : ¬ 0 < d := by omega
         simp only [if_neg hd, decide_eq_false hd]
         refine ⟨⟨?_, ?_⟩, ?_, ?_⟩ <;> first | rfl | trivial)
      | skip
    all_goals (have hd : 0 < d := by omega)
    all_goals (have em : d % 18446744073709551616 = d := by omega)
    all_goals (simp only [em] at *)
    all_goals first
      | (have h0 : 0 ≤ w1 := by assumption
         have e1 : w1 % 18446744073709551616 = w1 := by omega
         have hw : 0 ≤ wv w1 w2 := by unfold wv; omega
         have hd3 := @div_halves w1 w2 d hd q2.1 (by omega)
         have hi := halves_in hd hw p4
         simp only [e1] at *
         first
         | (unfold inU; omega)
         | (have hm := Int.emod_lt_of_pos (wv w1 w2) hd
            have hn := Int.emod_nonneg (wv w1 w2) (show d ≠ 0 by omega)
            refine endS_wib (t := ((if 0 < d then ((wv w1 w2)) / d else 0, if 0 < d then ((wv w1 w2)) % d else 0, decide (0 < d)))) hr ?_
            simp only [if_pos hd, decide_eq_true hd, hd3.1, hd3.2.1, hd3.2.2]
            rw [wrap_om (by omega) (by omega), wrap_om (by omega) (by omega)]
            refine ⟨⟨?_, ?_⟩, ?_, ?_⟩ <;> first | rfl | trivial))
      | skip
    all_goals (have hn := wide_neg ⟨⟨p1, p2⟩, p3, p4⟩ (by omega))
    all_goals first
      | (unfold wv; unfold wv at hn; unfold inR inU; omega)
      | skip
    all_goals (have e1 : whi (-wv w1 w2) % 18446744073709551616 = whi (-wv w1 w2) := by have := hn.1; unfold inR at this; omega)
    all_goals (have hd3 := @div_halves (whi (-wv w1 w2)) (wlo (-wv w1 w2)) d hd hn.2.1.1 (by have := hn.2.1.2; omega))
    all_goals (have hi := halves_in (w := -wv w1 w2) hd (by omega) (by omega))
    all_goals (have hq := (@quo_bd2 (-wv w1 w2) d hd).1 (by omega))
    all_goals (have hx := @neg_div (wv w1 w2) d hd)
    all_goals (have hm := Int.emod_lt_of_pos (-wv w1 w2) hd)
    all_goals (have hm0 := Int.emod_nonneg (-wv w1 w2) (show d ≠ 0 by omega))
    all_goals (rw [hn.2.2.2.1] at hd3)
    all_goals (simp only [e1, hd3.1, hd3.2.1, hd3.2.2] at *)
    all_goals (have hi3 := hi.2.2; unfold inU at hi3)
    all_goals (have hn1 := hn.1; unfold inR at hn1)
    all_goals (have hn2 := hn.2.1; unfold inU at hn2)
    all_goals (have ew : wv (whi (-wv w1 w2 / d)) (wlo (-wv w1 w2 / d)) = -wv w1 w2 / d := wv_eta _)
    all_goals (try (have ei : IntKind.i64.wrap (whi (-wv w1 w2 / d)) = whi (-wv w1 w2 / d) := wrap_om (by omega) (by omega); simp only [ei, ew] at *))
    all_goals first
      | (unfold inU; omega)
      | (unfold inR inU; omega)
      | (refine endS_wib (t := ((if 0 < d then ((wv w1 w2)) / d else 0, if 0 < d then ((wv w1 w2)) % d else 0, decide (0 < d)))) hr ?_
         simp only [if_pos hd, decide_eq_true hd, (hx.1 (by omega)).1, (hx.1 (by omega)).2]
         refine ⟨⟨?_, ?_⟩, ?_, ?_⟩ <;> first | rfl | trivial)
      | skip
    all_goals (have ez := @bump (-wv w1 w2 / d) (by omega) (by omega))
    all_goals (simp only [ez] at *)
    all_goals first
      | (rw [IntKind.wrap_i64]; unfold inR inU; omega)
      | (refine endS_wib (t := ((if 0 < d then ((wv w1 w2)) / d else 0, if 0 < d then ((wv w1 w2)) % d else 0, decide (0 < d)))) hr ?_
         simp only [if_pos hd, decide_eq_true hd, (hx.2 (by omega)).1, (hx.2 (by omega)).2]
         rw [wrap_om (n := -wv w1 w2 % d) (by omega) (by omega), wrap_om (by omega) (by omega)]
         refine ⟨⟨?_, ?_⟩, ?_, ?_⟩ <;> first | rfl | trivial)
  · cases hF

-- plus
def F_plus : FT
  | [.agg [.int .i64 a1, .int .u64 a2], .agg [.int .i64 b1, .int .u64 b2]], _ => some ((inR a1 ∧ inU a2) ∧ (inR b1 ∧ inU b2) ∧ -170141183460469231731687303715884105728 ≤ (wv a1 a2) + (wv b1 b2) ∧ (wv a1 a2) + (wv b1 b2) < 170141183460469231731687303715884105728, .v (.agg [.int .i64 (whi ((wv a1 a2) + (wv b1 b2))), .int .u64 (wlo ((wv a1 a2) + (wv b1 b2)))]), [])
  | _, _ => none
theorem F_plus_eq {a1 : Int} {a2 : Int} {b1 : Int} {b2 : Int} {g : List PC} : F_plus [.agg [.int .i64 a1, .int .u64 a2], .agg [.int .i64 b1, .int .u64 b2]] g = some ((inR a1 ∧ inU a2) ∧ (inR b1 ∧ inU b2) ∧ -170141183460469231731687303715884105728 ≤ (wv a1 a2) + (wv b1 b2) ∧ (wv a1 a2) + (wv b1 b2) < 170141183460469231731687303715884105728, .v (.agg [.int .i64 (whi ((wv a1 a2) + (wv b1 b2))), .int .u64 (wlo ((wv a1 a2) + (wv b1 b2)))]), []) := rfl

-- spec.l02Plus
theorem spec_l02Plus_plus_ok : Fn Tryz.prog 131 F_plus := by
  refine fn_of_go (O := orc []) mixed T_ok (orc_sound _) Tryz.func131 (by kernel_rfl) rfl Tryz.ntmps131 (by kernel_rfl) Tryz.results131 ?_
  intro args g pre r new hF hpre
  unfold F_plus at hF
  split at hF
  · rename_i a1 a2 b1 b2
    simp only [Option.some.injEq, Prod.mk.injEq] at hF
    obtain ⟨rfl, hr, rfl⟩ := hF
    refine ⟨by simp, ?_⟩
    simp (config := { maxSteps := 4000000, implicitDefEqProofs := false }) only [WK0, WK1, WK2, WK3, WK4, WK5, WK6, WK7, WK8, WK9, WK10, WK11, WK12, WK13, WK14, WK15, WK16, WK17, WK18, WK19, WK20, WK21, WK22, WK23, WK24, WK25, WK26, WK27, WK28, WK29, WK30, look_hit, look_miss, List.map_cons, List.map_nil, Nat.add_zero, max_v, min_v, ↓cnd_t, ↓cnd_f, ↓grd_b, ↓grd_u, startEnv, Option.map_some, List.length_nil, List.length_cons, List.nil_append, List.cons_append, List.getElem?_cons_zero, List.getElem?_cons_succ, List.set_cons_zero, List.set_cons_succ, Bool.not_true, Bool.not_false, reduceIte, Nat.reduceEqDiff, Nat.reduceAdd, Nat.reduceLT, blt_lit, beq_lit, Bool.or_true, Bool.true_or, Bool.or_false, Bool.false_or, Bool.and_true, Bool.true_and, Bool.and_self, cond_true, cond_false, List.append_nil, Iv.eta, Option.map_none, idxO_l0, idxO_l1, decide_true, decide_false, reqs_true, Int.zero_sub, wrap_lit, wrapu_lit, Int.reduceLE, Int.reduceLT, Int.reduceAdd, Int.reduceSub, Int.reduceMul, Int.reduceNeg, Int.reduceEq, Option.bind_some, bin_shr_u64, bin_shl_u64, bin_shr_i64, bin_shl_i64, and_m32', Int.reduceToNat, Int.reducePow, Int.reduceMod, Int.reduceDiv, wrap_u64s, true_or, or_true, true_and, and_true, Option.isSome_none, Option.isSome_some, Nat.reduceLeDiff, Nat.reduceMul, Int.toNat_natCast, Int.cast_ofNat_Int, Int.natCast_zero, Int.natCast_one, List.isEmpty_nil, List.isEmpty_cons, List.replicate_zero, List.replicate_succ, T1, T2, T3, T4, T5, T6, T9, T10, T11, T12, T21, T22, T23, T25, T26, T27, T28, T29, T30, T32, T33, T34, T35, T36, T37, T38, T39, T40, T41, T42, T43, T44, T46, T48, T50, T52, T53, T54, T55, T56, T57, T58, T59, T61, T62, T63, T64, T65, T66, T67, T68, T69, T70, T71, T72, T73, T74, T75, T76, T77, T78, T79, T80, T81, T82, T83, T84, T85, T87, T89, T91, T92, T93, T95, T96, T97, T98, T102, T103, T105, T107, T108, T109, T110, T112, T116, T120, T121, T122, T123, T124, T125, T126, T128, T130, T131, T132, T134, T135, T136, T137, T138, T140, T142, T143, T145, T146, T148, T149, T150, T152, T153, T154, T155, T156, T163, T164, T165, T166, T167]
    unfold inR inU wv at hpre
    repeat' (first | with_reducible refine cnd_split (fun hc => ?_) (fun hc => ?_) | with_reducible refine Reqs.mk ?_ ?_)
    all_goals (try simp only [decide_eq_true_eq, decide_eq_false_iff_not, IntKind.wrap_i64] at *)
    all_goals (refine endS_w (t := ((wv a1 a2) + (wv b1 b2))) hr ?_; unfold whi wlo wv; omega)
  · cases hF

-- spec.l02Div
theorem spec_l02Div_lowDiv_ok : Fn Tryz.prog 102 F_lowDiv := by
  refine fn_of_go (O := orc [⟨129, F_divide, .inl spec_l02Divide_divide_ok⟩, ⟨130, F_minus, .inl spec_l02Minus_minus_ok⟩, ⟨131, F_plus, .inl spec_l02Plus_plus_ok⟩, ⟨132, F_wideOf, .inl spec_l02Of_wideOf_ok⟩]) mixed T_ok (orc_sound _) Tryz.func102 (by kernel_rfl) rfl Tryz.ntmps102 (by kernel_rfl) Tryz.results102 ?_
  intro args g pre r new hF hpre
  unfold F_lowDiv at hF
  split at hF
  · rename_i w1 w2 d
    simp only [Option.some.injEq, Prod.mk.injEq] at hF
    obtain ⟨rfl, hr, rfl⟩ := hF
    refine ⟨by simp, ?_⟩
    simp (config := { maxSteps := 4000000, implicitDefEqProofs := false }) only [F_divide_eq, F_minus_eq, F_plus_eq, F_wideOf_eq, WK0, WK1, WK2, WK3, WK4, WK5, WK6, WK7, WK8, WK9, WK10, WK11, WK12, WK13, WK14, WK15, WK16, WK17, WK18, WK19, WK20, WK21, WK22, WK23, WK24, WK25, WK26, WK27, WK28, WK29, WK30, look_hit, look_miss, List.map_cons, List.map_nil, Nat.add_zero, max_v, min_v, ↓cnd_t, ↓cnd_f, ↓grd_b, ↓grd_u, startEnv, Option.map_some, List.length_nil, List.length_cons, List.nil_append, List.cons_append, List.getElem?_cons_zero, List.getElem?_cons_succ, List.set_cons_zero, List.set_cons_succ, Bool.not_true, Bool.not_false, reduceIte, Nat.reduceEqDiff, Nat.reduceAdd, Nat.reduceLT, blt_lit, beq_lit, Bool.or_true, Bool.true_or, Bool.or_false, Bool.false_or, Bool.and_true, Bool.true_and, Bool.and_self, cond_true, cond_false, List.append_nil, Iv.eta, Option.map_none, idxO_l0, idxO_l1, decide_true, decide_false, reqs_true, Int.zero_sub, wrap_lit, wrapu_lit, Int.reduceLE, Int.reduceLT, Int.reduceAdd, Int.reduceSub, Int.reduceMul, Int.reduceNeg, Int.reduceEq, Option.bind_some, bin_shr_u64, bin_shl_u64, bin_shr_i64, bin_shl_i64, and_m32', Int.reduceToNat, Int.reducePow, Int.reduceMod, Int.reduceDiv, wrap_u64s, true_or, or_true, true_and, and_true, Option.isSome_none, Option.isSome_some, Nat.reduceLeDiff, Nat.reduceMul, Int.toNat_natCast, Int.cast_ofNat_Int, Int.natCast_zero, Int.natCast_one, List.isEmpty_nil, List.isEmpty_cons, List.replicate_zero, List.replicate_succ, T1, T2, T3, T4, T5, T6, T9, T10, T11, T12, T21, T22, T23, T25, T26, T27, T28, T29, T30, T32, T33, T34, T35, T36, T37, T38, T39, T40, T41, T42, T43, T44, T46, T48, T50, T52, T53, T54, T55, T56, T57, T58, T59, T61, T62, T63, T64, T65, T66, T67, T68, T69, T70, T71, T72, T73, T74, T75, T76, T77, T78, T79, T80, T81, T82, T83, T84, T85, T87, T89, T91, T92, T93, T95, T96, T97, T98, T102, T103, T105, T107, T108, T109, T110, T112, T116, T120, T121, T122, T123, T124, T125, T126, T128, T130, T131, T132, T134, T135, T136, T137, T138, T140, T142, T143, T145, T146, T148, T149, T150, T152, T153, T154, T155, T156, T163, T164, T165, T166, T167]
    obtain ⟨⟨p1, p2⟩, hd, hd2, p3, p4⟩ := hpre
    have q1 := p1
    have q2 := p2
    unfold inR at q1
    unfold inU at q2
    repeat' (first | with_reducible refine cnd_split (fun hc => ?_) (fun hc => ?_) | with_reducible refine Reqs.mk ?_ ?_)
    all_goals (try simp only [decide_eq_true_eq, decide_eq_false_iff_not, Int.not_le, Int.not_lt] at *)
    all_goals (have em : d % 18446744073709551616 = d := by omega)
    all_goals (simp only [em] at *)
    all_goals first
      | (have h0 : 0 ≤ w1 := by assumption
         have e1 : w1 % 18446744073709551616 = w1 := by omega
         have hw : 0 ≤ wv w1 w2 := by unfold wv; omega
         have hd3 := @div_halves w1 w2 d hd q2.1 (by omega)
         have hi := halves_in hd hw p4
         simp only [e1] at *
         first
         | (unfold inU; omega)
         | (have hm := Int.emod_lt_of_pos (wv w1 w2) hd
            have hn := Int.emod_nonneg (wv w1 w2) (show d ≠ 0 by omega)
            refine endS_wi (t := ((((wv w1 w2)) / d, ((wv w1 w2)) % d))) hr ?_
            simp only [hd3.1, hd3.2.1, hd3.2.2]
            rw [wrap_om (by omega) (by omega), wrap_om (by omega) (by omega)]
            refine ⟨⟨?_, ?_⟩, ?_⟩ <;> first | rfl | trivial))
      | skip
    all_goals (have hn := wide_neg ⟨⟨p1, p2⟩, p3, p4⟩ (by omega))
    all_goals first
      | (unfold wv; unfold wv at hn; unfold inR inU; omega)
      | skip
    all_goals (have e1 : whi (-wv w1 w2) % 18446744073709551616 = whi (-wv w1 w2) := by have := hn.1; unfold inR at this; omega)
    all_goals (have hd3 := @div_halves (whi (-wv w1 w2)) (wlo (-wv w1 w2)) d hd hn.2.1.1 (by have := hn.2.1.2; omega))
    all_goals (have hi := halves_in (w := -wv w1 w2) hd (by omega) (by omega))
    all_goals (have hq := (@quo_bd2 (-wv w1 w2) d hd).1 (by omega))
    all_goals (have hx := @neg_div (wv w1 w2) d hd)
    all_goals (have hm := Int.emod_lt_of_pos (-wv w1 w2) hd)
    all_goals (have hm0 := Int.emod_nonneg (-wv w1 w2) (show d ≠ 0 by omega))
    all_goals (rw [hn.2.2.2.1] at hd3)
    all_goals (simp only [e1, hd3.1, hd3.2.1, hd3.2.2] at *)
    all_goals (have hi3 := hi.2.2; unfold inU at hi3)
    all_goals (have hn1 := hn.1; unfold inR at hn1)
    all_goals (have hn2 := hn.2.1; unfold inU at hn2)
    all_goals (have ew : wv (whi (-wv w1 w2 / d)) (wlo (-wv w1 w2 / d)) = -wv w1 w2 / d := wv_eta _)
    all_goals (try (have ei : IntKind.i64.wrap (whi (-wv w1 w2 / d)) = whi (-wv w1 w2 / d) := wrap_om (by omega) (by omega); simp only [ei, ew] at *))
    all_goals (try (simp only [wv_eta] at *))
    all_goals first
      | (unfold inU; omega)
      | (unfold inR inU; omega)
      | (unfold inR inU whi wlo; omega)
      | (unfold inR; omega)
      | (refine endS_wi (t := ((((wv w1 w2)) / d, ((wv w1 w2)) % d))) hr ?_
         simp only [(hx.1 (by omega)).1, (hx.1 (by omega)).2]
         refine ⟨⟨?_, ?_⟩, ?_⟩ <;> first | rfl | trivial)
      | (refine endS_wi (t := ((((wv w1 w2)) / d, ((wv w1 w2)) % d))) hr ?_
         simp only [(hx.2 (by omega)).1, (hx.2 (by omega)).2]
         rw [wrap_om (n := -wv w1 w2 % d) (by omega) (by omega), wrap_om (by omega) (by omega), show -(-wv w1 w2 / d) + -1 = -(-wv w1 w2 / d + 1) by omega]
         refine ⟨⟨?_, ?_⟩, ?_⟩ <;> first | rfl | trivial)
  · cases hF

-- mulDiv
def mulDiv (a b d : Int) : Int × Bool := if 0 < d then wideInt (a * b / d) else (0, false)
def F_mulDiv : FT
  | [.c (.p (.int .i64 a)), .c (.p (.int .i64 b)), .c (.p (.int .i64 d))], _ => some (inR a ∧ inR b ∧ inR d, .tup [.c (.p (.int .i64 ((mulDiv a b d).1))), .c (.p (.bool ((mulDiv a b d).2)))], [])
  | _, _ => none
theorem F_mulDiv_eq {a : Int} {b : Int} {d : Int} {g : List PC} : F_mulDiv [.c (.p (.int .i64 a)), .c (.p (.int .i64 b)), .c (.p (.int .i64 d))] g = some (inR a ∧ inR b ∧ inR d, .tup [.c (.p (.int .i64 ((mulDiv a b d).1))), .c (.p (.bool ((mulDiv a b d).2)))], []) := rfl
theorem prod_bd {a b d : Int} (ha : inR a) (hb : inR b) (hd : 0 < d) : inR (whi (a * b / d)) ∧ inU (wlo (a * b / d)) := by
  have h := mul_bd ha hb
  have h2 := @quo_bd2 (a * b) d hd
  exact wide_in (by omega) (by omega)

-- impl.MulDivFloor
theorem impl_MulDivFloor_mulDiv_ok : Fn Tryz.prog 79 F_mulDiv := by
  refine fn_of_go (O := orc [⟨81, F_wideMul, .inl impl_WideMul_wideMul_ok⟩, ⟨94, F_wideInt, .inl impl_WideInt_wideInt_ok⟩, ⟨96, F_wideDiv, .inl impl_WideDiv_wideDiv_ok⟩]) mixed T_ok (orc_sound _) Tryz.func79 (by kernel_rfl) rfl Tryz.ntmps79 (by kernel_rfl) Tryz.results79 ?_
  intro args g pre r new hF hpre
  unfold F_mulDiv at hF
  split at hF
  · rename_i a b d
    simp only [Option.some.injEq, Prod.mk.injEq] at hF
    obtain ⟨rfl, hr, rfl⟩ := hF
    refine ⟨by simp, ?_⟩
    simp (config := { maxSteps := 4000000, implicitDefEqProofs := false }) only [F_wideDiv_eq, F_wideInt_eq, F_wideMul_eq, WK0, WK1, WK2, WK3, WK4, WK5, WK6, WK7, WK8, WK9, WK10, WK11, WK12, WK13, WK14, WK15, WK16, WK17, WK18, WK19, WK20, WK21, WK22, WK23, WK24, WK25, WK26, WK27, WK28, WK29, WK30, look_hit, look_miss, List.map_cons, List.map_nil, Nat.add_zero, max_v, min_v, ↓cnd_t, ↓cnd_f, ↓grd_b, ↓grd_u, startEnv, Option.map_some, List.length_nil, List.length_cons, List.nil_append, List.cons_append, List.getElem?_cons_zero, List.getElem?_cons_succ, List.set_cons_zero, List.set_cons_succ, Bool.not_true, Bool.not_false, reduceIte, Nat.reduceEqDiff, Nat.reduceAdd, Nat.reduceLT, blt_lit, beq_lit, Bool.or_true, Bool.true_or, Bool.or_false, Bool.false_or, Bool.and_true, Bool.true_and, Bool.and_self, cond_true, cond_false, List.append_nil, Iv.eta, Option.map_none, idxO_l0, idxO_l1, decide_true, decide_false, reqs_true, Int.zero_sub, wrap_lit, wrapu_lit, Int.reduceLE, Int.reduceLT, Int.reduceAdd, Int.reduceSub, Int.reduceMul, Int.reduceNeg, Int.reduceEq, Option.bind_some, bin_shr_u64, bin_shl_u64, bin_shr_i64, bin_shl_i64, and_m32', Int.reduceToNat, Int.reducePow, Int.reduceMod, Int.reduceDiv, wrap_u64s, true_or, or_true, true_and, and_true, Option.isSome_none, Option.isSome_some, Nat.reduceLeDiff, Nat.reduceMul, Int.toNat_natCast, Int.cast_ofNat_Int, Int.natCast_zero, Int.natCast_one, List.isEmpty_nil, List.isEmpty_cons, List.replicate_zero, List.replicate_succ, T1, T2, T3, T4, T5, T6, T9, T10, T11, T12, T21, T22, T23, T25, T26, T27, T28, T29, T30, T32, T33, T34, T35, T36, T37, T38, T39, T40, T41, T42, T43, T44, T46, T48, T50, T52, T53, T54, T55, T56, T57, T58, T59, T61, T62, T63, T64, T65, T66, T67, T68, T69, T70, T71, T72, T73, T74, T75, T76, T77, T78, T79, T80, T81, T82, T83, T84, T85, T87, T89, T91, T92, T93, T95, T96, T97, T98, T102, T103, T105, T107, T108, T109, T110, T112, T116, T120, T121, T122, T123, T124, T125, T126, T128, T130, T131, T132, T134, T135, T136, T137, T138, T140, T142, T143, T145, T146, T148, T149, T150, T152, T153, T154, T155, T156, T163, T164, T165, T166, T167]
    have hab := mul_bd hpre.1 hpre.2.1
    obtain ⟨ha, hb, hd⟩ := hpre
    have h1 := prod_in ha hb
    rw [wv_eta]
    repeat' (first | with_reducible refine cnd_split (fun hc => ?_) (fun hc => ?_) | with_reducible refine Reqs.mk ?_ ?_)
    all_goals (try simp only [decide_eq_true_eq, decide_eq_false_iff_not] at *)
    all_goals first
      | exact ⟨ha, hb⟩
      | exact ⟨h1, hd, hab⟩
      | (have h0 : 0 < d := by assumption
         simp only [if_pos h0, wv_eta]
         first
         | exact prod_bd ha hb h0
         | (refine endS_ib (t := (mulDiv a b d)) hr ?_; rw [mulDiv, if_pos h0]))
      | (refine endS_ib (t := (mulDiv a b d)) hr ?_; rw [mulDiv, if_neg (by assumption)])
  · cases hF

-- spec.MulDivFloor
theorem spec_MulDivFloor_mulDiv_ok : Fn Tryz.prog 85 F_mulDiv := by
  refine fn_of_go (O := orc [⟨102, F_lowDiv, .inl spec_l02Div_lowDiv_ok⟩, ⟨103, F_wideMul, .inl spec_l02Mul_wideMul_ok⟩, ⟨104, F_wideInt, .inl spec_l02Int_wideInt_ok⟩]) mixed T_ok (orc_sound _) Tryz.func85 (by kernel_rfl) rfl Tryz.ntmps85 (by kernel_rfl) Tryz.results85 ?_
  intro args g pre r new hF hpre
  unfold F_mulDiv at hF
  split at hF
  · rename_i a b d
    simp only [Option.some.injEq, Prod.mk.injEq] at hF
    obtain ⟨rfl, hr, rfl⟩ := hF
    refine ⟨by simp, ?_⟩
    simp (config := { maxSteps := 4000000, implicitDefEqProofs := false }) only [F_lowDiv_eq, F_wideInt_eq, F_wideMul_eq, WK0, WK1, WK2, WK3, WK4, WK5, WK6, WK7, WK8, WK9, WK10, WK11, WK12, WK13, WK14, WK15, WK16, WK17, WK18, WK19, WK20, WK21, WK22, WK23, WK24, WK25, WK26, WK27, WK28, WK29, WK30, look_hit, look_miss, List.map_cons, List.map_nil, Nat.add_zero, max_v, min_v, ↓cnd_t, ↓cnd_f, ↓grd_b, ↓grd_u, startEnv, Option.map_some, List.length_nil, List.length_cons, List.nil_append, List.cons_append, List.getElem?_cons_zero, List.getElem?_cons_succ, List.set_cons_zero, List.set_cons_succ, Bool.not_true, Bool.not_false, reduceIte, Nat.reduceEqDiff, Nat.reduceAdd, Nat.reduceLT, blt_lit, beq_lit, Bool.or_true, Bool.true_or, Bool.or_false, Bool.false_or, Bool.and_true, Bool.true_and, Bool.and_self, cond_true, cond_false, List.append_nil, Iv.eta, Option.map_none, idxO_l0, idxO_l1, decide_true, decide_false, reqs_true, Int.zero_sub, wrap_lit, wrapu_lit, Int.reduceLE, Int.reduceLT, Int.reduceAdd, Int.reduceSub, Int.reduceMul, Int.reduceNeg, Int.reduceEq, Option.bind_some, bin_shr_u64, bin_shl_u64, bin_shr_i64, bin_shl_i64, and_m32', Int.reduceToNat, Int.reducePow, Int.reduceMod, Int.reduceDiv, wrap_u64s, true_or, or_true, true_and, and_true, Option.isSome_none, Option.isSome_some, Nat.reduceLeDiff, Nat.reduceMul, Int.toNat_natCast, Int.cast_ofNat_Int, Int.natCast_zero, Int.natCast_one, List.isEmpty_nil, List.isEmpty_cons, List.replicate_zero, List.replicate_succ, T1, T2, T3, T4, T5, T6, T9, T10, T11, T12, T21, T22, T23, T25, T26, T27, T28, T29, T30, T32, T33, T34, T35, T36, T37, T38, T39, T40, T41, T42, T43, T44, T46, T48, T50, T52, T53, T54, T55, T56, T57, T58, T59, T61, T62, T63, T64, T65, T66, T67, T68, T69, T70, T71, T72, T73, T74, T75, T76, T77, T78, T79, T80, T81, T82, T83, T84, T85, T87, T89, T91, T92, T93, T95, T96, T97, T98, T102, T103, T105, T107, T108, T109, T110, T112, T116, T120, T121, T122, T123, T124, T125, T126, T128, T130, T131, T132, T134, T135, T136, T137, T138, T140, T142, T143, T145, T146, T148, T149, T150, T152, T153, T154, T155, T156, T163, T164, T165, T166, T167]
    have hab := mul_bd hpre.1 hpre.2.1
    obtain ⟨ha, hb, hd⟩ := hpre
    have h1 := prod_in ha hb
    rw [wv_eta]
    repeat' (first | with_reducible refine cnd_split (fun hc => ?_) (fun hc => ?_) | with_reducible refine Reqs.mk ?_ ?_)
    all_goals (try simp only [decide_eq_true_eq, decide_eq_false_iff_not, Int.not_le] at *)
    all_goals first
      | exact ⟨ha, hb⟩
      | (have h0 : 0 < d := by assumption
         unfold inR at hd
         first
         | exact ⟨h1, h0, by omega, hab⟩
         | exact prod_bd ha hb h0
         | (simp only [wv_eta]; exact prod_bd ha hb h0)
         | (refine endS_ib (t := (mulDiv a b d)) hr ?_; rw [mulDiv, if_pos h0]; try rw [wv_eta]))
      | (refine endS_ib (t := (mulDiv a b d)) hr ?_; rw [mulDiv, if_neg (by omega)])
  · cases hF

-- mulDivUp
def mulDivUp (a b d : Int) : Int × Bool := if 0 < d then (if (wideInt (a * b / d)).2 then (if a * b % d = 0 then wideInt (a * b / d) else if (wideInt (a * b / d)).1 = 9223372036854775807 then (0, false) else ((wideInt (a * b / d)).1 + 1, true)) else (0, false)) else (0, false)
def F_mulDivUp : FT
  | [.c (.p (.int .i64 a)), .c (.p (.int .i64 b)), .c (.p (.int .i64 d))], _ => some (inR a ∧ inR b ∧ inR d, .tup [.c (.p (.int .i64 ((mulDivUp a b d).1))), .c (.p (.bool ((mulDivUp a b d).2)))], [])
  | _, _ => none
theorem F_mulDivUp_eq {a : Int} {b : Int} {d : Int} {g : List PC} : F_mulDivUp [.c (.p (.int .i64 a)), .c (.p (.int .i64 b)), .c (.p (.int .i64 d))] g = some (inR a ∧ inR b ∧ inR d, .tup [.c (.p (.int .i64 ((mulDivUp a b d).1))), .c (.p (.bool ((mulDivUp a b d).2)))], []) := rfl
theorem wideInt_in (w : Int) : inR (wideInt w).1 := by
  unfold wideInt inR
  split
  · rename_i h; rw [within_iff] at h; exact h
  · simp only; omega
theorem wideInt_f {w : Int} (h : (wideInt w).2 = false) : wideInt w = (0, false) := by
  unfold wideInt at *
  split at h
  · cases h
  · rename_i h1; rw [if_neg h1]
theorem wideInt_t {w : Int} (h : (wideInt w).2 = true) : (wideInt w).1 = w ∧ inR w := by
  unfold wideInt at *
  split at h
  · rename_i h1; rw [if_pos h1]; rw [within_iff] at h1; exact ⟨rfl, h1⟩
  · cases h

end Go.Proofs.YtcnapkdccjibpaaGreatDoor.Eng
