/- What functions of the program compute, and that the program computes it: part 4. -/
import Derived.Test.YtcnapkdccjibpaaGreatDoorTab
import Derived.Test.YtcnapkdccjibpaaGreatDoorEng16
import Derived.Laws.BitsLemmas
import Derived.Laws.Bits64
import Derived.Laws.Bits64b
import Derived.Lib.Mul64
import Derived.Lib.BitFns
import Derived.Laws.Externs
import Derived.Test.YtcnapkdccjibpaaGreatDoorL1
import Derived.Test.YtcnapkdccjibpaaGreatDoorL2
namespace Go.Proofs.YtcnapkdccjibpaaGreatDoor.Eng
open Go Go.RowKit
set_option linter.unusedVariables false
set_option linter.unusedSimpArgs false
set_option maxRecDepth 100000
set_option maxHeartbeats 1000000
-- mul64
def F_mul64 : FT
  | [.c (.p (.int .u64 x)), .c (.p (.int .u64 y))], _ => some (inU x ∧ inU y, .tup [.c (.p (.int .u64 (((x * y / 18446744073709551616, x * y % 18446744073709551616)).1))), .c (.p (.int .u64 (((x * y / 18446744073709551616, x * y % 18446744073709551616)).2)))], [])
  | _, _ => none
theorem F_mul64_eq {x : Int} {y : Int} {g : List PC} : F_mul64 [.c (.p (.int .u64 x)), .c (.p (.int .u64 y))] g = some (inU x ∧ inU y, .tup [.c (.p (.int .u64 (((x * y / 18446744073709551616, x * y % 18446744073709551616)).1))), .c (.p (.int .u64 (((x * y / 18446744073709551616, x * y % 18446744073709551616)).2)))], []) := rfl

-- mul64law
theorem mul64_law (m n : Nat) (hm : m < 18446744073709551616) (hn : n < 18446744073709551616) :
    (((m : Int) / 4294967296 * (n / 4294967296) % 18446744073709551616 +
              ((m : Int) / 4294967296 * (n % 4294967296 % 18446744073709551616) % 18446744073709551616 +
                    (m : Int) % 4294967296 % 18446744073709551616 * (n % 4294967296 % 18446744073709551616) % 18446744073709551616 / 4294967296) % 18446744073709551616 / 4294967296) % 18446744073709551616 +
          (((m : Int) / 4294967296 * (n % 4294967296 % 18446744073709551616) % 18446744073709551616 +
                        (m : Int) % 4294967296 % 18446744073709551616 * (n % 4294967296 % 18446744073709551616) % 18446744073709551616 / 4294967296) % 18446744073709551616 % 4294967296 % 18446744073709551616 +
                (m : Int) % 4294967296 % 18446744073709551616 * (n / 4294967296) % 18446744073709551616) % 18446744073709551616 / 4294967296) % 18446744073709551616 =
      (m : Int) * n / 18446744073709551616 := by
  obtain ⟨bd, bt, bw, hhi⟩ := Go.Lib.mul64_hi m n hm hn
  have ha := Go.Lib.half_mul_le (a := m / 4294967296) (b := n / 4294967296) (by omega) (by omega)
  have hb := Go.Lib.half_mul_le (a := m / 4294967296) (b := n % 4294967296) (by omega) (by omega)
  have hc := Go.Lib.half_mul_le (a := m % 4294967296) (b := n / 4294967296) (by omega) (by omega)
  have hd := Go.Lib.half_mul_le (a := m % 4294967296) (b := n % 4294967296) (by omega) (by omega)
  rw [show (m : Int) % 4294967296 % 18446744073709551616 = ((m % 4294967296 : Nat) : Int) by omega, show (n : Int) % 4294967296 % 18446744073709551616 = ((n % 4294967296 : Nat) : Int) by omega,
    show (m : Int) / 4294967296 = ((m / 4294967296 : Nat) : Int) by omega, show (n : Int) / 4294967296 = ((n / 4294967296 : Nat) : Int) by omega]
  simp only [← Int.natCast_mul]
  generalize m / 4294967296 * (n / 4294967296) = a at *
  generalize m / 4294967296 * (n % 4294967296) = b at *
  generalize m % 4294967296 * (n / 4294967296) = c at *
  generalize m % 4294967296 * (n % 4294967296) = d at *
  generalize m * n = p at *
  omega

-- math/bits.Mul64
theorem math_bits_Mul64_mul64_ok : Fn Tryz.prog 98 F_mul64 := by
  refine fn_of_go (O := orc []) mixed T_ok (orc_sound _) Tryz.func98 (by kernel_rfl) rfl Tryz.ntmps98 (by kernel_rfl) Tryz.results98 ?_
  intro args g pre r new hF hpre
  unfold F_mul64 at hF
  split at hF
  · rename_i x y
    simp only [Option.some.injEq, Prod.mk.injEq] at hF
    obtain ⟨rfl, hr, rfl⟩ := hF
    refine ⟨by simp, ?_⟩
    simp (config := { maxSteps := 4000000, implicitDefEqProofs := false }) only [WK0, WK1, WK2, WK3, WK4, WK5, WK6, WK7, WK8, WK9, WK10, WK11, WK12, WK13, WK14, WK15, WK16, WK17, WK18, WK19, WK20, WK21, WK22, WK23, WK24, WK25, WK26, WK27, WK28, WK29, WK30, look_hit, look_miss, List.map_cons, List.map_nil, Nat.add_zero, max_v, min_v, ↓cnd_t, ↓cnd_f, ↓grd_b, ↓grd_u, startEnv, Option.map_some, List.length_nil, List.length_cons, List.nil_append, List.cons_append, List.getElem?_cons_zero, List.getElem?_cons_succ, List.set_cons_zero, List.set_cons_succ, Bool.not_true, Bool.not_false, reduceIte, Nat.reduceEqDiff, Nat.reduceAdd, Nat.reduceLT, blt_lit, beq_lit, Bool.or_true, Bool.true_or, Bool.or_false, Bool.false_or, Bool.and_true, Bool.true_and, Bool.and_self, cond_true, cond_false, List.append_nil, Iv.eta, Option.map_none, idxO_l0, idxO_l1, decide_true, decide_false, reqs_true, Int.zero_sub, wrap_lit, wrapu_lit, Int.reduceLE, Int.reduceLT, Int.reduceAdd, Int.reduceSub, Int.reduceMul, Int.reduceNeg, Int.reduceEq, Option.bind_some, bin_shr_u64, bin_shl_u64, bin_shr_i64, bin_shl_i64, and_m32', Int.reduceToNat, Int.reducePow, Int.reduceMod, Int.reduceDiv, wrap_u64s, true_or, or_true, true_and, and_true, Option.isSome_none, Option.isSome_some, Nat.reduceLeDiff, Nat.reduceMul, Int.toNat_natCast, Int.cast_ofNat_Int, Int.natCast_zero, Int.natCast_one, List.isEmpty_nil, List.isEmpty_cons, List.replicate_zero, List.replicate_succ, T1, T2, T3, T4, T5, T6, T9, T10, T11, T12, T21, T22, T23, T25, T26, T27, T28, T29, T30, T32, T33, T34, T35, T36, T37, T38, T39, T40, T41, T42, T43, T44, T46, T48, T50, T52, T53, T54, T55, T56, T57, T58, T59, T61, T62, T63, T64, T65, T66, T67, T68, T69, T70, T71, T72, T73, T74, T75, T76, T77, T78, T79, T80, T81, T82, T83, T84, T85, T87, T89, T91, T92, T93, T95, T96, T97, T98, T102, T103, T105, T107, T108, T109, T110, T112, T116, T120, T121, T122, T123, T124, T125, T126, T128, T130, T131, T132, T134, T135, T136, T137, T138, T140, T142, T143, T145, T146, T148, T149, T150, T152, T153, T154, T155, T156, T163, T164, T165, T166, T167]
    repeat' (first | with_reducible refine cnd_split (fun hc => ?_) (fun hc => ?_) | with_reducible refine Reqs.mk ?_ ?_)
    refine endS_uu (t := ((x * y / 18446744073709551616, x * y % 18446744073709551616))) hr ?_
    simp only [Prod.mk.injEq]
    obtain ⟨⟨x0, x1⟩, ⟨y0, y1⟩⟩ := hpre
    obtain ⟨m, rfl⟩ := natOf x0
    obtain ⟨n, rfl⟩ := natOf y0
    refine ⟨?_, trivial⟩
    exact mul64_law m n (by omega) (by omega)
  · cases hF

-- wide
def wideInt (w : Int) : Int × Bool := if within w (-9223372036854775808) 9223372036854775807 then (w, true) else (0, false)
def F_wideOf : FT
  | [.c (.p (.int .i64 n))], _ => some (inR n, .v (.agg [.int .i64 (whi (n)), .int .u64 (wlo (n))]), [])
  | _, _ => none
theorem F_wideOf_eq {n : Int} {g : List PC} : F_wideOf [.c (.p (.int .i64 n))] g = some (inR n, .v (.agg [.int .i64 (whi (n)), .int .u64 (wlo (n))]), []) := rfl
def F_wideInt : FT
  | [.agg [.int .i64 w1, .int .u64 w2]], _ => some (inR w1 ∧ inU w2, .tup [.c (.p (.int .i64 ((wideInt (wv w1 w2)).1))), .c (.p (.bool ((wideInt (wv w1 w2)).2)))], [])
  | _, _ => none
theorem F_wideInt_eq {w1 : Int} {w2 : Int} {g : List PC} : F_wideInt [.agg [.int .i64 w1, .int .u64 w2]] g = some (inR w1 ∧ inU w2, .tup [.c (.p (.int .i64 ((wideInt (wv w1 w2)).1))), .c (.p (.bool ((wideInt (wv w1 w2)).2)))], []) := rfl
def F_wideMul : FT
  | [.c (.p (.int .i64 a)), .c (.p (.int .i64 b))], _ => some (inR a ∧ inR b, .v (.agg [.int .i64 (whi (a * b)), .int .u64 (wlo (a * b))]), [])
  | _, _ => none
theorem F_wideMul_eq {a : Int} {b : Int} {g : List PC} : F_wideMul [.c (.p (.int .i64 a)), .c (.p (.int .i64 b))] g = some (inR a ∧ inR b, .v (.agg [.int .i64 (whi (a * b)), .int .u64 (wlo (a * b))]), []) := rfl
theorem whi_of {n : Int} (h : inR n) : whi n = n / 9223372036854775808 := by unfold whi; unfold inR at h; omega
theorem wlo_of (n : Int) : wlo n = n % 18446744073709551616 := rfl

-- impl.WideOf
theorem impl_WideOf_wideOf_ok : Fn Tryz.prog 118 F_wideOf := by
  refine fn_of_go (O := orc []) mixed T_ok (orc_sound _) Tryz.func118 (by kernel_rfl) rfl Tryz.ntmps118 (by kernel_rfl) Tryz.results118 ?_
  intro args g pre r new hF hpre
  unfold F_wideOf at hF
  split at hF
  · rename_i n
    simp only [Option.some.injEq, Prod.mk.injEq] at hF
    obtain ⟨rfl, hr, rfl⟩ := hF
    refine ⟨by simp, ?_⟩
    simp (config := { maxSteps := 4000000, implicitDefEqProofs := false }) only [WK0, WK1, WK2, WK3, WK4, WK5, WK6, WK7, WK8, WK9, WK10, WK11, WK12, WK13, WK14, WK15, WK16, WK17, WK18, WK19, WK20, WK21, WK22, WK23, WK24, WK25, WK26, WK27, WK28, WK29, WK30, look_hit, look_miss, List.map_cons, List.map_nil, Nat.add_zero, max_v, min_v, ↓cnd_t, ↓cnd_f, ↓grd_b, ↓grd_u, startEnv, Option.map_some, List.length_nil, List.length_cons, List.nil_append, List.cons_append, List.getElem?_cons_zero, List.getElem?_cons_succ, List.set_cons_zero, List.set_cons_succ, Bool.not_true, Bool.not_false, reduceIte, Nat.reduceEqDiff, Nat.reduceAdd, Nat.reduceLT, blt_lit, beq_lit, Bool.or_true, Bool.true_or, Bool.or_false, Bool.false_or, Bool.and_true, Bool.true_and, Bool.and_self, cond_true, cond_false, List.append_nil, Iv.eta, Option.map_none, idxO_l0, idxO_l1, decide_true, decide_false, reqs_true, Int.zero_sub, wrap_lit, wrapu_lit, Int.reduceLE, Int.reduceLT, Int.reduceAdd, Int.reduceSub, Int.reduceMul, Int.reduceNeg, Int.reduceEq, Option.bind_some, bin_shr_u64, bin_shl_u64, bin_shr_i64, bin_shl_i64, and_m32', Int.reduceToNat, Int.reducePow, Int.reduceMod, Int.reduceDiv, wrap_u64s, true_or, or_true, true_and, and_true, Option.isSome_none, Option.isSome_some, Nat.reduceLeDiff, Nat.reduceMul, Int.toNat_natCast, Int.cast_ofNat_Int, Int.natCast_zero, Int.natCast_one, List.isEmpty_nil, List.isEmpty_cons, List.replicate_zero, List.replicate_succ, T1, T2, T3, T4, T5, T6, T9, T10, T11, T12, T21, T22, T23, T25, T26, T27, T28, T29, T30, T32, T33, T34, T35, T36, T37, T38, T39, T40, T41, T42, T43, T44, T46, T48, T50, T52, T53, T54, T55, T56, T57, T58, T59, T61, T62, T63, T64, T65, T66, T67, T68, T69, T70, T71, T72, T73, T74, T75, T76, T77, T78, T79, T80, T81, T82, T83, T84, T85, T87, T89, T91, T92, T93, T95, T96, T97, T98, T102, T103, T105, T107, T108, T109, T110, T112, T116, T120, T121, T122, T123, T124, T125, T126, T128, T130, T131, T132, T134, T135, T136, T137, T138, T140, T142, T143, T145, T146, T148, T149, T150, T152, T153, T154, T155, T156, T163, T164, T165, T166, T167]
    repeat' (first | with_reducible refine cnd_split (fun hc => ?_) (fun hc => ?_) | with_reducible refine Reqs.mk ?_ ?_)
    refine endS_w (t := (n)) hr ?_
    unfold inR at hpre
    unfold whi wlo
    omega
  · cases hF

-- wideInt
theorem wideInt_law {w1 w2 n : Int} {b : Bool} (h1 : inR w1) (h2 : inU w2) (hn : n = (w2 + 9223372036854775808) % 18446744073709551616 - 9223372036854775808) (hb : (decide (whi n = w1) && decide (wlo n = w2)) = b) : wideInt (wv w1 w2) = (if b then n else 0, b) := by
  unfold inR at h1
  unfold inU at h2
  unfold wideInt
  cases b with
  | true =>
    simp only [Bool.and_eq_true, decide_eq_true_eq] at hb
    unfold whi wlo at hb
    have : within (wv w1 w2) (-9223372036854775808) 9223372036854775807 = true := by rw [within_iff]; unfold wv; omega
    rw [this]
    simp only [if_true, Prod.mk.injEq, and_true]
    unfold wv; omega
  | false =>
    have : ¬ within (wv w1 w2) (-9223372036854775808) 9223372036854775807 = true := by
      rw [within_iff]; unfold wv
      intro hh
      have : (decide (whi n = w1) && decide (wlo n = w2)) = true := by
        simp only [Bool.and_eq_true, decide_eq_true_eq]; unfold whi wlo; omega
      rw [this] at hb; cases hb
    rw [if_neg this]; rfl

-- impl.WideInt
theorem impl_WideInt_wideInt_ok : Fn Tryz.prog 94 F_wideInt := by
  refine fn_of_go (O := orc [⟨118, F_wideOf, .inl impl_WideOf_wideOf_ok⟩]) mixed T_ok (orc_sound _) Tryz.func94 (by kernel_rfl) rfl Tryz.ntmps94 (by kernel_rfl) Tryz.results94 ?_
  intro args g pre r new hF hpre
  unfold F_wideInt at hF
  split at hF
  · rename_i w1 w2
    simp only [Option.some.injEq, Prod.mk.injEq] at hF
    obtain ⟨rfl, hr, rfl⟩ := hF
    refine ⟨by simp, ?_⟩
    simp (config := { maxSteps := 4000000, implicitDefEqProofs := false }) only [F_wideOf_eq, WK0, WK1, WK2, WK3, WK4, WK5, WK6, WK7, WK8, WK9, WK10, WK11, WK12, WK13, WK14, WK15, WK16, WK17, WK18, WK19, WK20, WK21, WK22, WK23, WK24, WK25, WK26, WK27, WK28, WK29, WK30, look_hit, look_miss, List.map_cons, List.map_nil, Nat.add_zero, max_v, min_v, ↓cnd_t, ↓cnd_f, ↓grd_b, ↓grd_u, startEnv, Option.map_some, List.length_nil, List.length_cons, List.nil_append, List.cons_append, List.getElem?_cons_zero, List.getElem?_cons_succ, List.set_cons_zero, List.set_cons_succ, Bool.not_true, Bool.not_false, reduceIte, Nat.reduceEqDiff, Nat.reduceAdd, Nat.reduceLT, blt_lit, beq_lit, Bool.or_true, Bool.true_or, Bool.or_false, Bool.false_or, Bool.and_true, Bool.true_and, Bool.and_self, cond_true, cond_false, List.append_nil, Iv.eta, Option.map_none, idxO_l0, idxO_l1, decide_true, decide_false, reqs_true, Int.zero_sub, wrap_lit, wrapu_lit, Int.reduceLE, Int.reduceLT, Int.reduceAdd, Int.reduceSub, Int.reduceMul, Int.reduceNeg, Int.reduceEq, Option.bind_some, bin_shr_u64, bin_shl_u64, bin_shr_i64, bin_shl_i64, and_m32', Int.reduceToNat, Int.reducePow, Int.reduceMod, Int.reduceDiv, wrap_u64s, true_or, or_true, true_and, and_true, Option.isSome_none, Option.isSome_some, Nat.reduceLeDiff, Nat.reduceMul, Int.toNat_natCast, Int.cast_ofNat_Int, Int.natCast_zero, Int.natCast_one, List.isEmpty_nil, List.isEmpty_cons, List.replicate_zero, List.replicate_succ, T1, T2, T3, T4, T5, T6, T9, T10, T11, T12, T21, T22, T23, T25, T26, T27, T28, T29, T30, T32, T33, T34, T35, T36, T37, T38, T39, T40, T41, T42, T43, T44, T46, T48, T50, T52, T53, T54, T55, T56, T57, T58, T59, T61, T62, T63, T64, T65, T66, T67, T68, T69, T70, T71, T72, T73, T74, T75, T76, T77, T78, T79, T80, T81, T82, T83, T84, T85, T87, T89, T91, T92, T93, T95, T96, T97, T98, T102, T103, T105, T107, T108, T109, T110, T112, T116, T120, T121, T122, T123, T124, T125, T126, T128, T130, T131, T132, T134, T135, T136, T137, T138, T140, T142, T143, T145, T146, T148, T149, T150, T152, T153, T154, T155, T156, T163, T164, T165, T166, T167]
    repeat' (first | with_reducible refine cnd_split (fun hc => ?_) (fun hc => ?_) | with_reducible refine Reqs.mk ?_ ?_)
    · unfold inR; rw [IntKind.wrap_i64]; omega
    · exact endS_ib (t := (wideInt (wv w1 w2))) hr (by rw [wideInt_law hpre.1 hpre.2 (IntKind.wrap_i64 w2) hc]; rfl)
    · exact endS_ib (t := (wideInt (wv w1 w2))) hr (by rw [wideInt_law hpre.1 hpre.2 (IntKind.wrap_i64 w2) hc]; rfl)
  · cases hF

-- impl.WideMul
theorem impl_WideMul_wideMul_ok : Fn Tryz.prog 81 F_wideMul := by
  refine fn_of_go (O := orc [⟨98, F_mul64, .inl math_bits_Mul64_mul64_ok⟩]) mixed T_ok (orc_sound _) Tryz.func81 (by kernel_rfl) rfl Tryz.ntmps81 (by kernel_rfl) Tryz.results81 ?_
  intro args g pre r new hF hpre
  unfold F_wideMul at hF
  split at hF
  · rename_i a b
    simp only [Option.some.injEq, Prod.mk.injEq] at hF
    obtain ⟨rfl, hr, rfl⟩ := hF
    refine ⟨by simp, ?_⟩
    simp (config := { maxSteps := 4000000, implicitDefEqProofs := false }) only [F_mul64_eq, WK0, WK1, WK2, WK3, WK4, WK5, WK6, WK7, WK8, WK9, WK10, WK11, WK12, WK13, WK14, WK15, WK16, WK17, WK18, WK19, WK20, WK21, WK22, WK23, WK24, WK25, WK26, WK27, WK28, WK29, WK30, look_hit, look_miss, List.map_cons, List.map_nil, Nat.add_zero, max_v, min_v, ↓cnd_t, ↓cnd_f, ↓grd_b, ↓grd_u, startEnv, Option.map_some, List.length_nil, List.length_cons, List.nil_append, List.cons_append, List.getElem?_cons_zero, List.getElem?_cons_succ, List.set_cons_zero, List.set_cons_succ, Bool.not_true, Bool.not_false, reduceIte, Nat.reduceEqDiff, Nat.reduceAdd, Nat.reduceLT, blt_lit, beq_lit, Bool.or_true, Bool.true_or, Bool.or_false, Bool.false_or, Bool.and_true, Bool.true_and, Bool.and_self, cond_true, cond_false, List.append_nil, Iv.eta, Option.map_none, idxO_l0, idxO_l1, decide_true, decide_false, reqs_true, Int.zero_sub, wrap_lit, wrapu_lit, Int.reduceLE, Int.reduceLT, Int.reduceAdd, Int.reduceSub, Int.reduceMul, Int.reduceNeg, Int.reduceEq, Option.bind_some, bin_shr_u64, bin_shl_u64, bin_shr_i64, bin_shl_i64, and_m32', Int.reduceToNat, Int.reducePow, Int.reduceMod, Int.reduceDiv, wrap_u64s, true_or, or_true, true_and, and_true, Option.isSome_none, Option.isSome_some, Nat.reduceLeDiff, Nat.reduceMul, Int.toNat_natCast, Int.cast_ofNat_Int, Int.natCast_zero, Int.natCast_one, List.isEmpty_nil, List.isEmpty_cons, List.replicate_zero, List.replicate_succ, T1, T2, T3, T4, T5, T6, T9, T10, T11, T12, T21, T22, T23, T25, T26, T27, T28, T29, T30, T32, T33, T34, T35, T36, T37, T38, T39, T40, T41, T42, T43, T44, T46, T48, T50, T52, T53, T54, T55, T56, T57, T58, T59, T61, T62, T63, T64, T65, T66, T67, T68, T69, T70, T71, T72, T73, T74, T75, T76, T77, T78, T79, T80, T81, T82, T83, T84, T85, T87, T89, T91, T92, T93, T95, T96, T97, T98, T102, T103, T105, T107, T108, T109, T110, T112, T116, T120, T121, T122, T123, T124, T125, T126, T128, T130, T131, T132, T134, T135, T136, T137, T138, T140, T142, T143, T145, T146, T148, T149, T150, T152, T153, T154, T155, T156, T163, T164, T165, T166, T167]
    have hab := mul_bd hpre.1 hpre.2
    obtain ⟨ha, hb⟩ := hpre
    unfold inR at ha hb
    repeat' (first | with_reducible refine cnd_split (fun hc => ?_) (fun hc => ?_) | with_reducible refine Reqs.mk ?_ ?_)
    · unfold inU; omega
    all_goals (refine endS_w (t := (a * b)) hr ?_; simp only [decide_eq_true_eq, decide_eq_false_iff_not] at *; simp only [whi, wlo, IntKind.wrap_i64])
    · rw [show a % 18446744073709551616 = a + 18446744073709551616 by omega, show b % 18446744073709551616 = b + 18446744073709551616 by omega, Int.add_mul, Int.mul_add, Int.mul_add]
      generalize a * b = p at *
      omega
    · rw [show a % 18446744073709551616 = a + 18446744073709551616 by omega, show b % 18446744073709551616 = b by omega, Int.add_mul]
      generalize a * b = p at *
      omega
    · rw [show a % 18446744073709551616 = a by omega, show b % 18446744073709551616 = b + 18446744073709551616 by omega, Int.mul_add]
      generalize a * b = p at *
      omega
    · rw [show a % 18446744073709551616 = a by omega, show b % 18446744073709551616 = b by omega]
      generalize a * b = p at *
      omega
  · cases hF

-- times
def F_size : FT
  | [.c (.p (.int .i64 n))], _ => some (inR n, .v (.c (.p (.int .u64 ((n.natAbs : Int))))), [])
  | _, _ => none
theorem F_size_eq {n : Int} {g : List PC} : F_size [.c (.p (.int .i64 n))] g = some (inR n, .v (.c (.p (.int .u64 ((n.natAbs : Int))))), []) := rfl
def F_minus : FT
  | [.agg [.int .i64 w1, .int .u64 w2]], _ => some (inR w1 ∧ inU w2 ∧ -170141183460469231731687303715884105728 < wv w1 w2, .v (.agg [.int .i64 (whi (-(wv w1 w2))), .int .u64 (wlo (-(wv w1 w2)))]), [])
  | _, _ => none
theorem F_minus_eq {w1 : Int} {w2 : Int} {g : List PC} : F_minus [.agg [.int .i64 w1, .int .u64 w2]] g = some (inR w1 ∧ inU w2 ∧ -170141183460469231731687303715884105728 < wv w1 w2, .v (.agg [.int .i64 (whi (-(wv w1 w2))), .int .u64 (wlo (-(wv w1 w2)))]), []) := rfl

-- sgn
theorem abs_mul {a b : Int} : (a.natAbs : Int) * b.natAbs = (a * b).natAbs := by rw [Int.natAbs_mul, Int.natCast_mul]
theorem sgn_mul {a b : Int} {c : Bool} (h : (decide (a < 0) == decide (b < 0)) = c) : if c then 0 ≤ a * b else a * b ≤ 0 := by
  by_cases ha : a < 0 <;> by_cases hb : b < 0 <;> simp [ha, hb] at h <;> subst h
  · exact Int.le_of_lt (Int.mul_pos_of_neg_of_neg ha hb)
  · have := Int.mul_nonneg (a := -a) (b := b) (by omega) (by omega)
    rw [Int.neg_mul] at this
    simp only [Bool.false_eq_true, if_false]; omega
  · have := Int.mul_nonneg (a := a) (b := -b) (by omega) (by omega)
    rw [Int.mul_neg] at this
    simp only [Bool.false_eq_true, if_false]; omega
  · exact Int.mul_nonneg (by omega) (by omega)
theorem wide_in {w : Int} (h1 : -170141183460469231731687303715884105728 ≤ w) (h2 : w < 170141183460469231731687303715884105728) : inR (whi w) ∧ inU (wlo w) := by
  unfold inR inU whi wlo; omega

-- shift
theorem or_lit (k : Nat) {x q : Int} (hx : 0 ≤ x) (hx2 : x < 2 ^ k) (hq : 0 ≤ q) (h : q * 2 ^ k + x < 18446744073709551616) : (((BitVec.ofInt IntKind.u64.bits x ||| BitVec.ofInt IntKind.u64.bits (q * 2 ^ k)).toNat : Nat) : Int) = q * 2 ^ k + x := by
  obtain ⟨a, rfl⟩ := natOf hx
  obtain ⟨b, rfl⟩ := natOf hq
  have hc : ((b : Int) * 2 ^ k) = ((b * 2 ^ k : Nat) : Int) := by push_cast; rfl
  have hx' : a < 2 ^ k := by
    have : ((a : Nat) : Int) < ((2 ^ k : Nat) : Int) := by push_cast; exact hx2
    omega
  rw [hc] at h ⊢
  rw [or_nat _ _ (by omega) (by omega), Nat.or_comm, Nat.mul_comm b, ← Nat.two_pow_add_eq_or_of_lt hx' b]
  omega
def F_wideShift : FT
  | [.agg [.int .i64 w1, .int .u64 w2], .c (.p (.int .i64 n))], _ => some (inR w1 ∧ inU w2 ∧ (n = 29 ∨ n = 30 ∨ n = 32), .v (.agg [.int .i64 (whi (((wv w1 w2)) / 2 ^ n.toNat)), .int .u64 (wlo (((wv w1 w2)) / 2 ^ n.toNat))]), [])
  | _, _ => none
theorem F_wideShift_eq {w1 : Int} {w2 : Int} {n : Int} {g : List PC} : F_wideShift [.agg [.int .i64 w1, .int .u64 w2], .c (.p (.int .i64 n))] g = some (inR w1 ∧ inU w2 ∧ (n = 29 ∨ n = 30 ∨ n = 32), .v (.agg [.int .i64 (whi (((wv w1 w2)) / 2 ^ n.toNat)), .int .u64 (wlo (((wv w1 w2)) / 2 ^ n.toNat))]), []) := rfl

theorem shift_law (n k : Nat) (hnk : n + k = 64) {w1 w2 : Int} (h1 : -9223372036854775808 ≤ w1 ∧ w1 ≤ 9223372036854775807) (h2 : 0 ≤ w2 ∧ w2 ≤ 18446744073709551615) :
    w1 / 2 ^ n = whi (wv w1 w2 / 2 ^ n) ∧ (((BitVec.ofInt IntKind.u64.bits (w2 / 2 ^ n) ||| BitVec.ofInt IntKind.u64.bits (w1 % 18446744073709551616 * 2 ^ k % 18446744073709551616)).toNat : Nat) : Int) % 18446744073709551616 = wlo (wv w1 w2 / 2 ^ n) := by
  have hN : (0 : Int) < 2 ^ n := Int.pow_pos (by omega)
  have hK : (0 : Int) < 2 ^ k := Int.pow_pos (by omega)
  have hM : (18446744073709551616 : Int) = 2 ^ n * 2 ^ k := by rw [← Int.pow_add, hnk]; rfl
  generalize hP : (2 : Int) ^ n = P at *
  have e : w1 % 18446744073709551616 * 2 ^ k % 18446744073709551616 = w1 % P * 2 ^ k := by
    rw [Int.mul_emod, Int.emod_emod, ← Int.mul_emod, hM, Int.mul_comm w1, Int.mul_comm P, Int.mul_emod_mul_of_pos _ _ hK, Int.mul_comm]
  have hq : 0 ≤ w1 % P := Int.emod_nonneg _ (by omega)
  have hq2 : w1 % P < P := Int.emod_lt_of_pos _ hN
  have hx : 0 ≤ w2 / P := Int.ediv_nonneg h2.1 (by omega)
  have hx2 : w2 / P < 2 ^ k := Int.ediv_lt_of_lt_mul hN (by rw [Int.mul_comm, ← hM]; omega)
  have hw : wv w1 w2 / P = w1 * 2 ^ k + w2 / P := by
    unfold wv
    rw [hM, ← Int.mul_assoc, Int.mul_right_comm, Int.add_comm, Int.add_mul_ediv_right _ _ (by omega), Int.add_comm]
  have hlt : w1 % P * 2 ^ k + w2 / P < 18446744073709551616 := by
    have h3 : (w1 % P + 1) * 2 ^ k ≤ P * 2 ^ k := Int.mul_le_mul_of_nonneg_right (by omega) (by omega)
    rw [Int.add_mul, Int.one_mul, ← hM] at h3
    omega
  have hd : w1 * 2 ^ k = (w1 / P) * 18446744073709551616 + w1 % P * 2 ^ k := by
    rw [hM, ← Int.mul_assoc, ← Int.add_mul, Int.ediv_mul_add_emod]
  rw [e, or_lit k hx hx2 hq hlt, hw, hd]
  have hpos : 0 ≤ w1 % P * 2 ^ k := Int.mul_nonneg hq (by omega)
  generalize w1 % P * 2 ^ k = z at *
  unfold whi wlo
  omega

-- impl.WideShift
theorem impl_WideShift_wideShift_ok : Fn Tryz.prog 95 F_wideShift := by
  refine fn_of_go (O := orc [⟨48, F_within, .inl impl_within_within_ok⟩]) mixed T_ok (orc_sound _) Tryz.func95 (by kernel_rfl) rfl Tryz.ntmps95 (by kernel_rfl) Tryz.results95 ?_
  intro args g pre r new hF hpre
  unfold F_wideShift at hF
  split at hF
  · rename_i w1 w2 n
    simp only [Option.some.injEq, Prod.mk.injEq] at hF
    obtain ⟨rfl, hr, rfl⟩ := hF
    refine ⟨by simp, ?_⟩
    obtain ⟨h1, h2, hn⟩ := hpre
    unfold inR at h1
    unfold inU at h2
    rcases hn with rfl | rfl | rfl
    all_goals try simp (config := { maxSteps := 4000000, implicitDefEqProofs := false }) only [F_within_eq, WK0, WK1, WK2, WK3, WK4, WK5, WK6, WK7, WK8, WK9, WK10, WK11, WK12, WK13, WK14, WK15, WK16, WK17, WK18, WK19, WK20, WK21, WK22, WK23, WK24, WK25, WK26, WK27, WK28, WK29, WK30, look_hit, look_miss, List.map_cons, List.map_nil, Nat.add_zero, max_v, min_v, ↓cnd_t, ↓cnd_f, ↓grd_b, ↓grd_u, startEnv, Option.map_some, List.length_nil, List.length_cons, List.nil_append, List.cons_append, List.getElem?_cons_zero, List.getElem?_cons_succ, List.set_cons_zero, List.set_cons_succ, Bool.not_true, Bool.not_false, reduceIte, Nat.reduceEqDiff, Nat.reduceAdd, Nat.reduceLT, blt_lit, beq_lit, Bool.or_true, Bool.true_or, Bool.or_false, Bool.false_or, Bool.and_true, Bool.true_and, Bool.and_self, cond_true, cond_false, List.append_nil, Iv.eta, Option.map_none, idxO_l0, idxO_l1, decide_true, decide_false, reqs_true, Int.zero_sub, wrap_lit, wrapu_lit, Int.reduceLE, Int.reduceLT, Int.reduceAdd, Int.reduceSub, Int.reduceMul, Int.reduceNeg, Int.reduceEq, Option.bind_some, bin_shr_u64, bin_shl_u64, bin_shr_i64, bin_shl_i64, and_m32', Int.reduceToNat, Int.reducePow, Int.reduceMod, Int.reduceDiv, wrap_u64s, true_or, or_true, true_and, and_true, Option.isSome_none, Option.isSome_some, Nat.reduceLeDiff, Nat.reduceMul, Int.toNat_natCast, Int.cast_ofNat_Int, Int.natCast_zero, Int.natCast_one, List.isEmpty_nil, List.isEmpty_cons, List.replicate_zero, List.replicate_succ, T1, T2, T3, T4, T5, T6, T9, T10, T11, T12, T21, T22, T23, T25, T26, T27, T28, T29, T30, T32, T33, T34, T35, T36, T37, T38, T39, T40, T41, T42, T43, T44, T46, T48, T50, T52, T53, T54, T55, T56, T57, T58, T59, T61, T62, T63, T64, T65, T66, T67, T68, T69, T70, T71, T72, T73, T74, T75, T76, T77, T78, T79, T80, T81, T82, T83, T84, T85, T87, T89, T91, T92, T93, T95, T96, T97, T98, T102, T103, T105, T107, T108, T109, T110, T112, T116, T120, T121, T122, T123, T124, T125, T126, T128, T130, T131, T132, T134, T135, T136, T137, T138, T140, T142, T143, T145, T146, T148, T149, T150, T152, T153, T154, T155, T156, T163, T164, T165, T166, T167]
    all_goals repeat' (first | with_reducible refine cnd_split (fun hc => ?_) (fun hc => ?_) | with_reducible refine Reqs.mk ?_ ?_)
    all_goals (first | (have : False := by revert hc; decide); exact this.elim | skip)
    · exact endS_w (t := wv w1 w2 / 2 ^ 29) hr (shift_law 29 35 rfl h1 h2)
    · exact endS_w (t := wv w1 w2 / 2 ^ 30) hr (shift_law 30 34 rfl h1 h2)
    · exact endS_w (t := wv w1 w2 / 2 ^ 32) hr (shift_law 32 32 rfl h1 h2)
  · cases hF

-- mulFloor
def mulFloor (a b s : Int) : Int × Bool := wideInt (a * b / 2 ^ s.toNat)
def F_mulFloor : FT
  | [.c (.p (.int .i64 a)), .c (.p (.int .i64 b)), .c (.p (.int .i64 s))], _ => some (inR a ∧ inR b ∧ (s = 29 ∨ s = 30 ∨ s = 32), .tup [.c (.p (.int .i64 ((mulFloor a b s).1))), .c (.p (.bool ((mulFloor a b s).2)))], [])
  | _, _ => none
theorem F_mulFloor_eq {a : Int} {b : Int} {s : Int} {g : List PC} : F_mulFloor [.c (.p (.int .i64 a)), .c (.p (.int .i64 b)), .c (.p (.int .i64 s))] g = some (inR a ∧ inR b ∧ (s = 29 ∨ s = 30 ∨ s = 32), .tup [.c (.p (.int .i64 ((mulFloor a b s).1))), .c (.p (.bool ((mulFloor a b s).2)))], []) := rfl
theorem prod_in {a b : Int} (ha : inR a) (hb : inR b) : inR (whi (a * b)) ∧ inU (wlo (a * b)) := by
  have := mul_bd ha hb
  exact wide_in (by omega) (by omega)
theorem div_in {w : Int} (n : Nat) (h1 : -85070591730234615865843651857942052864 ≤ w) (h2 : w ≤ 85070591730234615865843651857942052864) : inR (whi (w / 2 ^ n)) ∧ inU (wlo (w / 2 ^ n)) := by
  have hN : (1 : Int) ≤ 2 ^ n := Int.pow_pos (by omega)
  generalize (2 : Int) ^ n = P at hN
  refine wide_in ?_ ?_
  · refine Int.le_ediv_of_mul_le (by omega) ?_
    omega
  · refine Int.ediv_lt_of_lt_mul (by omega) ?_
    omega

-- impl.MulFloor
theorem impl_MulFloor_mulFloor_ok : Fn Tryz.prog 78 F_mulFloor := by
  refine fn_of_go (O := orc [⟨48, F_within, .inl impl_within_within_ok⟩, ⟨81, F_wideMul, .inl impl_WideMul_wideMul_ok⟩, ⟨94, F_wideInt, .inl impl_WideInt_wideInt_ok⟩, ⟨95, F_wideShift, .inl impl_WideShift_wideShift_ok⟩]) mixed T_ok (orc_sound _) Tryz.func78 (by kernel_rfl) rfl Tryz.ntmps78 (by kernel_rfl) Tryz.results78 ?_
  intro args g pre r new hF hpre
  unfold F_mulFloor at hF
  split at hF
  · rename_i a b s
    simp only [Option.some.injEq, Prod.mk.injEq] at hF
    obtain ⟨rfl, hr, rfl⟩ := hF
    refine ⟨by simp, ?_⟩
    simp (config := { maxSteps := 4000000, implicitDefEqProofs := false }) only [F_wideInt_eq, F_wideMul_eq, F_wideShift_eq, F_within_eq, WK0, WK1, WK2, WK3, WK4, WK5, WK6, WK7, WK8, WK9, WK10, WK11, WK12, WK13, WK14, WK15, WK16, WK17, WK18, WK19, WK20, WK21, WK22, WK23, WK24, WK25, WK26, WK27, WK28, WK29, WK30, look_hit, look_miss, List.map_cons, List.map_nil, Nat.add_zero, max_v, min_v, ↓cnd_t, ↓cnd_f, ↓grd_b, ↓grd_u, startEnv, Option.map_some, List.length_nil, List.length_cons, List.nil_append, List.cons_append, List.getElem?_cons_zero, List.getElem?_cons_succ, List.set_cons_zero, List.set_cons_succ, Bool.not_true, Bool.not_false, reduceIte, Nat.reduceEqDiff, Nat.reduceAdd, Nat.reduceLT, blt_lit, beq_lit, Bool.or_true, Bool.true_or, Bool.or_false, Bool.false_or, Bool.and_true, Bool.true_and, Bool.and_self, cond_true, cond_false, List.append_nil, Iv.eta, Option.map_none, idxO_l0, idxO_l1, decide_true, decide_false, reqs_true, Int.zero_sub, wrap_lit, wrapu_lit, Int.reduceLE, Int.reduceLT, Int.reduceAdd, Int.reduceSub, Int.reduceMul, Int.reduceNeg, Int.reduceEq, Option.bind_some, bin_shr_u64, bin_shl_u64, bin_shr_i64, bin_shl_i64, and_m32', Int.reduceToNat, Int.reducePow, Int.reduceMod, Int.reduceDiv, wrap_u64s, true_or, or_true, true_and, and_true, Option.isSome_none, Option.isSome_some, Nat.reduceLeDiff, Nat.reduceMul, Int.toNat_natCast, Int.cast_ofNat_Int, Int.natCast_zero, Int.natCast_one, List.isEmpty_nil, List.isEmpty_cons, List.replicate_zero, List.replicate_succ, T1, T2, T3, T4, T5, T6, T9, T10, T11, T12, T21, T22, T23, T25, T26, T27, T28, T29, T30, T32, T33, T34, T35, T36, T37, T38, T39, T40, T41, T42, T43, T44, T46, T48, T50, T52, T53, T54, T55, T56, T57, T58, T59, T61, T62, T63, T64, T65, T66, T67, T68, T69, T70, T71, T72, T73, T74, T75, T76, T77, T78, T79, T80, T81, T82, T83, T84, T85, T87, T89, T91, T92, T93, T95, T96, T97, T98, T102, T103, T105, T107, T108, T109, T110, T112, T116, T120, T121, T122, T123, T124, T125, T126, T128, T130, T131, T132, T134, T135, T136, T137, T138, T140, T142, T143, T145, T146, T148, T149, T150, T152, T153, T154, T155, T156, T163, T164, T165, T166, T167]
    have hab := mul_bd hpre.1 hpre.2.1
    obtain ⟨ha, hb, hs⟩ := hpre
    rw [wv_eta, wv_eta]
    have h1 := prod_in ha hb
    have h2 := div_in s.toNat hab.1 hab.2
    repeat' (first | with_reducible refine cnd_split (fun hc => ?_) (fun hc => ?_) | with_reducible refine Reqs.mk ?_ ?_)
    · exact ⟨ha, hb⟩
    · exact ⟨h1.1, h1.2, hs⟩
    · exact h2
    · exact endS_ib (t := (mulFloor a b s)) hr rfl
    · exfalso; rcases hs with rfl | rfl | rfl <;> revert hc <;> decide
  · cases hF

-- root
def rootL : Nat → Int → Int → Int
  | 0, out, _ => out
  | i + 1, out, w => if (out + 2 ^ i) * (out + 2 ^ i) ≤ w then rootL i (out + 2 ^ i) w else rootL i out w
def rootW (w : Int) : Int := rootL 64 0 w
theorem rootL_spec : ∀ (i : Nat) (out w : Int), out * out ≤ w → w < (out + 2 ^ i) * (out + 2 ^ i) → rootL i out w * rootL i out w ≤ w ∧ w < (rootL i out w + 1) * (rootL i out w + 1)
  | 0, out, w, h1, h2 => by simpa [rootL] using ⟨h1, h2⟩
  | i + 1, out, w, h1, h2 => by
    unfold rootL
    split
    · rename_i h
      refine rootL_spec i _ w h ?_
      rw [Int.add_assoc, ← Int.two_mul, ← Int.pow_succ']
      exact h2
    · exact rootL_spec i out w h1 (by omega)
def F_wideRoot : FT
  | [.agg [.int .i64 w1, .int .u64 w2]], _ => some (inR w1 ∧ inU w2 ∧ 0 ≤ w1, .v (.c (.p (.int .u64 (rootW (wv w1 w2))))), [])
  | _, _ => none
theorem F_wideRoot_eq {w1 : Int} {w2 : Int} {g : List PC} : F_wideRoot [.agg [.int .i64 w1, .int .u64 w2]] g = some (inR w1 ∧ inU w2 ∧ 0 ≤ w1, .v (.c (.p (.int .u64 (rootW (wv w1 w2))))), []) := rfl
def F_wideSqrt : FT
  | [.agg [.int .i64 w1, .int .u64 w2]], _ => some (inR w1 ∧ inU w2 ∧ 0 ≤ w1, .tup [.c (.p (.int .u64 (((rootW (wv w1 w2), true)).1))), .c (.p (.bool (((rootW (wv w1 w2), true)).2)))], [])
  | _, _ => none
theorem F_wideSqrt_eq {w1 : Int} {w2 : Int} {g : List PC} : F_wideSqrt [.agg [.int .i64 w1, .int .u64 w2]] g = some (inR w1 ∧ inU w2 ∧ 0 ≤ w1, .tup [.c (.p (.int .u64 (((rootW (wv w1 w2), true)).1))), .c (.p (.bool (((rootW (wv w1 w2), true)).2)))], []) := rfl

-- rootI
def rootI (k : Nat) (out w : Int) : Prop := 0 ≤ out ∧ out % 2 ^ k = 0 ∧ out + 2 ^ k ≤ 18446744073709551616 ∧ rootL k out w = rootW w ∧ k ≤ 64
theorem rootI_0 (w : Int) : rootI 64 0 w := ⟨by omega, by simp, by decide, rfl, by omega⟩
theorem rootI_or {k : Nat} {out w : Int} (h : rootI (k + 1) out w) : (((BitVec.ofInt IntKind.u64.bits out ||| BitVec.ofInt IntKind.u64.bits (2 ^ k)).toNat : Nat) : Int) % 18446744073709551616 = out + 2 ^ k ∧ inU (out + 2 ^ k) := by
  obtain ⟨h1, h2, h3, h4, h5⟩ := h
  have hN : (0 : Int) < 2 ^ k := Int.pow_pos (by omega)
  have hs : (2 : Int) ^ (k + 1) = 2 ^ k * 2 := Int.pow_succ ..
  have hq : out = out / 2 ^ (k + 1) * 2 ^ (k + 1) := by
    have := Int.ediv_mul_add_emod out (2 ^ (k + 1))
    omega
  have hq0 : 0 ≤ out / 2 ^ (k + 1) := Int.ediv_nonneg h1 (by omega)
  have key := or_lit (k + 1) (x := 2 ^ k) (q := out / 2 ^ (k + 1)) (by omega) (by omega) hq0 (by rw [← hq]; omega)
  rw [← hq] at key
  rw [BitVec.or_comm, key]
  unfold inU
  omega
theorem rootI_shl {T : Tab} {t : Nat} {k : Nat} (κ : IntKind) (hk : k < 64) : binO T .shl t (some (.c (.p (.int .u64 1)))) (some (.c (.p (.int κ (k : Int))))) = some (sp (.int .u64 (2 ^ k))) := by
  have hb : IntKind.u64.bits = 64 := rfl
  rw [bin_shl (by omega), hb, Int.toNat_natCast, Nat.min_eq_left (by omega), Int.one_mul, IntKind.wrap_u64]
  have h1 : (0 : Int) < 2 ^ k := Int.pow_pos (by omega)
  have h2 : (2 : Int) ^ k < 18446744073709551616 := by
    have : 2 ^ k < 2 ^ 64 := Nat.pow_lt_pow_right (by omega) hk
    have : ((2 ^ k : Nat) : Int) < ((2 ^ 64 : Nat) : Int) := by omega
    simpa using this
  rw [Int.emod_eq_of_lt (by omega) h2]
theorem rootI_t {k : Nat} {out w : Int} (h : rootI (k + 1) out w) (hc : (out + 2 ^ k) * (out + 2 ^ k) ≤ w) : rootI k (out + 2 ^ k) w := by
  obtain ⟨h1, h2, h3, h4, h5⟩ := h
  have hN : (0 : Int) < 2 ^ k := Int.pow_pos (by omega)
  have hs : (2 : Int) ^ (k + 1) = 2 ^ k * 2 := Int.pow_succ ..
  have h6 : out % 2 ^ k = 0 := by
    have := Int.emod_emod_of_dvd out (Int.dvd_mul_right (2 ^ k) 2)
    rw [← hs, h2] at this
    simpa using this.symm
  refine ⟨by omega, by rw [Int.add_emod_right]; exact h6, by omega, ?_, by omega⟩
  rw [← h4, rootL, if_pos hc]
theorem rootI_f {k : Nat} {out w : Int} (h : rootI (k + 1) out w) (hc : ¬ (out + 2 ^ k) * (out + 2 ^ k) ≤ w) : rootI k out w := by
  obtain ⟨h1, h2, h3, h4, h5⟩ := h
  have hN : (0 : Int) < 2 ^ k := Int.pow_pos (by omega)
  have hs : (2 : Int) ^ (k + 1) = 2 ^ k * 2 := Int.pow_succ ..
  have h6 : out % 2 ^ k = 0 := by
    have := Int.emod_emod_of_dvd out (Int.dvd_mul_right (2 ^ k) 2)
    rw [← hs, h2] at this
    simpa using this.symm
  refine ⟨h1, h6, by omega, ?_, by omega⟩
  rw [← h4, rootL, if_neg hc]

-- impl.WideSqrt
theorem impl_WideSqrt_wideSqrt_ok : Fn Tryz.prog 97 F_wideSqrt := by
  refine fn_of_go (O := orc [⟨98, F_mul64, .inl math_bits_Mul64_mul64_ok⟩]) mixed T_ok (orc_sound _) Tryz.func97 (by kernel_rfl) rfl Tryz.ntmps97 (by kernel_rfl) Tryz.results97 ?_
  intro args g pre r new hF hpre
  unfold F_wideSqrt at hF
  split at hF
  · rename_i w1 w2
    simp only [Option.some.injEq, Prod.mk.injEq] at hF
    obtain ⟨rfl, hr, rfl⟩ := hF
    refine ⟨by simp, ?_⟩
    simp (config := { maxSteps := 4000000, implicitDefEqProofs := false }) only [F_mul64_eq, WK0, WK1, WK2, WK3, WK4, WK5, WK6, WK7, WK8, WK9, WK10, WK11, WK12, WK13, WK14, WK15, WK16, WK17, WK18, WK19, WK20, WK21, WK22, WK23, WK24, WK25, WK26, WK27, WK28, WK29, WK30, look_hit, look_miss, List.map_cons, List.map_nil, Nat.add_zero, max_v, min_v, ↓cnd_t, ↓cnd_f, ↓grd_b, ↓grd_u, startEnv, Option.map_some, List.length_nil, List.length_cons, List.nil_append, List.cons_append, List.getElem?_cons_zero, List.getElem?_cons_succ, List.set_cons_zero, List.set_cons_succ, Bool.not_true, Bool.not_false, reduceIte, Nat.reduceEqDiff, Nat.reduceAdd, Nat.reduceLT, blt_lit, beq_lit, Bool.or_true, Bool.true_or, Bool.or_false, Bool.false_or, Bool.and_true, Bool.true_and, Bool.and_self, cond_true, cond_false, List.append_nil, Iv.eta, Option.map_none, idxO_l0, idxO_l1, decide_true, decide_false, reqs_true, Int.zero_sub, wrap_lit, wrapu_lit, Int.reduceLE, Int.reduceLT, Int.reduceAdd, Int.reduceSub, Int.reduceMul, Int.reduceNeg, Int.reduceEq, Option.bind_some, bin_shr_u64, bin_shl_u64, bin_shr_i64, bin_shl_i64, and_m32', Int.reduceToNat, Int.reducePow, Int.reduceMod, Int.reduceDiv, wrap_u64s, true_or, or_true, true_and, and_true, Option.isSome_none, Option.isSome_some, Nat.reduceLeDiff, Nat.reduceMul, Int.toNat_natCast, Int.cast_ofNat_Int, Int.natCast_zero, Int.natCast_one, List.isEmpty_nil, List.isEmpty_cons, List.replicate_zero, List.replicate_succ, T1, T2, T3, T4, T5, T6, T9, T10, T11, T12, T21, T22, T23, T25, T26, T27, T28, T29, T30, T32, T33, T34, T35, T36, T37, T38, T39, T40, T41, T42, T43, T44, T46, T48, T50, T52, T53, T54, T55, T56, T57, T58, T59, T61, T62, T63, T64, T65, T66, T67, T68, T69, T70, T71, T72, T73, T74, T75, T76, T77, T78, T79, T80, T81, T82, T83, T84, T85, T87, T89, T91, T92, T93, T95, T96, T97, T98, T102, T103, T105, T107, T108, T109, T110, T112, T116, T120, T121, T122, T123, T124, T125, T126, T128, T130, T131, T132, T134, T135, T136, T137, T138, T140, T142, T143, T145, T146, T148, T149, T150, T152, T153, T154, T155, T156, T163, T164, T165, T166, T167]
    obtain ⟨p1, p2, p3⟩ := hpre
    unfold inR at p1
    unfold inU at p2
    repeat' (first | with_reducible refine cnd_split (fun hc => ?_) (fun hc => ?_) | with_reducible refine Reqs.mk ?_ ?_)
    · simp only [decide_eq_true_eq] at hc; omega
    refine go_loop (α := Nat × Int) (fun a => a.1) (fun a e h => h = [[.int .i64 w1, .int .u64 w2]] ∧ look e 1 = some (.v (.c (.ptr (.own 0 0)))) ∧ look e 4 = some (.v (.c (.p (.int .u64 a.2)))) ∧ look e 5 = some (.v (.c (.p (.int .i64 ((a.1 : Int) - 1))))) ∧ rootI a.1 a.2 (wv w1 w2)) (64, 0) ?_ ?_
    · exact ⟨rfl, rfl, rfl, rfl, rootI_0 _⟩
    · rintro X ⟨k, out⟩ e h ⟨rfl, l1, l4, l5, inv⟩ hX
      simp only at l4 l5 inv hX
      cases k with
      | zero =>
        simp only [Int.natCast_zero, Int.zero_sub] at l5
        simp (config := { maxSteps := 4000000, implicitDefEqProofs := false }) only [F_mul64_eq, WK0, WK1, WK2, WK3, WK4, WK5, WK6, WK7, WK8, WK9, WK10, WK11, WK12, WK13, WK14, WK15, WK16, WK17, WK18, WK19, WK20, WK21, WK22, WK23, WK24, WK25, WK26, WK27, WK28, WK29, WK30, look_hit, look_miss, List.map_cons, List.map_nil, Nat.add_zero, max_v, min_v, ↓cnd_t, ↓cnd_f, ↓grd_b, ↓grd_u, startEnv, Option.map_some, List.length_nil, List.length_cons, List.nil_append, List.cons_append, List.getElem?_cons_zero, List.getElem?_cons_succ, List.set_cons_zero, List.set_cons_succ, Bool.not_true, Bool.not_false, reduceIte, Nat.reduceEqDiff, Nat.reduceAdd, Nat.reduceLT, blt_lit, beq_lit, Bool.or_true, Bool.true_or, Bool.or_false, Bool.false_or, Bool.and_true, Bool.true_and, Bool.and_self, cond_true, cond_false, List.append_nil, Iv.eta, Option.map_none, idxO_l0, idxO_l1, decide_true, decide_false, reqs_true, Int.zero_sub, wrap_lit, wrapu_lit, Int.reduceLE, Int.reduceLT, Int.reduceAdd, Int.reduceSub, Int.reduceMul, Int.reduceNeg, Int.reduceEq, Option.bind_some, bin_shr_u64, bin_shl_u64, bin_shr_i64, bin_shl_i64, and_m32', Int.reduceToNat, Int.reducePow, Int.reduceMod, Int.reduceDiv, wrap_u64s, true_or, or_true, true_and, and_true, Option.isSome_none, Option.isSome_some, Nat.reduceLeDiff, Nat.reduceMul, Int.toNat_natCast, Int.cast_ofNat_Int, Int.natCast_zero, Int.natCast_one, List.isEmpty_nil, List.isEmpty_cons, List.replicate_zero, List.replicate_succ, T1, T2, T3, T4, T5, T6, T9, T10, T11, T12, T21, T22, T23, T25, T26, T27, T28, T29, T30, T32, T33, T34, T35, T36, T37, T38, T39, T40, T41, T42, T43, T44, T46, T48, T50, T52, T53, T54, T55, T56, T57, T58, T59, T61, T62, T63, T64, T65, T66, T67, T68, T69, T70, T71, T72, T73, T74, T75, T76, T77, T78, T79, T80, T81, T82, T83, T84, T85, T87, T89, T91, T92, T93, T95, T96, T97, T98, T102, T103, T105, T107, T108, T109, T110, T112, T116, T120, T121, T122, T123, T124, T125, T126, T128, T130, T131, T132, T134, T135, T136, T137, T138, T140, T142, T143, T145, T146, T148, T149, T150, T152, T153, T154, T155, T156, T163, T164, T165, T166, T167, l1, l4, l5]
        refine endS_ub (t := ((rootW (wv w1 w2), true))) hr ?_
        obtain ⟨h1, h2, h3, h4, h5⟩ := inv
        rw [← h4]; rfl
      | succ k =>
        have e5 : ((k + 1 : Nat) : Int) - 1 = k := by omega
        rw [e5] at l5
        have hk : k < 64 := by have := inv.2.2.2.2; omega
        have ho := rootI_or inv
        have hs := @rootI_shl T 66 k .i64 hk
        have hm : (k : Int) % 18446744073709551616 = k := by omega
        have hw : IntKind.i64.wrap ((k : Int) - 1) = (k : Int) - 1 := wrap_in (by unfold inR; omega)
        simp (config := { maxSteps := 4000000, implicitDefEqProofs := false }) only [F_mul64_eq, WK0, WK1, WK2, WK3, WK4, WK5, WK6, WK7, WK8, WK9, WK10, WK11, WK12, WK13, WK14, WK15, WK16, WK17, WK18, WK19, WK20, WK21, WK22, WK23, WK24, WK25, WK26, WK27, WK28, WK29, WK30, look_hit, look_miss, List.map_cons, List.map_nil, Nat.add_zero, max_v, min_v, ↓cnd_t, ↓cnd_f, ↓grd_b, ↓grd_u, startEnv, Option.map_some, List.length_nil, List.length_cons, List.nil_append, List.cons_append, List.getElem?_cons_zero, List.getElem?_cons_succ, List.set_cons_zero, List.set_cons_succ, Bool.not_true, Bool.not_false, reduceIte, Nat.reduceEqDiff, Nat.reduceAdd, Nat.reduceLT, blt_lit, beq_lit, Bool.or_true, Bool.true_or, Bool.or_false, Bool.false_or, Bool.and_true, Bool.true_and, Bool.and_self, cond_true, cond_false, List.append_nil, Iv.eta, Option.map_none, idxO_l0, idxO_l1, decide_true, decide_false, reqs_true, Int.zero_sub, wrap_lit, wrapu_lit, Int.reduceLE, Int.reduceLT, Int.reduceAdd, Int.reduceSub, Int.reduceMul, Int.reduceNeg, Int.reduceEq, Option.bind_some, bin_shr_u64, bin_shl_u64, bin_shr_i64, bin_shl_i64, and_m32', Int.reduceToNat, Int.reducePow, Int.reduceMod, Int.reduceDiv, wrap_u64s, true_or, or_true, true_and, and_true, Option.isSome_none, Option.isSome_some, Nat.reduceLeDiff, Nat.reduceMul, Int.toNat_natCast, Int.cast_ofNat_Int, Int.natCast_zero, Int.natCast_one, List.isEmpty_nil, List.isEmpty_cons, List.replicate_zero, List.replicate_succ, T1, T2, T3, T4, T5, T6, T9, T10, T11, T12, T21, T22, T23, T25, T26, T27, T28, T29, T30, T32, T33, T34, T35, T36, T37, T38, T39, T40, T41, T42, T43, T44, T46, T48, T50, T52, T53, T54, T55, T56, T57, T58, T59, T61, T62, T63, T64, T65, T66, T67, T68, T69, T70, T71, T72, T73, T74, T75, T76, T77, T78, T79, T80, T81, T82, T83, T84, T85, T87, T89, T91, T92, T93, T95, T96, T97, T98, T102, T103, T105, T107, T108, T109, T110, T112, T116, T120, T121, T122, T123, T124, T125, T126, T128, T130, T131, T132, T134, T135, T136, T137, T138, T140, T142, T143, T145, T146, T148, T149, T150, T152, T153, T154, T155, T156, T163, T164, T165, T166, T167, l1, l4, l5, ho.1, hs, hm]
        repeat' (first | with_reducible refine cnd_split (fun hc => ?_) (fun hc => ?_) | with_reducible refine Reqs.mk ?_ ?_)
        all_goals (first | exact ⟨ho.2, ho.2⟩ | skip)
        all_goals simp only [decide_eq_true_eq, decide_eq_false_iff_not] at *
        all_goals first
          | (exfalso; omega)
          | (have hp : (out + 2 ^ k) * (out + 2 ^ k) ≤ wv w1 w2 := by unfold wv; omega
             exact hX (k, out + 2 ^ k) _ _ (by simp only; omega) ⟨rfl, by simp [look, l1], by simp [look], by simp [look, hw], rootI_t inv hp⟩)
          | (have hp : ¬ (out + 2 ^ k) * (out + 2 ^ k) ≤ wv w1 w2 := by unfold wv; omega
             exact hX (k, out) _ _ (by simp only; omega) ⟨rfl, by simp [look, l1], by simp [look, l4], by simp [look, hw], rootI_f inv hp⟩)
  · cases hF

-- sqrtFloor
def sqrtFloor (a b : Int) : Int × Bool := if a < 0 ∨ b < 0 then (0, false) else (rootW (a * b), true)
def F_sqrtFloor : FT
  | [.c (.p (.int .i64 a)), .c (.p (.int .i64 b))], _ => some (inR a ∧ inR b, .tup [.c (.p (.int .i64 ((sqrtFloor a b).1))), .c (.p (.bool ((sqrtFloor a b).2)))], [])
  | _, _ => none
theorem F_sqrtFloor_eq {a : Int} {b : Int} {g : List PC} : F_sqrtFloor [.c (.p (.int .i64 a)), .c (.p (.int .i64 b))] g = some (inR a ∧ inR b, .tup [.c (.p (.int .i64 ((sqrtFloor a b).1))), .c (.p (.bool ((sqrtFloor a b).2)))], []) := rfl
theorem rootW_spec {w : Int} (h0 : 0 ≤ w) (h1 : w < 340282366920938463463374607431768211456) : rootW w * rootW w ≤ w ∧ w < (rootW w + 1) * (rootW w + 1) := by
  refine rootL_spec 64 0 w (by simpa using h0) ?_
  have : ((0 : Int) + 2 ^ 64) * (0 + 2 ^ 64) = 340282366920938463463374607431768211456 := by decide
  rw [this]; exact h1
theorem rootL_nonneg : ∀ (i : Nat) (out w : Int), 0 ≤ out → 0 ≤ rootL i out w
  | 0, out, w, h => h
  | i + 1, out, w, h => by
    unfold rootL
    have : (0 : Int) < 2 ^ i := Int.pow_pos (by omega)
    split
    · exact rootL_nonneg i _ w (by omega)
    · exact rootL_nonneg i _ w h
theorem rootW_nonneg (w : Int) : 0 ≤ rootW w := rootL_nonneg 64 0 w (by omega)
theorem rootW_in {a b : Int} (ha : inR a) (hb : inR b) (h1 : 0 ≤ a) (h2 : 0 ≤ b) : 0 ≤ a * b ∧ inR (rootW (a * b)) := by
  have hab := mul_bd ha hb
  have h0 : 0 ≤ a * b := Int.mul_nonneg h1 h2
  unfold inR at ha hb
  have hlt : a * b ≤ 9223372036854775807 * 9223372036854775807 := Int.mul_le_mul ha.2 hb.2 h2 (by omega)
  have hs := rootW_spec h0 (by omega)
  have hn := rootW_nonneg (a * b)
  refine ⟨h0, ?_⟩
  unfold inR
  refine ⟨by omega, ?_⟩
  apply Int.le_of_not_gt
  intro hgt
  have := Int.mul_le_mul (a := 9223372036854775808) (b := 9223372036854775808) (c := rootW (a * b)) (d := rootW (a * b)) (by omega) (by omega) (by omega) (by omega)
  omega

-- impl.SqrtFloor
theorem impl_SqrtFloor_sqrtFloor_ok : Fn Tryz.prog 80 F_sqrtFloor := by
  refine fn_of_go (O := orc [⟨81, F_wideMul, .inl impl_WideMul_wideMul_ok⟩, ⟨97, F_wideSqrt, .inl impl_WideSqrt_wideSqrt_ok⟩]) mixed T_ok (orc_sound _) Tryz.func80 (by kernel_rfl) rfl Tryz.ntmps80 (by kernel_rfl) Tryz.results80 ?_
  intro args g pre r new hF hpre
  unfold F_sqrtFloor at hF
  split at hF
  · rename_i a b
    simp only [Option.some.injEq, Prod.mk.injEq] at hF
    obtain ⟨rfl, hr, rfl⟩ := hF
    refine ⟨by simp, ?_⟩
    simp (config := { maxSteps := 4000000, implicitDefEqProofs := false }) only [F_wideMul_eq, F_wideSqrt_eq, WK0, WK1, WK2, WK3, WK4, WK5, WK6, WK7, WK8, WK9, WK10, WK11, WK12, WK13, WK14, WK15, WK16, WK17, WK18, WK19, WK20, WK21, WK22, WK23, WK24, WK25, WK26, WK27, WK28, WK29, WK30, look_hit, look_miss, List.map_cons, List.map_nil, Nat.add_zero, max_v, min_v, ↓cnd_t, ↓cnd_f, ↓grd_b, ↓grd_u, startEnv, Option.map_some, List.length_nil, List.length_cons, List.nil_append, List.cons_append, List.getElem?_cons_zero, List.getElem?_cons_succ, List.set_cons_zero, List.set_cons_succ, Bool.not_true, Bool.not_false, reduceIte, Nat.reduceEqDiff, Nat.reduceAdd, Nat.reduceLT, blt_lit, beq_lit, Bool.or_true, Bool.true_or, Bool.or_false, Bool.false_or, Bool.and_true, Bool.true_and, Bool.and_self, cond_true, cond_false, List.append_nil, Iv.eta, Option.map_none, idxO_l0, idxO_l1, decide_true, decide_false, reqs_true, Int.zero_sub, wrap_lit, wrapu_lit, Int.reduceLE, Int.reduceLT, Int.reduceAdd, Int.reduceSub, Int.reduceMul, Int.reduceNeg, Int.reduceEq, Option.bind_some, bin_shr_u64, bin_shl_u64, bin_shr_i64, bin_shl_i64, and_m32', Int.reduceToNat, Int.reducePow, Int.reduceMod, Int.reduceDiv, wrap_u64s, true_or, or_true, true_and, and_true, Option.isSome_none, Option.isSome_some, Nat.reduceLeDiff, Nat.reduceMul, Int.toNat_natCast, Int.cast_ofNat_Int, Int.natCast_zero, Int.natCast_one, List.isEmpty_nil, List.isEmpty_cons, List.replicate_zero, List.replicate_succ, T1, T2, T3, T4, T5, T6, T9, T10, T11, T12, T21, T22, T23, T25, T26, T27, T28, T29, T30, T32, T33, T34, T35, T36, T37, T38, T39, T40, T41, T42, T43, T44, T46, T48, T50, T52, T53, T54, T55, T56, T57, T58, T59, T61, T62, T63, T64, T65, T66, T67, T68, T69, T70, T71, T72, T73, T74, T75, T76, T77, T78, T79, T80, T81, T82, T83, T84, T85, T87, T89, T91, T92, T93, T95, T96, T97, T98, T102, T103, T105, T107, T108, T109, T110, T112, T116, T120, T121, T122, T123, T124, T125, T126, T128, T130, T131, T132, T134, T135, T136, T137, T138, T140, T142, T143, T145, T146, T148, T149, T150, T152, T153, T154, T155, T156, T163, T164, T165, T166, T167]
    obtain ⟨ha, hb⟩ := hpre
    rw [wv_eta]
    repeat' (first | with_reducible refine cnd_split (fun hc => ?_) (fun hc => ?_) | with_reducible refine Reqs.mk ?_ ?_)
    all_goals simp only [decide_eq_true_eq, decide_eq_false_iff_not, Int.not_lt] at *
    all_goals first
      | exact ⟨ha, hb⟩
      | (have h1 := rootW_in ha hb (by omega) (by omega)
         have h2 := prod_in ha hb
         first
         | exact ⟨h2.1, h2.2, by unfold whi; omega⟩
         | (refine endS_ib (t := (sqrtFloor a b)) hr ?_
            rw [wrap_in h1.2, sqrtFloor, if_neg (by omega)]))
      | (refine endS_ib (t := (sqrtFloor a b)) hr ?_; rw [sqrtFloor, if_pos (by omega)])
  · cases hF

end Go.Proofs.YtcnapkdccjibpaaGreatDoor.Eng
