/- What functions of the program compute, and that the program computes it: part 4. -/
import Derived.Test.YtcnapkdccjibpaaDoorTab
import Derived.Test.YtcnapkdccjibpaaDoorEng16
import Derived.Laws.BitsLemmas
import Derived.Laws.Bits64
import Derived.Laws.Bits64b
import Derived.Lib.Mul64
import Derived.Lib.BitFns
import Derived.Laws.Externs
import Derived.Test.YtcnapkdccjibpaaDoorL1
import Derived.Test.YtcnapkdccjibpaaDoorL2
namespace Go.Proofs.YtcnapkdccjibpaaDoor.Eng
open Go Go.RowKit
set_option linter.unusedVariables false
set_option linter.unusedSimpArgs false
set_option maxRecDepth 100000
set_option maxHeartbeats 1000000
-- fix
def fixOk (n : Int) : Bool := within n (-1152921504606846976) 1152921504606846976
def F_fixOk : FT
  | [.c (.p (.int .i64 n))], _ => some (True, .v (.c (.p (.bool (fixOk n)))), [])
  | _, _ => none
theorem F_fixOk_eq {n : Int} {g : List PC} : F_fixOk [.c (.p (.int .i64 n))] g = some (True, .v (.c (.p (.bool (fixOk n)))), []) := rfl
theorem fixOk_iff {n : Int} : fixOk n = true ↔ -1152921504606846976 ≤ n ∧ n ≤ 1152921504606846976 := within_iff
def fixed (n : Int) (ok : Bool) : Int × Bool := if ok && fixOk n then (n, true) else (0, false)
def F_fixed : FT
  | [.c (.p (.int .i64 n)), .c (.p (.bool ok))], _ => some (True, .tup [.c (.p (.int .i64 ((fixed n ok).1))), .c (.p (.bool ((fixed n ok).2)))], [])
  | _, _ => none
theorem F_fixed_eq {n : Int} {ok : Bool} {g : List PC} : F_fixed [.c (.p (.int .i64 n)), .c (.p (.bool ok))] g = some (True, .tup [.c (.p (.int .i64 ((fixed n ok).1))), .c (.p (.bool ((fixed n ok).2)))], []) := rfl

-- impl.ValidFix
theorem impl_ValidFix_fixOk_ok : Fn Tryd.prog 14 F_fixOk := by
  refine fn_of_go (O := orc [⟨15, F_within, .inl impl_within_within_ok⟩]) mixed T_ok (orc_sound _) Tryd.func14 (by kernel_rfl) rfl Tryd.ntmps14 (by kernel_rfl) Tryd.results14 ?_
  intro args g pre r new hF hpre
  unfold F_fixOk at hF
  split at hF
  · rename_i n
    simp only [Option.some.injEq, Prod.mk.injEq] at hF
    obtain ⟨rfl, hr, rfl⟩ := hF
    refine ⟨by simp, ?_⟩
    simp (config := { maxSteps := 4000000, implicitDefEqProofs := false }) only [F_within_eq, WK0, WK1, WK2, WK3, WK4, WK5, WK6, WK7, WK8, WK9, WK10, WK11, WK12, WK13, WK14, WK15, WK16, WK17, WK18, WK19, WK20, WK21, WK22, WK23, WK24, WK25, WK26, WK27, WK28, look_hit, look_miss, List.map_cons, List.map_nil, Nat.add_zero, max_v, min_v, ↓cnd_t, ↓cnd_f, ↓grd_b, ↓grd_u, startEnv, Option.map_some, List.length_nil, List.length_cons, List.nil_append, List.cons_append, List.getElem?_cons_zero, List.getElem?_cons_succ, List.set_cons_zero, List.set_cons_succ, Bool.not_true, Bool.not_false, reduceIte, Nat.reduceEqDiff, Nat.reduceAdd, Nat.reduceLT, blt_lit, beq_lit, Bool.or_true, Bool.true_or, Bool.or_false, Bool.false_or, Bool.and_true, Bool.true_and, Bool.and_self, cond_true, cond_false, List.append_nil, Iv.eta, Option.map_none, idxO_l0, idxO_l1, decide_true, decide_false, reqs_true, Int.zero_sub, wrap_lit, wrapu_lit, Int.reduceLE, Int.reduceLT, Int.reduceAdd, Int.reduceSub, Int.reduceMul, Int.reduceNeg, Int.reduceEq, Option.bind_some, bin_shr_u64, bin_shl_u64, bin_shr_i64, bin_shl_i64, and_m32', Int.reduceToNat, Int.reducePow, Int.reduceMod, Int.reduceDiv, wrap_u64s, true_or, or_true, true_and, and_true, Option.isSome_none, Option.isSome_some, Nat.reduceLeDiff, Nat.reduceMul, Int.toNat_natCast, Int.cast_ofNat_Int, Int.natCast_zero, Int.natCast_one, List.isEmpty_nil, List.isEmpty_cons, List.replicate_zero, List.replicate_succ, T1, T2, T3, T4, T5, T6, T9, T10, T11, T12, T21, T22, T23, T24, T25, T26, T27, T28, T29, T30, T31, T32, T34, T35, T36, T37, T38, T39, T40, T41, T42, T43, T44, T45, T47, T48, T50, T51, T53, T56, T60, T61, T62, T63, T64, T65, T67, T69, T70, T71, T72, T74, T76, T77, T78, T79, T80, T82, T83, T84, T85, T86, T92, T93, T94, T95, T96, T99]
    repeat' (first | with_reducible refine cnd_split (fun hc => ?_) (fun hc => ?_) | with_reducible refine Reqs.mk ?_ ?_)
    exact endS_b (t := (fixOk n)) hr rfl
  · cases hF

-- spec.l03Ok
theorem spec_l03Ok_fixOk_ok : Fn Tryd.prog 19 F_fixOk := by
  refine fn_of_go (O := orc [⟨20, F_within, .inl spec_l00In_within_ok⟩]) mixed T_ok (orc_sound _) Tryd.func19 (by kernel_rfl) rfl Tryd.ntmps19 (by kernel_rfl) Tryd.results19 ?_
  intro args g pre r new hF hpre
  unfold F_fixOk at hF
  split at hF
  · rename_i n
    simp only [Option.some.injEq, Prod.mk.injEq] at hF
    obtain ⟨rfl, hr, rfl⟩ := hF
    refine ⟨by simp, ?_⟩
    simp (config := { maxSteps := 4000000, implicitDefEqProofs := false }) only [F_within_eq, WK0, WK1, WK2, WK3, WK4, WK5, WK6, WK7, WK8, WK9, WK10, WK11, WK12, WK13, WK14, WK15, WK16, WK17, WK18, WK19, WK20, WK21, WK22, WK23, WK24, WK25, WK26, WK27, WK28, look_hit, look_miss, List.map_cons, List.map_nil, Nat.add_zero, max_v, min_v, ↓cnd_t, ↓cnd_f, ↓grd_b, ↓grd_u, startEnv, Option.map_some, List.length_nil, List.length_cons, List.nil_append, List.cons_append, List.getElem?_cons_zero, List.getElem?_cons_succ, List.set_cons_zero, List.set_cons_succ, Bool.not_true, Bool.not_false, reduceIte, Nat.reduceEqDiff, Nat.reduceAdd, Nat.reduceLT, blt_lit, beq_lit, Bool.or_true, Bool.true_or, Bool.or_false, Bool.false_or, Bool.and_true, Bool.true_and, Bool.and_self, cond_true, cond_false, List.append_nil, Iv.eta, Option.map_none, idxO_l0, idxO_l1, decide_true, decide_false, reqs_true, Int.zero_sub, wrap_lit, wrapu_lit, Int.reduceLE, Int.reduceLT, Int.reduceAdd, Int.reduceSub, Int.reduceMul, Int.reduceNeg, Int.reduceEq, Option.bind_some, bin_shr_u64, bin_shl_u64, bin_shr_i64, bin_shl_i64, and_m32', Int.reduceToNat, Int.reducePow, Int.reduceMod, Int.reduceDiv, wrap_u64s, true_or, or_true, true_and, and_true, Option.isSome_none, Option.isSome_some, Nat.reduceLeDiff, Nat.reduceMul, Int.toNat_natCast, Int.cast_ofNat_Int, Int.natCast_zero, Int.natCast_one, List.isEmpty_nil, List.isEmpty_cons, List.replicate_zero, List.replicate_succ, T1, T2, T3, T4, T5, T6, T9, T10, T11, T12, T21, T22, T23, T24, T25, T26, T27, T28, T29, T30, T31, T32, T34, T35, T36, T37, T38, T39, T40, T41, T42, T43, T44, T45, T47, T48, T50, T51, T53, T56, T60, T61, T62, T63, T64, T65, T67, T69, T70, T71, T72, T74, T76, T77, T78, T79, T80, T82, T83, T84, T85, T86, T92, T93, T94, T95, T96, T99]
    repeat' (first | with_reducible refine cnd_split (fun hc => ?_) (fun hc => ?_) | with_reducible refine Reqs.mk ?_ ?_)
    exact endS_b (t := (fixOk n)) hr rfl
  · cases hF

end Go.Proofs.YtcnapkdccjibpaaDoor.Eng
