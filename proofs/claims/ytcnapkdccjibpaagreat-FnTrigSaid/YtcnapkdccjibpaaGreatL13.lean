/- What functions of the program compute, and that the program computes it: part 13. -/
import Derived.Test.YtcnapkdccjibpaaGreatTab
import Derived.Test.YtcnapkdccjibpaaGreatEng16
import Derived.Laws.BitsLemmas
import Derived.Laws.Bits64
import Derived.Laws.Bits64b
import Derived.Lib.Mul64
import Derived.Lib.BitFns
import Derived.Laws.Externs
import Derived.Test.YtcnapkdccjibpaaGreatL1
import Derived.Test.YtcnapkdccjibpaaGreatL2
import Derived.Test.YtcnapkdccjibpaaGreatL3
import Derived.Test.YtcnapkdccjibpaaGreatL4
import Derived.Test.YtcnapkdccjibpaaGreatL6
import Derived.Test.YtcnapkdccjibpaaGreatL8
import Derived.Test.YtcnapkdccjibpaaGreatL11
import Derived.Test.YtcnapkdccjibpaaGreatL12
namespace Go.Proofs.YtcnapkdccjibpaaGreat.Eng
open Go Go.RowKit
set_option linter.unusedVariables false
set_option linter.unusedSimpArgs false
set_option maxRecDepth 100000
set_option maxHeartbeats 1000000
-- units
def unitLo (n : Int) : Int := if 0 < n then n * 966367641600000000 / 7244019458077122843 else n * 966367641600000000 / 7244019458077122842
def unitsOf (a : Iv) : Int × Int × Bool := if okI a then (if unitLo a.lo < -36000000000 ∨ 36000000000 < -unitLo (-a.hi) then (0, 0, false) else (unitLo a.lo, -unitLo (-a.hi), true)) else (0, 0, false)
def F_unitLo : FT
  | [.c (.p (.int .i64 n))], _ => some (-1152921504606846976 < n ∧ n < 1152921504606846976, .v (.c (.p (.int .i64 (unitLo n)))), [])
  | _, _ => none
theorem F_unitLo_eq {n : Int} {g : List PC} : F_unitLo [.c (.p (.int .i64 n))] g = some (-1152921504606846976 < n ∧ n < 1152921504606846976, .v (.c (.p (.int .i64 (unitLo n)))), []) := rfl
def F_unitsOf : FT
  | [.agg [.int .i64 a1, .int .i64 a2]], _ => some (True, .tup [.c (.p (.int .i64 ((unitsOf (Iv.mk a1 a2)).1))), .c (.p (.int .i64 ((unitsOf (Iv.mk a1 a2)).2.1))), .c (.p (.bool ((unitsOf (Iv.mk a1 a2)).2.2)))], [])
  | _, _ => none
theorem F_unitsOf_eq {a1 : Int} {a2 : Int} {g : List PC} : F_unitsOf [.agg [.int .i64 a1, .int .i64 a2]] g = some (True, .tup [.c (.p (.int .i64 ((unitsOf (Iv.mk a1 a2)).1))), .c (.p (.int .i64 ((unitsOf (Iv.mk a1 a2)).2.1))), .c (.p (.bool ((unitsOf (Iv.mk a1 a2)).2.2)))], []) := rfl
theorem wideInt_ok {w : Int} (h1 : -9223372036854775808 ≤ w) (h2 : w ≤ 9223372036854775807) : wideInt w = (w, true) := by
  unfold wideInt
  rw [if_pos (within_iff.2 ⟨h1, h2⟩)]
theorem md_P {n : Int} (h : -1152921504606846976 < n ∧ n < 1152921504606846976) : mulDiv n 966367641600000000 7244019458077122842 = (n * 966367641600000000 / 7244019458077122842, true) := by
  unfold mulDiv wideInt
  rw [if_pos (by omega), if_pos (by rw [within_iff]; omega)]
theorem md_P1 {n : Int} (h : -1152921504606846976 < n ∧ n < 1152921504606846976) : mulDiv n 966367641600000000 7244019458077122843 = (n * 966367641600000000 / 7244019458077122843, true) := by
  unfold mulDiv wideInt
  rw [if_pos (by omega), if_pos (by rw [within_iff]; omega)]
theorem mulDivUp_eq {a b d : Int} (hd : 0 < d) (h1 : -9223372036854775808 ≤ a * b / d) (h2 : a * b / d < 9223372036854775807) : mulDivUp a b d = (if a * b % d = 0 then a * b / d else a * b / d + 1, true) := by
  unfold mulDivUp
  rw [if_pos hd, wideInt_ok h1 (by omega)]
  simp only [if_true]
  by_cases he : a * b % d = 0
  · rw [if_pos he, if_pos he]
  · rw [if_neg he, if_neg he, if_neg (by omega)]
theorem ceil_div {x d : Int} (hd : 0 < d) : (if x % d = 0 then x / d else x / d + 1) = -(-x / d) := by
  have h := @neg_div x d hd
  have r1 := Int.emod_nonneg (-x) (show d ≠ 0 by omega)
  have r2 := Int.emod_lt_of_pos (-x) hd
  by_cases h0 : -x % d = 0
  · rw [if_pos (h.1 h0).2]; exact (h.1 h0).1
  · have h2 := h.2 h0
    rw [if_neg (by omega), h2.1]; omega
theorem un1 {n : Int} (h : -1152921504606846976 < n ∧ n < 1152921504606846976) (h0 : 0 < n) : mulDiv n 966367641600000000 7244019458077122843 = (unitLo n, true) := by
  rw [md_P1 h, unitLo, if_pos h0]
theorem un2 {n : Int} (h : -1152921504606846976 < n ∧ n < 1152921504606846976) (h0 : ¬ 0 < n) : mulDiv n 966367641600000000 7244019458077122842 = (unitLo n, true) := by
  rw [md_P h, unitLo, if_neg h0]
theorem un3 {n : Int} (h : -1152921504606846976 < n ∧ n < 1152921504606846976) (h0 : n < 0) : mulDivUp n 966367641600000000 7244019458077122843 = (-unitLo (-n), true) := by
  rw [mulDivUp_eq (by omega) (by omega) (by omega), ceil_div (by omega), unitLo, if_pos (by omega), Int.neg_mul]
theorem un4 {n : Int} (h : -1152921504606846976 < n ∧ n < 1152921504606846976) (h0 : ¬ n < 0) : mulDivUp n 966367641600000000 7244019458077122842 = (-unitLo (-n), true) := by
  rw [mulDivUp_eq (by omega) (by omega) (by omega), ceil_div (by omega), unitLo, if_neg (by omega), Int.neg_mul]
theorem unitLo_in {n : Int} (h : -1152921504606846976 < n ∧ n < 1152921504606846976) : -1152921504606846976 < unitLo n ∧ unitLo n < 1152921504606846976 := by
  unfold unitLo
  split <;> omega

-- spec.IsWhole
theorem spec_IsWhole_notOk_ok : Fn Tryz.prog 36 F_notOk := by
  refine fn_of_go (O := orc [⟨61, F_okI, .inl spec_l04Ok_okI_ok⟩]) mixed T_ok (orc_sound _) Tryz.func36 (by kernel_rfl) rfl Tryz.ntmps36 (by kernel_rfl) Tryz.results36 ?_
  intro args g pre r new hF hpre
  unfold F_notOk at hF
  split at hF
  · rename_i a1 a2
    simp only [Option.some.injEq, Prod.mk.injEq] at hF
    obtain ⟨rfl, hr, rfl⟩ := hF
    refine ⟨by simp, ?_⟩
    simp (config := { maxSteps := 4000000, implicitDefEqProofs := false }) only [F_okI_eq, WK0, WK1, WK2, WK3, WK4, WK5, WK6, WK7, WK8, WK9, WK10, WK11, WK12, WK13, WK14, WK15, WK16, WK17, WK18, WK19, WK20, WK21, WK22, WK23, WK24, WK25, WK26, WK27, WK28, look_hit, look_miss, List.map_cons, List.map_nil, Nat.add_zero, max_v, min_v, ↓cnd_t, ↓cnd_f, ↓grd_b, ↓grd_u, startEnv, Option.map_some, List.length_nil, List.length_cons, List.nil_append, List.cons_append, List.getElem?_cons_zero, List.getElem?_cons_succ, List.set_cons_zero, List.set_cons_succ, Bool.not_true, Bool.not_false, reduceIte, Nat.reduceEqDiff, Nat.reduceAdd, Nat.reduceLT, blt_lit, beq_lit, Bool.or_true, Bool.true_or, Bool.or_false, Bool.false_or, Bool.and_true, Bool.true_and, Bool.and_self, cond_true, cond_false, List.append_nil, Iv.eta, Option.map_none, idxO_l0, idxO_l1, decide_true, decide_false, reqs_true, Int.zero_sub, wrap_lit, wrapu_lit, Int.reduceLE, Int.reduceLT, Int.reduceAdd, Int.reduceSub, Int.reduceMul, Int.reduceNeg, Int.reduceEq, Option.bind_some, bin_shr_u64, bin_shl_u64, bin_shr_i64, bin_shl_i64, and_m32', Int.reduceToNat, Int.reducePow, Int.reduceMod, Int.reduceDiv, wrap_u64s, true_or, or_true, true_and, and_true, Option.isSome_none, Option.isSome_some, Nat.reduceLeDiff, Nat.reduceMul, Int.toNat_natCast, Int.cast_ofNat_Int, Int.natCast_zero, Int.natCast_one, List.isEmpty_nil, List.isEmpty_cons, List.replicate_zero, List.replicate_succ, T1, T2, T3, T4, T5, T6, T9, T10, T11, T12, T21, T22, T23, T24, T26, T27, T28, T29, T30, T31, T32, T33, T34, T35, T37, T38, T39, T40, T42, T43, T44, T45, T46, T47, T48, T50, T52, T54, T55, T56, T57, T58, T59, T60, T61, T62, T63, T64, T65, T66, T67, T68, T69, T70, T71, T72, T73, T75, T77, T78, T79, T80, T82, T83, T84, T85, T87, T89, T90, T91, T92, T95, T97, T103, T104, T105, T106, T107, T109, T110]
    repeat' (first | with_reducible refine cnd_split (fun hc => ?_) (fun hc => ?_) | with_reducible refine Reqs.mk ?_ ?_)
    all_goals (first | trivial | refine endS_b (t := (!okI (Iv.mk a1 a2))) hr ?_; simp_all)
  · cases hF

-- radians
def radP (u : Int) : Iv := if u = 0 then ⟨0, 0⟩ else ⟨u * 7244019458077122842 / 966367641600000000, u * 7244019458077122843 / 966367641600000000 + 1⟩
def radI (u : Int) : Iv := if within u (-36000000000) 36000000000 then (if u < 0 then ⟨-(radP (-u)).hi, -(radP (-u)).lo⟩ else radP u) else whole
def F_radP : FT
  | [.c (.p (.int .i64 u))], _ => some (0 ≤ u ∧ u ≤ 36000000000, .v (.agg [.int .i64 ((radP u)).lo, .int .i64 ((radP u)).hi]), [])
  | _, _ => none
theorem F_radP_eq {u : Int} {g : List PC} : F_radP [.c (.p (.int .i64 u))] g = some (0 ≤ u ∧ u ≤ 36000000000, .v (.agg [.int .i64 ((radP u)).lo, .int .i64 ((radP u)).hi]), []) := rfl
def F_radI : FT
  | [.c (.p (.int .i64 u))], _ => some (True, .v (.agg [.int .i64 ((radI u)).lo, .int .i64 ((radI u)).hi]), [])
  | _, _ => none
theorem F_radI_eq {u : Int} {g : List PC} : F_radI [.c (.p (.int .i64 u))] g = some (True, .v (.agg [.int .i64 ((radI u)).lo, .int .i64 ((radI u)).hi]), []) := rfl
theorem rad_fl {u : Int} (h : 0 ≤ u ∧ u ≤ 36000000000) : mulDiv u 7244019458077122842 966367641600000000 = (u * 7244019458077122842 / 966367641600000000, true) ∧ mulDiv u 7244019458077122843 966367641600000000 = (u * 7244019458077122843 / 966367641600000000, true) := by
  unfold mulDiv
  rw [if_pos (by omega), wideInt_ok (by omega) (by omega), wideInt_ok (by omega) (by omega)]; exact ⟨rfl, rfl⟩
theorem rad_in {u : Int} (h : 0 ≤ u ∧ u ≤ 36000000000) : 0 ≤ (radP u).lo ∧ (radP u).lo ≤ (radP u).hi ∧ (radP u).hi ≤ 269861063104 := by
  unfold radP
  split <;> simp only <;> omega
theorem radP_0 {u : Int} (h : u = 0) : radP u = ⟨0, 0⟩ := by unfold radP; rw [if_pos h]
theorem radP_pos {u : Int} (h : ¬ u = 0) (hb : 0 ≤ u ∧ u ≤ 36000000000) : radP u = ⟨u * 7244019458077122842 / 966367641600000000, u * 7244019458077122843 / 966367641600000000 + 1⟩ ∧ IntKind.i64.wrap (u * 7244019458077122843 / 966367641600000000 + 1) = u * 7244019458077122843 / 966367641600000000 + 1 := by
  refine ⟨by unfold radP; rw [if_neg h], wrap_om (by omega) (by omega)⟩
theorem rad_ok {u : Int} (h : 0 ≤ u ∧ u ≤ 36000000000) : okI (radP u) = true := by
  have := rad_in h
  rw [okI_iff]; omega

-- degrees
def degI (a : Iv) : Iv := divI (mulI a (intI 180)) (turnI 2)
def F_degI : FT
  | [.agg [.int .i64 a1, .int .i64 a2]], _ => some (True, .v (.agg [.int .i64 ((degI (Iv.mk a1 a2))).lo, .int .i64 ((degI (Iv.mk a1 a2))).hi]), [])
  | _, _ => none
theorem F_degI_eq {a1 : Int} {a2 : Int} {g : List PC} : F_degI [.agg [.int .i64 a1, .int .i64 a2]] g = some (True, .v (.agg [.int .i64 ((degI (Iv.mk a1 a2))).lo, .int .i64 ((degI (Iv.mk a1 a2))).hi]), []) := rfl

end Go.Proofs.YtcnapkdccjibpaaGreat.Eng
