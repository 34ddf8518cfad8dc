/- What functions of the program compute, and that the program computes it: part 8. -/
import Derived.Test.YtcnapkdccjibpaaGreatTab
import Derived.Test.YtcnapkdccjibpaaGreatEng16
import Derived.Laws.BitsLemmas
import Derived.Laws.Bits64
import Derived.Laws.Bits64b
import Derived.Lib.Mul64
import Derived.Lib.BitFns
import Derived.Laws.Externs
import Derived.Test.YtcnapkdccjibpaaGreatL1
import Derived.Test.YtcnapkdccjibpaaGreatL2
import Derived.Test.YtcnapkdccjibpaaGreatL4
import Derived.Test.YtcnapkdccjibpaaGreatL5
namespace Go.Proofs.YtcnapkdccjibpaaGreat.Eng
open Go Go.RowKit
set_option linter.unusedVariables false
set_option linter.unusedSimpArgs false
set_option maxRecDepth 100000
set_option maxHeartbeats 1000000
-- quo
theorem bin_quo_c {T : Tab} {t : Nat} {k : IntKind} {a b : Int} (hb : decide (b = 0) = false) : binO T .quo t (some (.c (.p (.int k a)))) (some (.c (.p (.int k b)))) = some (sp (.int k (k.wrap (a.tdiv b)))) := bin_quo (by simpa using hb)
theorem bin_rem_c {T : Tab} {t : Nat} {k : IntKind} {a b : Int} (hb : decide (b = 0) = false) : binO T .rem t (some (.c (.p (.int k a)))) (some (.c (.p (.int k b)))) = some (sp (.int k (a.tmod b))) := bin_rem (by simpa using hb)
theorem tdiv_p {a b : Int} (ha : 0 ≤ a) : a.tdiv b = a / b := Int.tdiv_eq_ediv_of_nonneg ha
theorem tdiv_n {a b : Int} (ha : a < 0) : a.tdiv b = -(-a / b) := by
  have h : a = -(-a) := by omega
  rw [h, Int.neg_tdiv, Int.tdiv_eq_ediv_of_nonneg (by omega)]
  simp
theorem tmod_p {a b : Int} (ha : 0 ≤ a) : a.tmod b = a % b := Int.tmod_eq_emod_of_nonneg ha
theorem tmod_n {a b : Int} (ha : a < 0) : a.tmod b = -(-a % b) := by
  have h : a = -(-a) := by omega
  rw [h, Int.neg_tmod, Int.tmod_eq_emod_of_nonneg (by omega)]
  simp

-- quarter
def angleOk (n : Int) : Bool := within n (-1099511627776) 1099511627776
def F_angleOk : FT
  | [.c (.p (.int .i64 n))], _ => some (True, .v (.c (.p (.bool (angleOk n)))), [])
  | _, _ => none
theorem F_angleOk_eq {n : Int} {g : List PC} : F_angleOk [.c (.p (.int .i64 n))] g = some (True, .v (.c (.p (.bool (angleOk n)))), []) := rfl
theorem angleOk_iff {n : Int} : angleOk n = true ↔ -1099511627776 ≤ n ∧ n ≤ 1099511627776 := within_iff
def quarter (n : Int) : Int := if angleOk n then (n + 3373259426) / 6746518852 else 0
def F_quarter : FT
  | [.c (.p (.int .i64 n))], _ => some (True, .v (.c (.p (.int .i64 (quarter n)))), [])
  | _, _ => none
theorem F_quarter_eq {n : Int} {g : List PC} : F_quarter [.c (.p (.int .i64 n))] g = some (True, .v (.c (.p (.int .i64 (quarter n)))), []) := rfl
def F_floorQ : FT
  | [.c (.p (.int .i64 a)), .c (.p (.int .i64 b))], _ => some ((-9223372036854775808 < a ∧ a ≤ 9223372036854775807) ∧ b = 6746518852, .v (.c (.p (.int .i64 (a / 6746518852)))), [])
  | _, _ => none
theorem F_floorQ_eq {a : Int} {b : Int} {g : List PC} : F_floorQ [.c (.p (.int .i64 a)), .c (.p (.int .i64 b))] g = some ((-9223372036854775808 < a ∧ a ≤ 9223372036854775807) ∧ b = 6746518852, .v (.c (.p (.int .i64 (a / 6746518852)))), []) := rfl

-- turn
def turnLo (k : Int) : Int := k * 7244019458077122842 / 1073741824
def turnP (k : Int) : Iv := if k = 0 then ⟨0, 0⟩ else ⟨turnLo k, turnLo k + 1⟩
def turnA (k : Int) : Iv := if k < 0 then ⟨-(turnLo (-k) + 1), -turnLo (-k)⟩ else turnP k
def turnI (k : Int) : Iv := if within k (-4096) 4096 then turnA k else whole
def F_turnP : FT
  | [.c (.p (.int .i64 k))], _ => some (0 ≤ k ∧ k ≤ 4096, .v (.agg [.int .i64 ((turnP k)).lo, .int .i64 ((turnP k)).hi]), [])
  | _, _ => none
theorem F_turnP_eq {k : Int} {g : List PC} : F_turnP [.c (.p (.int .i64 k))] g = some (0 ≤ k ∧ k ≤ 4096, .v (.agg [.int .i64 ((turnP k)).lo, .int .i64 ((turnP k)).hi]), []) := rfl
def F_turnA : FT
  | [.c (.p (.int .i64 k))], _ => some (-4096 ≤ k ∧ k ≤ 4096, .v (.agg [.int .i64 ((turnA k)).lo, .int .i64 ((turnA k)).hi]), [])
  | _, _ => none
theorem F_turnA_eq {k : Int} {g : List PC} : F_turnA [.c (.p (.int .i64 k))] g = some (-4096 ≤ k ∧ k ≤ 4096, .v (.agg [.int .i64 ((turnA k)).lo, .int .i64 ((turnA k)).hi]), []) := rfl
def F_turnI : FT
  | [.c (.p (.int .i64 k))], _ => some (True, .v (.agg [.int .i64 ((turnI k)).lo, .int .i64 ((turnI k)).hi]), [])
  | _, _ => none
theorem F_turnI_eq {k : Int} {g : List PC} : F_turnI [.c (.p (.int .i64 k))] g = some (True, .v (.agg [.int .i64 ((turnI k)).lo, .int .i64 ((turnI k)).hi]), []) := rfl
def F_piI : FT
  | [], _ => some (True, .v (.agg [.int .i64 ((turnI 2)).lo, .int .i64 ((turnI 2)).hi]), [])
  | _, _ => none
theorem F_piI_eq {g : List PC} : F_piI [] g = some (True, .v (.agg [.int .i64 ((turnI 2)).lo, .int .i64 ((turnI 2)).hi]), []) := rfl
theorem turn_fl {k : Int} (h : 0 ≤ k ∧ k ≤ 4096) : mulFloor k 7244019458077122842 30 = (turnLo k, true) := by
  unfold mulFloor wideInt turnLo
  rw [if_pos (by rw [within_iff]; simp only [Int.reduceToNat, Int.reducePow]; omega)]; rfl
theorem turn_in {k : Int} (h : 0 ≤ k ∧ k ≤ 4096) : 0 ≤ turnLo k ∧ turnLo k ≤ 27633743508824 := by unfold turnLo; omega

-- ln
def lnP (k : Int) : Iv := ⟨k * 1598288580650331957 / 536870912, -((-k) * 1598288580650331958 / 536870912)⟩
def lnI (k : Int) : Iv := if within k (-64) 64 then (if k < 0 then ⟨-(lnP (-k)).hi, -(lnP (-k)).lo⟩ else lnP k) else whole
def F_lnP : FT
  | [.c (.p (.int .i64 k))], _ => some (0 ≤ k ∧ k ≤ 64, .v (.agg [.int .i64 ((lnP k)).lo, .int .i64 ((lnP k)).hi]), [])
  | _, _ => none
theorem F_lnP_eq {k : Int} {g : List PC} : F_lnP [.c (.p (.int .i64 k))] g = some (0 ≤ k ∧ k ≤ 64, .v (.agg [.int .i64 ((lnP k)).lo, .int .i64 ((lnP k)).hi]), []) := rfl
def F_lnI : FT
  | [.c (.p (.int .i64 k))], _ => some (True, .v (.agg [.int .i64 ((lnI k)).lo, .int .i64 ((lnI k)).hi]), [])
  | _, _ => none
theorem F_lnI_eq {k : Int} {g : List PC} : F_lnI [.c (.p (.int .i64 k))] g = some (True, .v (.agg [.int .i64 ((lnI k)).lo, .int .i64 ((lnI k)).hi]), []) := rfl
theorem ln_fl {k : Int} (h : 0 ≤ k ∧ k ≤ 64) : mulFloor k 1598288580650331957 29 = (k * 1598288580650331957 / 536870912, true) ∧ mulFloor (-k) 1598288580650331958 29 = ((-k) * 1598288580650331958 / 536870912, true) := by
  unfold mulFloor wideInt
  rw [if_pos (by rw [within_iff]; simp only [Int.reduceToNat, Int.reducePow]; omega), if_pos (by rw [within_iff]; simp only [Int.reduceToNat, Int.reducePow]; omega)]; exact ⟨rfl, rfl⟩
theorem ln_in {k : Int} (h : 0 ≤ k ∧ k ≤ 64) : 0 ≤ (lnP k).lo ∧ (lnP k).lo ≤ (lnP k).hi ∧ (lnP k).hi ≤ 190530846400 := by unfold lnP; simp only; omega
theorem ln_ok {k : Int} (h : 0 ≤ k ∧ k ≤ 64) : okI (lnP k) = true := by
  have := ln_in h
  rw [okI_iff]; omega

-- impl.LogTwoI
theorem impl_LogTwoI_lnP_ok : Fn Tryz.prog 95 F_lnP := by
  refine fn_of_go (O := orc [⟨71, F_whole, .inl impl_Whole_whole_ok⟩, ⟨97, F_within, .inl impl_within_within_ok⟩, ⟨107, F_negI, .inl impl_NegI_negI_ok⟩, ⟨147, F_mulFloor, .inl impl_MulFloor_mulFloor_ok⟩]) mixed T_ok (orc_sound _) Tryz.func95 (by kernel_rfl) rfl Tryz.ntmps95 (by kernel_rfl) Tryz.results95 ?_
  intro args g pre r new hF hpre
  unfold F_lnP at hF
  split at hF
  · rename_i k
    simp only [Option.some.injEq, Prod.mk.injEq] at hF
    obtain ⟨rfl, hr, rfl⟩ := hF
    refine ⟨by simp, ?_⟩
    have h1 := ln_fl hpre
    have h2 := ln_in hpre
    have h3 : IntKind.i64.wrap (-k) = -k := wrap_om (by omega) (by omega)
    simp (config := { maxSteps := 4000000, implicitDefEqProofs := false }) only [F_mulFloor_eq, F_negI_eq, F_whole_eq, F_within_eq, WK0, WK1, WK2, WK3, WK4, WK5, WK6, WK7, WK8, WK9, WK10, WK11, WK12, WK13, WK14, WK15, WK16, WK17, WK18, WK19, WK20, WK21, WK22, WK23, WK24, WK25, WK26, WK27, WK28, look_hit, look_miss, List.map_cons, List.map_nil, Nat.add_zero, max_v, min_v, ↓cnd_t, ↓cnd_f, ↓grd_b, ↓grd_u, startEnv, Option.map_some, List.length_nil, List.length_cons, List.nil_append, List.cons_append, List.getElem?_cons_zero, List.getElem?_cons_succ, List.set_cons_zero, List.set_cons_succ, Bool.not_true, Bool.not_false, reduceIte, Nat.reduceEqDiff, Nat.reduceAdd, Nat.reduceLT, blt_lit, beq_lit, Bool.or_true, Bool.true_or, Bool.or_false, Bool.false_or, Bool.and_true, Bool.true_and, Bool.and_self, cond_true, cond_false, List.append_nil, Iv.eta, Option.map_none, idxO_l0, idxO_l1, decide_true, decide_false, reqs_true, Int.zero_sub, wrap_lit, wrapu_lit, Int.reduceLE, Int.reduceLT, Int.reduceAdd, Int.reduceSub, Int.reduceMul, Int.reduceNeg, Int.reduceEq, Option.bind_some, bin_shr_u64, bin_shl_u64, bin_shr_i64, bin_shl_i64, and_m32', Int.reduceToNat, Int.reducePow, Int.reduceMod, Int.reduceDiv, wrap_u64s, true_or, or_true, true_and, and_true, Option.isSome_none, Option.isSome_some, Nat.reduceLeDiff, Nat.reduceMul, Int.toNat_natCast, Int.cast_ofNat_Int, Int.natCast_zero, Int.natCast_one, List.isEmpty_nil, List.isEmpty_cons, List.replicate_zero, List.replicate_succ, T1, T2, T3, T4, T5, T6, T9, T10, T11, T12, T21, T22, T23, T24, T26, T27, T28, T29, T30, T31, T32, T33, T34, T35, T37, T38, T39, T40, T42, T43, T44, T45, T46, T47, T48, T50, T52, T54, T55, T56, T57, T58, T59, T60, T61, T62, T63, T64, T65, T66, T67, T68, T69, T70, T71, T72, T73, T75, T77, T78, T79, T80, T82, T83, T84, T85, T87, T89, T90, T91, T92, T95, T97, T103, T104, T105, T106, T107, T109, T110, h1.1, h1.2, h3]
    repeat' (first | with_reducible refine cnd_split (fun hc => ?_) (fun hc => ?_) | with_reducible refine Reqs.mk ?_ ?_)
    all_goals (try simp only [decide_eq_true_eq, decide_eq_false_iff_not] at *)
    all_goals first
      | omega
      | (unfold inR; omega)
      | (refine endS_v (t := (lnP k)) hr ?_; unfold lnP at *; simp only at h2; rw [wrap_om (by omega) (by omega)])
      | (have : within k (-64) 64 = true := by rw [within_iff]; omega
         simp_all)
      | (exfalso; omega)
  · cases hF

-- impl.LogTwoI2
theorem impl_LogTwoI_lnI_ok : Fn Tryz.prog 95 F_lnI := by
  refine fn_of_go (O := orc [⟨71, F_whole, .inl impl_Whole_whole_ok⟩, ⟨95, F_lnP, .inl impl_LogTwoI_lnP_ok⟩, ⟨97, F_within, .inl impl_within_within_ok⟩, ⟨107, F_negI, .inl impl_NegI_negI_ok⟩, ⟨147, F_mulFloor, .inl impl_MulFloor_mulFloor_ok⟩]) mixed T_ok (orc_sound _) Tryz.func95 (by kernel_rfl) rfl Tryz.ntmps95 (by kernel_rfl) Tryz.results95 ?_
  intro args g pre r new hF hpre
  unfold F_lnI at hF
  split at hF
  · rename_i k
    simp only [Option.some.injEq, Prod.mk.injEq] at hF
    obtain ⟨rfl, hr, rfl⟩ := hF
    refine ⟨by simp, ?_⟩
    simp (config := { maxSteps := 4000000, implicitDefEqProofs := false }) only [F_lnP_eq, F_mulFloor_eq, F_negI_eq, F_whole_eq, F_within_eq, WK0, WK1, WK2, WK3, WK4, WK5, WK6, WK7, WK8, WK9, WK10, WK11, WK12, WK13, WK14, WK15, WK16, WK17, WK18, WK19, WK20, WK21, WK22, WK23, WK24, WK25, WK26, WK27, WK28, look_hit, look_miss, List.map_cons, List.map_nil, Nat.add_zero, max_v, min_v, ↓cnd_t, ↓cnd_f, ↓grd_b, ↓grd_u, startEnv, Option.map_some, List.length_nil, List.length_cons, List.nil_append, List.cons_append, List.getElem?_cons_zero, List.getElem?_cons_succ, List.set_cons_zero, List.set_cons_succ, Bool.not_true, Bool.not_false, reduceIte, Nat.reduceEqDiff, Nat.reduceAdd, Nat.reduceLT, blt_lit, beq_lit, Bool.or_true, Bool.true_or, Bool.or_false, Bool.false_or, Bool.and_true, Bool.true_and, Bool.and_self, cond_true, cond_false, List.append_nil, Iv.eta, Option.map_none, idxO_l0, idxO_l1, decide_true, decide_false, reqs_true, Int.zero_sub, wrap_lit, wrapu_lit, Int.reduceLE, Int.reduceLT, Int.reduceAdd, Int.reduceSub, Int.reduceMul, Int.reduceNeg, Int.reduceEq, Option.bind_some, bin_shr_u64, bin_shl_u64, bin_shr_i64, bin_shl_i64, and_m32', Int.reduceToNat, Int.reducePow, Int.reduceMod, Int.reduceDiv, wrap_u64s, true_or, or_true, true_and, and_true, Option.isSome_none, Option.isSome_some, Nat.reduceLeDiff, Nat.reduceMul, Int.toNat_natCast, Int.cast_ofNat_Int, Int.natCast_zero, Int.natCast_one, List.isEmpty_nil, List.isEmpty_cons, List.replicate_zero, List.replicate_succ, T1, T2, T3, T4, T5, T6, T9, T10, T11, T12, T21, T22, T23, T24, T26, T27, T28, T29, T30, T31, T32, T33, T34, T35, T37, T38, T39, T40, T42, T43, T44, T45, T46, T47, T48, T50, T52, T54, T55, T56, T57, T58, T59, T60, T61, T62, T63, T64, T65, T66, T67, T68, T69, T70, T71, T72, T73, T75, T77, T78, T79, T80, T82, T83, T84, T85, T87, T89, T90, T91, T92, T95, T97, T103, T104, T105, T106, T107, T109, T110]
    repeat' (first | with_reducible refine cnd_split (fun hc => ?_) (fun hc => ?_) | with_reducible refine Reqs.mk ?_ ?_)
    all_goals (try simp only [decide_eq_true_eq, decide_eq_false_iff_not] at *)
    all_goals first
      | omega
      | (have hw := within_iff.1 (by assumption : within k (-64) 64 = true); rw [wrap_om (n := -k) (by omega) (by omega)]; first | omega | (unfold inR; omega))
      | (have hw := within_iff.1 (by assumption : within k (-64) 64 = true); unfold inR; omega)
      | (refine endS_v (t := (lnI k)) hr ?_; simp_all [lnI]; done)
      | (have hw := within_iff.1 (by assumption : within k (-64) 64 = true)
         refine endS_v (t := (lnI k)) hr ?_
         rw [wrap_om (n := -k) (by omega) (by omega), lnI, if_pos (by assumption), if_pos (by assumption), negI, if_pos (ln_ok (by omega))])
      | (have hw := within_iff.1 (by assumption : within k (-64) 64 = true)
         have h1 := @ln_fl k (by omega)
         have h2 := @ln_in k (by omega)
         refine endS_v (t := (lnI k)) hr ?_
         rw [lnI, if_pos (by assumption), if_neg (by omega), wrap_om (n := -k) (by omega) (by omega), h1.1, h1.2]
         unfold lnP at *
         simp only at *
         rw [wrap_om (by omega) (by omega)])
  · cases hF

-- circle
def circleI (n : Int) : Iv := if within n (-4294967296) 4294967296 then (if rootW ((4294967296 - n) * (4294967296 + n)) * rootW ((4294967296 - n) * (4294967296 + n)) = (4294967296 - n) * (4294967296 + n) then ⟨rootW ((4294967296 - n) * (4294967296 + n)), rootW ((4294967296 - n) * (4294967296 + n))⟩ else ⟨rootW ((4294967296 - n) * (4294967296 + n)), rootW ((4294967296 - n) * (4294967296 + n)) + 1⟩) else whole
def F_circleI : FT
  | [.c (.p (.int .i64 n))], _ => some (True, .v (.agg [.int .i64 ((circleI n)).lo, .int .i64 ((circleI n)).hi]), [])
  | _, _ => none
theorem F_circleI_eq {n : Int} {g : List PC} : F_circleI [.c (.p (.int .i64 n))] g = some (True, .v (.agg [.int .i64 ((circleI n)).lo, .int .i64 ((circleI n)).hi]), []) := rfl
theorem circ_in {n : Int} (h : within n (-4294967296) 4294967296 = true) : sqrtFloor (4294967296 - n) (4294967296 + n) = (rootW ((4294967296 - n) * (4294967296 + n)), true) ∧ 0 ≤ rootW ((4294967296 - n) * (4294967296 + n)) ∧ rootW ((4294967296 - n) * (4294967296 + n)) ≤ 8589934592 := by
  rw [within_iff] at h
  refine ⟨by rw [sqrtFloor, if_neg (by omega)], rootW_nonneg _, ?_⟩
  have h1 : (4294967296 - n) * (4294967296 + n) ≤ 8589934592 * 8589934592 := Int.mul_le_mul (by omega) (by omega) (by omega) (by omega)
  have h2 : 0 ≤ (4294967296 - n) * (4294967296 + n) := Int.mul_nonneg (by omega) (by omega)
  have hs := rootW_spec h2 (by omega)
  apply Int.le_of_not_gt
  intro hgt
  have := Int.mul_le_mul (a := 8589934593) (b := 8589934593) (c := rootW ((4294967296 - n) * (4294967296 + n))) (d := rootW ((4294967296 - n) * (4294967296 + n))) (by omega) (by omega) (by omega) (by omega)
  omega

end Go.Proofs.YtcnapkdccjibpaaGreat.Eng
