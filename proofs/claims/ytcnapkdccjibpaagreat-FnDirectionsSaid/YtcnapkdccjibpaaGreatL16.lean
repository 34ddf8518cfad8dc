/- What functions of the program compute, and that the program computes it: part 16. -/
import Derived.Test.YtcnapkdccjibpaaGreatTab
import Derived.Test.YtcnapkdccjibpaaGreatEng16
import Derived.Laws.BitsLemmas
import Derived.Laws.Bits64
import Derived.Laws.Bits64b
import Derived.Lib.Mul64
import Derived.Lib.BitFns
import Derived.Laws.Externs
import Derived.Test.YtcnapkdccjibpaaGreatL1
import Derived.Test.YtcnapkdccjibpaaGreatL2
import Derived.Test.YtcnapkdccjibpaaGreatL3
import Derived.Test.YtcnapkdccjibpaaGreatL6
import Derived.Test.YtcnapkdccjibpaaGreatL8
import Derived.Test.YtcnapkdccjibpaaGreatL12
import Derived.Test.YtcnapkdccjibpaaGreatL14
import Derived.Test.YtcnapkdccjibpaaGreatL15
namespace Go.Proofs.YtcnapkdccjibpaaGreat.Eng
open Go Go.RowKit
set_option linter.unusedVariables false
set_option linter.unusedSimpArgs false
set_option maxRecDepth 100000
set_option maxHeartbeats 1000000
-- trig
theorem sqrI_bd {a : Iv} {A M : Int} (ha : okI a = true) (h1 : -A ≤ a.lo) (h2 : a.hi ≤ A) (hM : A * A ≤ M * 4294967296) (hM2 : M < 1152921504606846976) (hA : A < 1152921504606846976) :
    okI (sqrI a) = true ∧ 0 ≤ (sqrI a).lo ∧ (sqrI a).hi ≤ M := by
  have hb := okI_iff.1 ha
  have hn := nearI_ok ha
  rw [okI_mk] at hn
  have e : absI a = ⟨nearI a, farI a⟩ := by unfold absI; rw [if_pos ha]
  have n0 : 0 ≤ nearI a := by
    unfold nearI absZ
    split
    · omega
    · rename_i hw
      repeat' split
      all_goals omega
  have f0 : farI a ≤ A := by
    unfold farI absZ
    repeat' split
    all_goals omega
  have p1 := @mul_pos2 (nearI a) (nearI a) A A n0 (by omega) n0 (by omega)
  have p2 := @mul_pos2 (farI a) (farI a) A A (by omega) f0 (by omega) f0
  have fx : fixOk (nearI a) = true := by rw [fixOk_iff]; omega
  have fy : fixOk (farI a) = true := by rw [fixOk_iff]; omega
  have p3 : nearI a * nearI a ≤ farI a * farI a := (@mul_pos2 (nearI a) (nearI a) (farI a) (farI a) n0 (by omega) n0 (by omega)).2
  have hd := mulDown_eq fx fx (by omega) (by omega)
  have hu := mulUp_eq fy fy (by omega) (by omega)
  unfold sqrI
  rw [if_pos ha, e]
  simp only [hd, hu, Bool.and_self, if_true]
  have hk : okI ⟨nearI a * nearI a / 4294967296, -(-(farI a * farI a) / 4294967296)⟩ = true := by rw [okI_mk]; omega
  rw [mkI_ok hk]
  refine ⟨hk, ?_, ?_⟩ <;> simp only <;> omega
theorem seriesL_bd : ∀ (k : Nat) (y : Iv) (c : Int) (s : Iv), k ≤ 8 → c = 0 ∨ c = -1 → okI y = true → 0 ≤ y.lo → y.hi ≤ 2649400000 → okI s = true → 0 ≤ s.lo → s.hi ≤ 4294967296 →
    okI (seriesL k y c s) = true ∧ 0 ≤ (seriesL k y c s).lo ∧ (seriesL k y c s).hi ≤ 4294967296
  | 0, y, c, s, _, _, _, _, _, h1, h2, h3 => ⟨h1, h2, h3⟩
  | k + 1, y, c, s, hk, hc, hy, y1, y2, h1, h2, h3 => by
    obtain ⟨A, eA⟩ : ∃ A : Int, 2 * ((k + 1 : Nat) : Int) + c = A := ⟨_, rfl⟩
    have hA : 1 ≤ A ∧ A ≤ 16 := by omega
    have hAA := @mul_pos2 A (A + 1) 16 17 (by omega) (by omega) (by omega) (by omega)
    have hA2 : 2 ≤ A * (A + 1) := by
      have := Int.mul_le_mul (a := 1) (b := 2) (c := A) (d := A + 1) (by omega) (by omega) (by omega) (by omega)
      omega
    rw [seriesL, eA]
    generalize A * (A + 1) = q at *
    have hd := @divI_bd y q 0 1324700001 hy (by omega) (by omega) (by omega) (by omega) (by omega)
    have hdl := (okI_iff.1 hd.1).2.1
    have hsl := (okI_iff.1 h1).2.1
    have hm := @mulI_bd (divI y (intI q)) s 0 1324700001 hd.1 h1 (fun x hx z hz => by
      have := @mul_pos2 x z 1324700001 4294967296 (by rcases hx with rfl | rfl <;> omega) (by rcases hx with rfl | rfl <;> omega) (by rcases hz with rfl | rfl <;> omega) (by rcases hz with rfl | rfl <;> omega)
      omega) (by omega) (by omega)
    have hml := (okI_iff.1 hm.1).2.1
    have e1 : intI 1 = ⟨4294967296, 4294967296⟩ := rfl
    have hs := @subI_bd (intI 1) (mulI (divI y (intI q)) s) (by rw [e1]; rfl) hm.1 (by rw [e1]; simp only; omega) (by rw [e1]; simp only; omega)
    refine seriesL_bd k y c _ (by omega) hc hy y1 y2 hs.2 ?_ ?_
    · rw [hs.1, e1]; simp only; omega
    · rw [hs.1, e1]; simp only; omega
def angR (n : Int) : Iv := subI ⟨n, n⟩ (turnI (quarter n))
theorem quarter_bd {n : Int} (h : angleOk n = true) : -163 ≤ quarter n ∧ quarter n ≤ 163 ∧ quarter n * 6746518852 - 3373259426 ≤ n ∧ n < quarter n * 6746518852 + 3373259426 := by
  unfold quarter
  rw [if_pos h]
  rw [angleOk_iff] at h
  omega
theorem turn_bd {k : Int} (h : -163 ≤ k ∧ k ≤ 163) : okI (turnI k) = true ∧ k * 6746518852 - 60 ≤ (turnI k).lo ∧ (turnI k).hi ≤ k * 6746518852 + 60 := by
  unfold turnI
  rw [if_pos (by rw [within_iff]; omega)]
  unfold turnA turnP
  by_cases h0 : k < 0
  · rw [if_pos h0]
    unfold turnLo
    rw [okI_mk]
    simp only
    omega
  · rw [if_neg h0]
    by_cases h1 : k = 0
    · rw [if_pos h1, okI_mk]; simp only; omega
    · rw [if_neg h1]
      unfold turnLo
      rw [okI_mk]
      simp only
      omega
theorem angR_bd {n : Int} (h : angleOk n = true) : okI (angR n) = true ∧ -3373260000 ≤ (angR n).lo ∧ (angR n).hi ≤ 3373260000 := by
  have hk := quarter_bd h
  have hl := @turn_bd (quarter n) (by omega)
  rw [angleOk_iff] at h
  unfold angR
  generalize quarter n = k at *
  have hb := okI_iff.1 hl.1
  have hs := @subI_bd ⟨n, n⟩ (turnI k) (by rw [okI_mk]; omega) hl.1 (by simp only; omega) (by simp only; omega)
  refine ⟨hs.2, ?_⟩
  rw [hs.1]
  simp only
  omega
def ringI : Iv := ⟨-4294967296, 4294967296⟩
/-- An interval that meets the one from -1 to 1. -/
def Meets (x : Iv) : Prop := okI x = true ∧ x.lo ≤ 4294967296 ∧ -4294967296 ≤ x.hi
theorem Meets.meet {x : Iv} (h : Meets x) : (meetI x ringI).2 = true ∧ (meetI x ringI).1 = ⟨max x.lo (-4294967296), min x.hi 4294967296⟩ := by
  obtain ⟨h1, h2, h3⟩ := h
  have hb := okI_iff.1 h1
  have hr : okI ringI = true := rfl
  have e1 : ringI.lo = -4294967296 := rfl
  have e2 : ringI.hi = 4294967296 := rfl
  unfold meetI
  rw [if_pos h1, if_pos hr, e1, e2, if_neg (by omega)]
  exact ⟨rfl, rfl⟩
theorem Meets.neg {x : Iv} (h : Meets x) : Meets (negI x) := by
  obtain ⟨h1, h2, h3⟩ := h
  have hb := okI_iff.1 h1
  unfold negI
  rw [if_pos h1]
  refine ⟨by rw [okI_mk]; omega, ?_, ?_⟩ <;> simp only <;> omega
theorem inside_ring {r : Iv} (h : okI r = true) (h1 : -4294967296 ≤ r.lo) (h2 : r.hi ≤ 4294967296) : insideI r ringI = true := by
  have hr : okI ringI = true := rfl
  unfold insideI
  rw [h, hr]
  simp only [Bool.not_true, Bool.false_or, Bool.true_and, Bool.and_eq_true, decide_eq_true_eq]
  exact ⟨h1, h2⟩
theorem sqr_angR {r : Iv} (h : okI r = true) (h1 : -3373260000 ≤ r.lo) (h2 : r.hi ≤ 3373260000) : okI (sqrI r) = true ∧ 0 ≤ (sqrI r).lo ∧ (sqrI r).hi ≤ 2649400000 :=
  @sqrI_bd r 3373260000 2649400000 h h1 h2 (by omega) (by omega) (by omega)
theorem sin_meets {r : Iv} (h : okI r = true) (h1 : -3373260000 ≤ r.lo) (h2 : r.hi ≤ 3373260000) : Meets (sinS r) := by
  have hy := sqr_angR h h1 h2
  have hs := seriesL_bd 8 (sqrI r) 0 (intI 1) (by omega) (.inl rfl) hy.1 hy.2.1 hy.2.2 rfl (by decide) (by decide)
  have hsl := (okI_iff.1 hs.1).2.1
  have hrl := (okI_iff.1 h).2.1
  have hm := @mulI_bd r (seriesL 8 (sqrI r) 0 (intI 1)) (-3373260000) 3373260000 h hs.1 (fun x hx z hz => by
    have := @mul_abs x z 3373260000 4294967296 (by rcases hx with rfl | rfl <;> omega) (by rcases hx with rfl | rfl <;> omega) (by rcases hz with rfl | rfl <;> omega) (by rcases hz with rfl | rfl <;> omega)
    omega) (by omega) (by omega)
  have hml := (okI_iff.1 hm.1).2.1
  have ha := @addI_bd (mulI r (seriesL 8 (sqrI r) 0 (intI 1))) ⟨-1, 1⟩ hm.1 rfl (by simp only; omega) (by simp only; omega)
  unfold sinS
  have hin : insideI r ⟨-4294967296, 4294967296⟩ = true := inside_ring h (by omega) (by omega)
  rw [if_pos hin]
  refine ⟨ha.2, ?_, ?_⟩ <;> rw [ha.1] <;> simp only <;> omega
theorem cos_meets {r : Iv} (h : okI r = true) (h1 : -3373260000 ≤ r.lo) (h2 : r.hi ≤ 3373260000) : Meets (cosS r) := by
  have hy := sqr_angR h h1 h2
  have hs := seriesL_bd 8 (sqrI r) (-1) (intI 1) (by omega) (.inr rfl) hy.1 hy.2.1 hy.2.2 rfl (by decide) (by decide)
  have hsl := (okI_iff.1 hs.1).2.1
  have ha := @addI_bd (seriesL 8 (sqrI r) (-1) (intI 1)) ⟨-1, 1⟩ hs.1 rfl (by simp only; omega) (by simp only; omega)
  unfold cosS
  have hin : insideI r ⟨-4294967296, 4294967296⟩ = true := inside_ring h (by omega) (by omega)
  rw [if_pos hin]
  refine ⟨ha.2, ?_, ?_⟩ <;> rw [ha.1] <;> simp only <;> omega
/-- The sine of an angle and so many quarter turns more. -/
def circ (n turns : Int) : Iv := if angleOk n then (if (quarter n + turns) % 4 = 0 then (meetI (sinS (angR n)) ringI).1 else if (quarter n + turns) % 4 = 1 then (meetI (cosS (angR n)) ringI).1 else if (quarter n + turns) % 4 = 2 then (meetI (negI (sinS (angR n))) ringI).1 else (meetI (negI (cosS (angR n))) ringI).1) else ringI

-- circle values
theorem quarter_bd0 (n : Int) : -163 ≤ quarter n ∧ quarter n ≤ 163 := by
  cases h : angleOk n with
  | true => have := quarter_bd h; omega
  | false => unfold quarter; rw [h]; simp
theorem and_3i {a : Int} : IntKind.i64.wrap ((BitVec.ofInt IntKind.i64.bits a &&& BitVec.ofInt IntKind.i64.bits 3).toNat : Nat) = a % 4 := by
  have h1 : (BitVec.ofInt IntKind.i64.bits a).toNat = (a % 18446744073709551616).toNat := by rw [bits_i64]; simp
  have h2 : (BitVec.ofInt IntKind.i64.bits 3).toNat = 3 := by rw [bits_i64]; simp
  rw [BitVec.toNat_and, h1, h2, Nat.and_two_pow_sub_one_eq_mod _ 2, IntKind.wrap_i64]
  omega
def F_meetR : FT
  | [.agg [.int .i64 x1, .int .i64 x2]], _ => some ((meetI (Iv.mk x1 x2) ringI).2 = true, .v (.agg [.int .i64 (((meetI (Iv.mk x1 x2) ringI).1)).lo, .int .i64 (((meetI (Iv.mk x1 x2) ringI).1)).hi]), [])
  | _, _ => none
theorem F_meetR_eq {x1 : Int} {x2 : Int} {g : List PC} : F_meetR [.agg [.int .i64 x1, .int .i64 x2]] g = some ((meetI (Iv.mk x1 x2) ringI).2 = true, .v (.agg [.int .i64 (((meetI (Iv.mk x1 x2) ringI).1)).lo, .int .i64 (((meetI (Iv.mk x1 x2) ringI).1)).hi]), []) := rfl
def F_circ : FT
  | [.c (.p (.int .i64 n)), .c (.p (.int .i64 t))], _ => some (t = 0 ∨ t = 1, .v (.agg [.int .i64 ((circ n t)).lo, .int .i64 ((circ n t)).hi]), [])
  | _, _ => none
theorem F_circ_eq {n : Int} {t : Int} {g : List PC} : F_circ [.c (.p (.int .i64 n)), .c (.p (.int .i64 t))] g = some (t = 0 ∨ t = 1, .v (.agg [.int .i64 ((circ n t)).lo, .int .i64 ((circ n t)).hi]), []) := rfl
def F_sinAt : FT
  | [.c (.p (.int .i64 n))], _ => some (True, .v (.agg [.int .i64 ((circ n 0)).lo, .int .i64 ((circ n 0)).hi]), [])
  | _, _ => none
theorem F_sinAt_eq {n : Int} {g : List PC} : F_sinAt [.c (.p (.int .i64 n))] g = some (True, .v (.agg [.int .i64 ((circ n 0)).lo, .int .i64 ((circ n 0)).hi]), []) := rfl
def F_cosAt : FT
  | [.c (.p (.int .i64 n))], _ => some (True, .v (.agg [.int .i64 ((circ n 1)).lo, .int .i64 ((circ n 1)).hi]), [])
  | _, _ => none
theorem F_cosAt_eq {n : Int} {g : List PC} : F_cosAt [.c (.p (.int .i64 n))] g = some (True, .v (.agg [.int .i64 ((circ n 1)).lo, .int .i64 ((circ n 1)).hi]), []) := rfl

-- spec.l06Meet
theorem spec_l06Meet_meetR_ok : Fn Tryz.prog 158 F_meetR := by
  refine fn_of_go (O := orc [⟨69, F_meetI, .inl spec_MeetI_meetI_ok⟩, ⟨154, F_ringI, .inl spec_l06Ring_ringI_ok⟩]) mixed T_ok (orc_sound _) Tryz.func158 (by kernel_rfl) rfl Tryz.ntmps158 (by kernel_rfl) Tryz.results158 ?_
  intro args g pre r new hF hpre
  unfold F_meetR at hF
  split at hF
  · rename_i x1 x2
    simp only [Option.some.injEq, Prod.mk.injEq] at hF
    obtain ⟨rfl, hr, rfl⟩ := hF
    refine ⟨by simp, ?_⟩
    simp (config := { maxSteps := 4000000, implicitDefEqProofs := false }) only [F_meetI_eq, F_ringI_eq, WK0, WK1, WK2, WK3, WK4, WK5, WK6, WK7, WK8, WK9, WK10, WK11, WK12, WK13, WK14, WK15, WK16, WK17, WK18, WK19, WK20, WK21, WK22, WK23, WK24, WK25, WK26, WK27, WK28, look_hit, look_miss, List.map_cons, List.map_nil, Nat.add_zero, max_v, min_v, ↓cnd_t, ↓cnd_f, ↓grd_b, ↓grd_u, startEnv, Option.map_some, List.length_nil, List.length_cons, List.nil_append, List.cons_append, List.getElem?_cons_zero, List.getElem?_cons_succ, List.set_cons_zero, List.set_cons_succ, Bool.not_true, Bool.not_false, reduceIte, Nat.reduceEqDiff, Nat.reduceAdd, Nat.reduceLT, blt_lit, beq_lit, Bool.or_true, Bool.true_or, Bool.or_false, Bool.false_or, Bool.and_true, Bool.true_and, Bool.and_self, cond_true, cond_false, List.append_nil, Iv.eta, Option.map_none, idxO_l0, idxO_l1, decide_true, decide_false, reqs_true, Int.zero_sub, wrap_lit, wrapu_lit, Int.reduceLE, Int.reduceLT, Int.reduceAdd, Int.reduceSub, Int.reduceMul, Int.reduceNeg, Int.reduceEq, Option.bind_some, bin_shr_u64, bin_shl_u64, bin_shr_i64, bin_shl_i64, and_m32', Int.reduceToNat, Int.reducePow, Int.reduceMod, Int.reduceDiv, wrap_u64s, true_or, or_true, true_and, and_true, Option.isSome_none, Option.isSome_some, Nat.reduceLeDiff, Nat.reduceMul, Int.toNat_natCast, Int.cast_ofNat_Int, Int.natCast_zero, Int.natCast_one, List.isEmpty_nil, List.isEmpty_cons, List.replicate_zero, List.replicate_succ, T1, T2, T3, T4, T5, T6, T9, T10, T11, T12, T21, T22, T23, T24, T26, T27, T28, T29, T30, T31, T32, T33, T34, T35, T37, T38, T39, T40, T42, T43, T44, T45, T46, T47, T48, T50, T52, T54, T55, T56, T57, T58, T59, T60, T61, T62, T63, T64, T65, T66, T67, T68, T69, T70, T71, T72, T73, T75, T77, T78, T79, T80, T82, T83, T84, T85, T87, T89, T90, T91, T92, T95, T97, T103, T104, T105, T106, T107, T109, T110]
    repeat' (first | with_reducible refine cnd_split (fun hc => ?_) (fun hc => ?_) | with_reducible refine Reqs.mk ?_ ?_)
    all_goals first
      | trivial
      | exact endS_v (t := ((meetI (Iv.mk x1 x2) ringI).1)) hr rfl
      | (exfalso
         have h := hpre
         unfold ringI at h
         simp_all; done)
  · cases hF

-- spec.l06At
theorem spec_l06At_circ_ok : Fn Tryz.prog 123 F_circ := by
  refine fn_of_go (O := orc [⟨28, F_subI, .inl spec_SubI_subI_ok⟩, ⟨42, F_turnI, .inl spec_TurnI_turnI_ok⟩, ⟨49, F_negI, .inl spec_NegI_negI_ok⟩, ⟨115, F_quarter, .inl spec_QuarterOf_quarter_ok⟩, ⟨152, F_angleOk, .inl spec_l06Angle_angleOk_ok⟩, ⟨154, F_ringI, .inl spec_l06Ring_ringI_ok⟩, ⟨157, F_atI, .inl spec_l05At_atI_ok⟩, ⟨158, F_meetR, .inl spec_l06Meet_meetR_ok⟩, ⟨159, F_sinS, .inl spec_SinSeries_sinS_ok⟩, ⟨160, F_cosS, .inl spec_CosSeries_cosS_ok⟩]) mixed T_ok (orc_sound _) Tryz.func123 (by kernel_rfl) rfl Tryz.ntmps123 (by kernel_rfl) Tryz.results123 ?_
  intro args g pre r new hF hpre
  unfold F_circ at hF
  split at hF
  · rename_i n t
    simp only [Option.some.injEq, Prod.mk.injEq] at hF
    obtain ⟨rfl, hr, rfl⟩ := hF
    refine ⟨by simp, ?_⟩
    have hq := quarter_bd0 n
    have e1 : IntKind.i64.wrap (quarter n + t) = quarter n + t := wrap_om (by omega) (by omega)
    simp (config := { maxSteps := 4000000, implicitDefEqProofs := false }) only [F_angleOk_eq, F_atI_eq, F_cosS_eq, F_meetR_eq, F_negI_eq, F_quarter_eq, F_ringI_eq, F_sinS_eq, F_subI_eq, F_turnI_eq, WK0, WK1, WK2, WK3, WK4, WK5, WK6, WK7, WK8, WK9, WK10, WK11, WK12, WK13, WK14, WK15, WK16, WK17, WK18, WK19, WK20, WK21, WK22, WK23, WK24, WK25, WK26, WK27, WK28, look_hit, look_miss, List.map_cons, List.map_nil, Nat.add_zero, max_v, min_v, ↓cnd_t, ↓cnd_f, ↓grd_b, ↓grd_u, startEnv, Option.map_some, List.length_nil, List.length_cons, List.nil_append, List.cons_append, List.getElem?_cons_zero, List.getElem?_cons_succ, List.set_cons_zero, List.set_cons_succ, Bool.not_true, Bool.not_false, reduceIte, Nat.reduceEqDiff, Nat.reduceAdd, Nat.reduceLT, blt_lit, beq_lit, Bool.or_true, Bool.true_or, Bool.or_false, Bool.false_or, Bool.and_true, Bool.true_and, Bool.and_self, cond_true, cond_false, List.append_nil, Iv.eta, Option.map_none, idxO_l0, idxO_l1, decide_true, decide_false, reqs_true, Int.zero_sub, wrap_lit, wrapu_lit, Int.reduceLE, Int.reduceLT, Int.reduceAdd, Int.reduceSub, Int.reduceMul, Int.reduceNeg, Int.reduceEq, Option.bind_some, bin_shr_u64, bin_shl_u64, bin_shr_i64, bin_shl_i64, and_m32', Int.reduceToNat, Int.reducePow, Int.reduceMod, Int.reduceDiv, wrap_u64s, true_or, or_true, true_and, and_true, Option.isSome_none, Option.isSome_some, Nat.reduceLeDiff, Nat.reduceMul, Int.toNat_natCast, Int.cast_ofNat_Int, Int.natCast_zero, Int.natCast_one, List.isEmpty_nil, List.isEmpty_cons, List.replicate_zero, List.replicate_succ, T1, T2, T3, T4, T5, T6, T9, T10, T11, T12, T21, T22, T23, T24, T26, T27, T28, T29, T30, T31, T32, T33, T34, T35, T37, T38, T39, T40, T42, T43, T44, T45, T46, T47, T48, T50, T52, T54, T55, T56, T57, T58, T59, T60, T61, T62, T63, T64, T65, T66, T67, T68, T69, T70, T71, T72, T73, T75, T77, T78, T79, T80, T82, T83, T84, T85, T87, T89, T90, T91, T92, T95, T97, T103, T104, T105, T106, T107, T109, T110, and_3i, e1]
    repeat' (first | with_reducible refine cnd_split (fun hc => ?_) (fun hc => ?_) | with_reducible refine Reqs.mk ?_ ?_)
    all_goals (try simp only [decide_eq_true_eq, decide_eq_false_iff_not] at *)
    all_goals first
      | (refine endS_v (t := (circ n t)) hr ?_; rw [circ, if_neg (by simp_all)]; rfl)
      | (have hk := angR_bd (by assumption)
         have m1 := sin_meets hk.1 hk.2.1 hk.2.2
         have m2 := cos_meets hk.1 hk.2.1 hk.2.2
         first
         | exact m1.meet.1
         | exact m2.meet.1
         | exact m1.neg.meet.1
         | exact m2.neg.meet.1
         | (refine endS_v (t := (circ n t)) hr ?_; rw [circ, if_pos (by assumption), if_pos (by assumption)]; rfl)
         | (refine endS_v (t := (circ n t)) hr ?_; rw [circ, if_pos (by assumption), if_neg (by assumption), if_pos (by assumption)]; rfl)
         | (refine endS_v (t := (circ n t)) hr ?_; rw [circ, if_pos (by assumption), if_neg (by assumption), if_neg (by assumption), if_pos (by assumption)]; rfl)
         | (refine endS_v (t := (circ n t)) hr ?_; rw [circ, if_pos (by assumption), if_neg (by assumption), if_neg (by assumption), if_neg (by assumption)]; rfl))
  · cases hF

-- spec.SinAt
theorem spec_SinAt_sinAt_ok : Fn Tryz.prog 51 F_sinAt := by
  refine fn_of_go (O := orc [⟨123, F_circ, .inl spec_l06At_circ_ok⟩]) mixed T_ok (orc_sound _) Tryz.func51 (by kernel_rfl) rfl Tryz.ntmps51 (by kernel_rfl) Tryz.results51 ?_
  intro args g pre r new hF hpre
  unfold F_sinAt at hF
  split at hF
  · rename_i n
    simp only [Option.some.injEq, Prod.mk.injEq] at hF
    obtain ⟨rfl, hr, rfl⟩ := hF
    refine ⟨by simp, ?_⟩
    simp (config := { maxSteps := 4000000, implicitDefEqProofs := false }) only [F_circ_eq, WK0, WK1, WK2, WK3, WK4, WK5, WK6, WK7, WK8, WK9, WK10, WK11, WK12, WK13, WK14, WK15, WK16, WK17, WK18, WK19, WK20, WK21, WK22, WK23, WK24, WK25, WK26, WK27, WK28, look_hit, look_miss, List.map_cons, List.map_nil, Nat.add_zero, max_v, min_v, ↓cnd_t, ↓cnd_f, ↓grd_b, ↓grd_u, startEnv, Option.map_some, List.length_nil, List.length_cons, List.nil_append, List.cons_append, List.getElem?_cons_zero, List.getElem?_cons_succ, List.set_cons_zero, List.set_cons_succ, Bool.not_true, Bool.not_false, reduceIte, Nat.reduceEqDiff, Nat.reduceAdd, Nat.reduceLT, blt_lit, beq_lit, Bool.or_true, Bool.true_or, Bool.or_false, Bool.false_or, Bool.and_true, Bool.true_and, Bool.and_self, cond_true, cond_false, List.append_nil, Iv.eta, Option.map_none, idxO_l0, idxO_l1, decide_true, decide_false, reqs_true, Int.zero_sub, wrap_lit, wrapu_lit, Int.reduceLE, Int.reduceLT, Int.reduceAdd, Int.reduceSub, Int.reduceMul, Int.reduceNeg, Int.reduceEq, Option.bind_some, bin_shr_u64, bin_shl_u64, bin_shr_i64, bin_shl_i64, and_m32', Int.reduceToNat, Int.reducePow, Int.reduceMod, Int.reduceDiv, wrap_u64s, true_or, or_true, true_and, and_true, Option.isSome_none, Option.isSome_some, Nat.reduceLeDiff, Nat.reduceMul, Int.toNat_natCast, Int.cast_ofNat_Int, Int.natCast_zero, Int.natCast_one, List.isEmpty_nil, List.isEmpty_cons, List.replicate_zero, List.replicate_succ, T1, T2, T3, T4, T5, T6, T9, T10, T11, T12, T21, T22, T23, T24, T26, T27, T28, T29, T30, T31, T32, T33, T34, T35, T37, T38, T39, T40, T42, T43, T44, T45, T46, T47, T48, T50, T52, T54, T55, T56, T57, T58, T59, T60, T61, T62, T63, T64, T65, T66, T67, T68, T69, T70, T71, T72, T73, T75, T77, T78, T79, T80, T82, T83, T84, T85, T87, T89, T90, T91, T92, T95, T97, T103, T104, T105, T106, T107, T109, T110]
    repeat' (first | with_reducible refine cnd_split (fun hc => ?_) (fun hc => ?_) | with_reducible refine Reqs.mk ?_ ?_)
    all_goals first | trivial | omega | exact endS_v (t := (circ n 0)) hr rfl
  · cases hF

-- spec.CosAt
theorem spec_CosAt_cosAt_ok : Fn Tryz.prog 52 F_cosAt := by
  refine fn_of_go (O := orc [⟨123, F_circ, .inl spec_l06At_circ_ok⟩]) mixed T_ok (orc_sound _) Tryz.func52 (by kernel_rfl) rfl Tryz.ntmps52 (by kernel_rfl) Tryz.results52 ?_
  intro args g pre r new hF hpre
  unfold F_cosAt at hF
  split at hF
  · rename_i n
    simp only [Option.some.injEq, Prod.mk.injEq] at hF
    obtain ⟨rfl, hr, rfl⟩ := hF
    refine ⟨by simp, ?_⟩
    simp (config := { maxSteps := 4000000, implicitDefEqProofs := false }) only [F_circ_eq, WK0, WK1, WK2, WK3, WK4, WK5, WK6, WK7, WK8, WK9, WK10, WK11, WK12, WK13, WK14, WK15, WK16, WK17, WK18, WK19, WK20, WK21, WK22, WK23, WK24, WK25, WK26, WK27, WK28, look_hit, look_miss, List.map_cons, List.map_nil, Nat.add_zero, max_v, min_v, ↓cnd_t, ↓cnd_f, ↓grd_b, ↓grd_u, startEnv, Option.map_some, List.length_nil, List.length_cons, List.nil_append, List.cons_append, List.getElem?_cons_zero, List.getElem?_cons_succ, List.set_cons_zero, List.set_cons_succ, Bool.not_true, Bool.not_false, reduceIte, Nat.reduceEqDiff, Nat.reduceAdd, Nat.reduceLT, blt_lit, beq_lit, Bool.or_true, Bool.true_or, Bool.or_false, Bool.false_or, Bool.and_true, Bool.true_and, Bool.and_self, cond_true, cond_false, List.append_nil, Iv.eta, Option.map_none, idxO_l0, idxO_l1, decide_true, decide_false, reqs_true, Int.zero_sub, wrap_lit, wrapu_lit, Int.reduceLE, Int.reduceLT, Int.reduceAdd, Int.reduceSub, Int.reduceMul, Int.reduceNeg, Int.reduceEq, Option.bind_some, bin_shr_u64, bin_shl_u64, bin_shr_i64, bin_shl_i64, and_m32', Int.reduceToNat, Int.reducePow, Int.reduceMod, Int.reduceDiv, wrap_u64s, true_or, or_true, true_and, and_true, Option.isSome_none, Option.isSome_some, Nat.reduceLeDiff, Nat.reduceMul, Int.toNat_natCast, Int.cast_ofNat_Int, Int.natCast_zero, Int.natCast_one, List.isEmpty_nil, List.isEmpty_cons, List.replicate_zero, List.replicate_succ, T1, T2, T3, T4, T5, T6, T9, T10, T11, T12, T21, T22, T23, T24, T26, T27, T28, T29, T30, T31, T32, T33, T34, T35, T37, T38, T39, T40, T42, T43, T44, T45, T46, T47, T48, T50, T52, T54, T55, T56, T57, T58, T59, T60, T61, T62, T63, T64, T65, T66, T67, T68, T69, T70, T71, T72, T73, T75, T77, T78, T79, T80, T82, T83, T84, T85, T87, T89, T90, T91, T92, T95, T97, T103, T104, T105, T106, T107, T109, T110]
    repeat' (first | with_reducible refine cnd_split (fun hc => ?_) (fun hc => ?_) | with_reducible refine Reqs.mk ?_ ?_)
    all_goals first | trivial | omega | exact endS_v (t := (circ n 1)) hr rfl
  · cases hF

end Go.Proofs.YtcnapkdccjibpaaGreat.Eng
