/- What functions of the program compute, and that the program computes it: part 16. -/
import Derived.Test.YtcnapkdccjibpaaGreatDoorTab
import Derived.Test.YtcnapkdccjibpaaGreatDoorEng16
import Derived.Laws.BitsLemmas
import Derived.Laws.Bits64
import Derived.Laws.Bits64b
import Derived.Lib.Mul64
import Derived.Lib.BitFns
import Derived.Laws.Externs
import Derived.Test.YtcnapkdccjibpaaGreatDoorL1
import Derived.Test.YtcnapkdccjibpaaGreatDoorL2
import Derived.Test.YtcnapkdccjibpaaGreatDoorL5
import Derived.Test.YtcnapkdccjibpaaGreatDoorL7
import Derived.Test.YtcnapkdccjibpaaGreatDoorL10
import Derived.Test.YtcnapkdccjibpaaGreatDoorL13
import Derived.Test.YtcnapkdccjibpaaGreatDoorL14
namespace Go.Proofs.YtcnapkdccjibpaaGreatDoor.Eng
open Go Go.RowKit
set_option linter.unusedVariables false
set_option linter.unusedSimpArgs false
set_option maxRecDepth 100000
set_option maxHeartbeats 1000000
-- trig
theorem sqrI_bd {a : Iv} {A M : Int} (ha : okI a = true) (h1 : -A ≤ a.lo) (h2 : a.hi ≤ A) (hM : A * A ≤ M * 4294967296) (hM2 : M < 1152921504606846976) (hA : A < 1152921504606846976) :
    okI (sqrI a) = true ∧ 0 ≤ (sqrI a).lo ∧ (sqrI a).hi ≤ M := by
  have hb := okI_iff.1 ha
  have hn := nearI_ok ha
  rw [okI_mk] at hn
  have e : absI a = ⟨nearI a, farI a⟩ := by unfold absI; rw [if_pos ha]
  have n0 : 0 ≤ nearI a := by
    unfold nearI absZ
    split
    · omega
    · rename_i hw
      repeat' split
      all_goals omega
  have f0 : farI a ≤ A := by
    unfold farI absZ
    repeat' split
    all_goals omega
  have p1 := @mul_pos2 (nearI a) (nearI a) A A n0 (by omega) n0 (by omega)
  have p2 := @mul_pos2 (farI a) (farI a) A A (by omega) f0 (by omega) f0
  have fx : fixOk (nearI a) = true := by rw [fixOk_iff]; omega
  have fy : fixOk (farI a) = true := by rw [fixOk_iff]; omega
  have p3 : nearI a * nearI a ≤ farI a * farI a := (@mul_pos2 (nearI a) (nearI a) (farI a) (farI a) n0 (by omega) n0 (by omega)).2
  have hd := mulDown_eq fx fx (by omega) (by omega)
  have hu := mulUp_eq fy fy (by omega) (by omega)
  unfold sqrI
  rw [if_pos ha, e]
  simp only [hd, hu, Bool.and_self, if_true]
  have hk : okI ⟨nearI a * nearI a / 4294967296, -(-(farI a * farI a) / 4294967296)⟩ = true := by rw [okI_mk]; omega
  rw [mkI_ok hk]
  refine ⟨hk, ?_, ?_⟩ <;> simp only <;> omega
theorem seriesL_bd : ∀ (k : Nat) (y : Iv) (c : Int) (s : Iv), k ≤ 8 → c = 0 ∨ c = -1 → okI y = true → 0 ≤ y.lo → y.hi ≤ 2649400000 → okI s = true → 0 ≤ s.lo → s.hi ≤ 4294967296 →
    okI (seriesL k y c s) = true ∧ 0 ≤ (seriesL k y c s).lo ∧ (seriesL k y c s).hi ≤ 4294967296
  | 0, y, c, s, _, _, _, _, _, h1, h2, h3 => ⟨h1, h2, h3⟩
  | k + 1, y, c, s, hk, hc, hy, y1, y2, h1, h2, h3 => by
    obtain ⟨A, eA⟩ : ∃ A : Int, 2 * ((k + 1 : Nat) : Int) + c = A := ⟨_, rfl⟩
    have hA : 1 ≤ A ∧ A ≤ 16 := by omega
    have hAA := @mul_pos2 A (A + 1) 16 17 (by omega) (by omega) (by omega) (by omega)
    have hA2 : 2 ≤ A * (A + 1) := by
      have := Int.mul_le_mul (a := 1) (b := 2) (c := A) (d := A + 1) (by omega) (by omega) (by omega) (by omega)
      omega
    rw [seriesL, eA]
    generalize A * (A + 1) = q at *
    have hd := @divI_bd y q 0 1324700001 hy (by omega) (by omega) (by omega) (by omega) (by omega)
    have hdl := (okI_iff.1 hd.1).2.1
    have hsl := (okI_iff.1 h1).2.1
    have hm := @mulI_bd (divI y (intI q)) s 0 1324700001 hd.1 h1 (fun x hx z hz => by
      have := @mul_pos2 x z 1324700001 4294967296 (by rcases hx with rfl | rfl <;> omega) (by rcases hx with rfl | rfl <;> omega) (by rcases hz with rfl | rfl <;> omega) (by rcases hz with rfl | rfl <;> omega)
      omega) (by omega) (by omega)
    have hml := (okI_iff.1 hm.1).2.1
    have e1 : intI 1 = ⟨4294967296, 4294967296⟩ := rfl
    have hs := @subI_bd (intI 1) (mulI (divI y (intI q)) s) (by rw [e1]; rfl) hm.1 (by rw [e1]; simp only; omega) (by rw [e1]; simp only; omega)
    refine seriesL_bd k y c _ (by omega) hc hy y1 y2 hs.2 ?_ ?_
    · rw [hs.1, e1]; simp only; omega
    · rw [hs.1, e1]; simp only; omega
def angR (n : Int) : Iv := subI ⟨n, n⟩ (turnI (quarter n))
theorem quarter_bd {n : Int} (h : angleOk n = true) : -163 ≤ quarter n ∧ quarter n ≤ 163 ∧ quarter n * 6746518852 - 3373259426 ≤ n ∧ n < quarter n * 6746518852 + 3373259426 := by
  unfold quarter
  rw [if_pos h]
  rw [angleOk_iff] at h
  omega
theorem turn_bd {k : Int} (h : -163 ≤ k ∧ k ≤ 163) : okI (turnI k) = true ∧ k * 6746518852 - 60 ≤ (turnI k).lo ∧ (turnI k).hi ≤ k * 6746518852 + 60 := by
  unfold turnI
  rw [if_pos (by rw [within_iff]; omega)]
  unfold turnA turnP
  by_cases h0 : k < 0
  · rw [if_pos h0]
    unfold turnLo
    rw [okI_mk]
    simp only
    omega
  · rw [if_neg h0]
    by_cases h1 : k = 0
    · rw [if_pos h1, okI_mk]; simp only; omega
    · rw [if_neg h1]
      unfold turnLo
      rw [okI_mk]
      simp only
      omega
theorem angR_bd {n : Int} (h : angleOk n = true) : okI (angR n) = true ∧ -3373260000 ≤ (angR n).lo ∧ (angR n).hi ≤ 3373260000 := by
  have hk := quarter_bd h
  have hl := @turn_bd (quarter n) (by omega)
  rw [angleOk_iff] at h
  unfold angR
  generalize quarter n = k at *
  have hb := okI_iff.1 hl.1
  have hs := @subI_bd ⟨n, n⟩ (turnI k) (by rw [okI_mk]; omega) hl.1 (by simp only; omega) (by simp only; omega)
  refine ⟨hs.2, ?_⟩
  rw [hs.1]
  simp only
  omega
def ringI : Iv := ⟨-4294967296, 4294967296⟩
/-- An interval that meets the one from -1 to 1. -/
def Meets (x : Iv) : Prop := okI x = true ∧ x.lo ≤ 4294967296 ∧ -4294967296 ≤ x.hi
theorem Meets.meet {x : Iv} (h : Meets x) : (meetI x ringI).2 = true ∧ (meetI x ringI).1 = ⟨max x.lo (-4294967296), min x.hi 4294967296⟩ := by
  obtain ⟨h1, h2, h3⟩ := h
  have hb := okI_iff.1 h1
  have hr : okI ringI = true := rfl
  have e1 : ringI.lo = -4294967296 := rfl
  have e2 : ringI.hi = 4294967296 := rfl
  unfold meetI
  rw [if_pos h1, if_pos hr, e1, e2, if_neg (by omega)]
  exact ⟨rfl, rfl⟩
theorem Meets.neg {x : Iv} (h : Meets x) : Meets (negI x) := by
  obtain ⟨h1, h2, h3⟩ := h
  have hb := okI_iff.1 h1
  unfold negI
  rw [if_pos h1]
  refine ⟨by rw [okI_mk]; omega, ?_, ?_⟩ <;> simp only <;> omega
theorem inside_ring {r : Iv} (h : okI r = true) (h1 : -4294967296 ≤ r.lo) (h2 : r.hi ≤ 4294967296) : insideI r ringI = true := by
  have hr : okI ringI = true := rfl
  unfold insideI
  rw [h, hr]
  simp only [Bool.not_true, Bool.false_or, Bool.true_and, Bool.and_eq_true, decide_eq_true_eq]
  exact ⟨h1, h2⟩
theorem sqr_angR {r : Iv} (h : okI r = true) (h1 : -3373260000 ≤ r.lo) (h2 : r.hi ≤ 3373260000) : okI (sqrI r) = true ∧ 0 ≤ (sqrI r).lo ∧ (sqrI r).hi ≤ 2649400000 :=
  @sqrI_bd r 3373260000 2649400000 h h1 h2 (by omega) (by omega) (by omega)
theorem sin_meets {r : Iv} (h : okI r = true) (h1 : -3373260000 ≤ r.lo) (h2 : r.hi ≤ 3373260000) : Meets (sinS r) := by
  have hy := sqr_angR h h1 h2
  have hs := seriesL_bd 8 (sqrI r) 0 (intI 1) (by omega) (.inl rfl) hy.1 hy.2.1 hy.2.2 rfl (by decide) (by decide)
  have hsl := (okI_iff.1 hs.1).2.1
  have hrl := (okI_iff.1 h).2.1
  have hm := @mulI_bd r (seriesL 8 (sqrI r) 0 (intI 1)) (-3373260000) 3373260000 h hs.1 (fun x hx z hz => by
    have := @mul_abs x z 3373260000 4294967296 (by rcases hx with rfl | rfl <;> omega) (by rcases hx with rfl | rfl <;> omega) (by rcases hz with rfl | rfl <;> omega) (by rcases hz with rfl | rfl <;> omega)
    omega) (by omega) (by omega)
  have hml := (okI_iff.1 hm.1).2.1
  have ha := @addI_bd (mulI r (seriesL 8 (sqrI r) 0 (intI 1))) ⟨-1, 1⟩ hm.1 rfl (by simp only; omega) (by simp only; omega)
  unfold sinS
  have hin : insideI r ⟨-4294967296, 4294967296⟩ = true := inside_ring h (by omega) (by omega)
  rw [if_pos hin]
  refine ⟨ha.2, ?_, ?_⟩ <;> rw [ha.1] <;> simp only <;> omega
theorem cos_meets {r : Iv} (h : okI r = true) (h1 : -3373260000 ≤ r.lo) (h2 : r.hi ≤ 3373260000) : Meets (cosS r) := by
  have hy := sqr_angR h h1 h2
  have hs := seriesL_bd 8 (sqrI r) (-1) (intI 1) (by omega) (.inr rfl) hy.1 hy.2.1 hy.2.2 rfl (by decide) (by decide)
  have hsl := (okI_iff.1 hs.1).2.1
  have ha := @addI_bd (seriesL 8 (sqrI r) (-1) (intI 1)) ⟨-1, 1⟩ hs.1 rfl (by simp only; omega) (by simp only; omega)
  unfold cosS
  have hin : insideI r ⟨-4294967296, 4294967296⟩ = true := inside_ring h (by omega) (by omega)
  rw [if_pos hin]
  refine ⟨ha.2, ?_, ?_⟩ <;> rw [ha.1] <;> simp only <;> omega
/-- The sine of an angle and so many quarter turns more. -/
def circ (n turns : Int) : Iv := if angleOk n then (if (quarter n + turns) % 4 = 0 then (meetI (sinS (angR n)) ringI).1 else if (quarter n + turns) % 4 = 1 then (meetI (cosS (angR n)) ringI).1 else if (quarter n + turns) % 4 = 2 then (meetI (negI (sinS (angR n))) ringI).1 else (meetI (negI (cosS (angR n))) ringI).1) else ringI

-- circle values
theorem quarter_bd0 (n : Int) : -163 ≤ quarter n ∧ quarter n ≤ 163 := by
  cases h : angleOk n with
  | true => have := quarter_bd h; omega
  | false => unfold quarter; rw [h]; simp
theorem and_3i {a : Int} : IntKind.i64.wrap ((BitVec.ofInt IntKind.i64.bits a &&& BitVec.ofInt IntKind.i64.bits 3).toNat : Nat) = a % 4 := by
  have h1 : (BitVec.ofInt IntKind.i64.bits a).toNat = (a % 18446744073709551616).toNat := by rw [bits_i64]; simp
  have h2 : (BitVec.ofInt IntKind.i64.bits 3).toNat = 3 := by rw [bits_i64]; simp
  rw [BitVec.toNat_and, h1, h2, Nat.and_two_pow_sub_one_eq_mod _ 2, IntKind.wrap_i64]
  omega
def F_meetR : FT
  | [.agg [.int .i64 x1, .int .i64 x2]], _ => some ((meetI (Iv.mk x1 x2) ringI).2 = true, .v (.agg [.int .i64 (((meetI (Iv.mk x1 x2) ringI).1)).lo, .int .i64 (((meetI (Iv.mk x1 x2) ringI).1)).hi]), [])
  | _, _ => none
theorem F_meetR_eq {x1 : Int} {x2 : Int} {g : List PC} : F_meetR [.agg [.int .i64 x1, .int .i64 x2]] g = some ((meetI (Iv.mk x1 x2) ringI).2 = true, .v (.agg [.int .i64 (((meetI (Iv.mk x1 x2) ringI).1)).lo, .int .i64 (((meetI (Iv.mk x1 x2) ringI).1)).hi]), []) := rfl
def F_circ : FT
  | [.c (.p (.int .i64 n)), .c (.p (.int .i64 t))], _ => some (t = 0 ∨ t = 1, .v (.agg [.int .i64 ((circ n t)).lo, .int .i64 ((circ n t)).hi]), [])
  | _, _ => none
theorem F_circ_eq {n : Int} {t : Int} {g : List PC} : F_circ [.c (.p (.int .i64 n)), .c (.p (.int .i64 t))] g = some (t = 0 ∨ t = 1, .v (.agg [.int .i64 ((circ n t)).lo, .int .i64 ((circ n t)).hi]), []) := rfl
def F_sinAt : FT
  | [.c (.p (.int .i64 n))], _ => some (True, .v (.agg [.int .i64 ((circ n 0)).lo, .int .i64 ((circ n 0)).hi]), [])
  | _, _ => none
theorem F_sinAt_eq {n : Int} {g : List PC} : F_sinAt [.c (.p (.int .i64 n))] g = some (True, .v (.agg [.int .i64 ((circ n 0)).lo, .int .i64 ((circ n 0)).hi]), []) := rfl
def F_cosAt : FT
  | [.c (.p (.int .i64 n))], _ => some (True, .v (.agg [.int .i64 ((circ n 1)).lo, .int .i64 ((circ n 1)).hi]), [])
  | _, _ => none
theorem F_cosAt_eq {n : Int} {g : List PC} : F_cosAt [.c (.p (.int .i64 n))] g = some (True, .v (.agg [.int .i64 ((circ n 1)).lo, .int .i64 ((circ n 1)).hi]), []) := rfl

end Go.Proofs.YtcnapkdccjibpaaGreatDoor.Eng
