/- What functions of the program compute, and that the program computes it: part 15. -/
import Derived.Test.YtcnapkdccjibpaaGreatDoorTab
import Derived.Test.YtcnapkdccjibpaaGreatDoorEng16
import Derived.Laws.BitsLemmas
import Derived.Laws.Bits64
import Derived.Laws.Bits64b
import Derived.Lib.Mul64
import Derived.Lib.BitFns
import Derived.Laws.Externs
import Derived.Test.YtcnapkdccjibpaaGreatDoorL1
import Derived.Test.YtcnapkdccjibpaaGreatDoorL2
import Derived.Test.YtcnapkdccjibpaaGreatDoorL5
import Derived.Test.YtcnapkdccjibpaaGreatDoorL7
import Derived.Test.YtcnapkdccjibpaaGreatDoorL10
import Derived.Test.YtcnapkdccjibpaaGreatDoorL13
namespace Go.Proofs.YtcnapkdccjibpaaGreatDoor.Eng
open Go Go.RowKit
set_option linter.unusedVariables false
set_option linter.unusedSimpArgs false
set_option maxRecDepth 100000
set_option maxHeartbeats 1000000
-- exp
def expK (n : Int) : Int := (2 * n + 2977044472) / 5954088944
def expL : Nat → Iv → Iv → Iv
  | 0, _, p => p
  | i + 1, r, p => expL i r (addI (intI 1) (divI (mulI r p) (intI ((i + 1 : Nat) : Int))))
def widI (x : Iv) : Iv := if okI x then mkI (x.lo - 1) (x.hi + 1) else whole
def scaleI (x : Iv) (k : Int) : Iv := if 0 ≤ k then mkI (x.lo * 2 ^ k.toNat) (x.hi * 2 ^ k.toNat) else ⟨x.lo / 2 ^ (-k).toNat, -((-x.hi) / 2 ^ (-k).toNat)⟩
def expR (n : Int) : Iv := subI ⟨n, n⟩ (lnI (expK n))
def expP (n : Int) : Iv := expL 9 (expR n) (intI 1)
def expA (n : Int) : Iv := if fixOk n && decide (n ≤ 85899345920) then (if n < -98784247808 then ⟨0, 1⟩ else scaleI (widI (expP n)) (expK n)) else whole
def F_expA : FT
  | [.c (.p (.int .i64 n))], _ => some (True, .v (.agg [.int .i64 ((expA n)).lo, .int .i64 ((expA n)).hi]), [])
  | _, _ => none
theorem F_expA_eq {n : Int} {g : List PC} : F_expA [.c (.p (.int .i64 n))] g = some (True, .v (.agg [.int .i64 ((expA n)).lo, .int .i64 ((expA n)).hi]), []) := rfl
def F_widI : FT
  | [.agg [.int .i64 x1, .int .i64 x2], .c (.p (.int .i64 w))], _ => some (w = 1, .v (.agg [.int .i64 ((widI (Iv.mk x1 x2))).lo, .int .i64 ((widI (Iv.mk x1 x2))).hi]), [])
  | _, _ => none
theorem F_widI_eq {x1 : Int} {x2 : Int} {w : Int} {g : List PC} : F_widI [.agg [.int .i64 x1, .int .i64 x2], .c (.p (.int .i64 w))] g = some (w = 1, .v (.agg [.int .i64 ((widI (Iv.mk x1 x2))).lo, .int .i64 ((widI (Iv.mk x1 x2))).hi]), []) := rfl
def F_scaleI : FT
  | [.agg [.int .i64 x1, .int .i64 x2], .c (.p (.int .i64 k))], _ => some ((-9223372036854775808 < x1 ∧ 0 ≤ x1 ∧ x1 ≤ x2 ∧ x2 ≤ 8589934593) ∧ -40 ≤ k ∧ k ≤ 29, .v (.agg [.int .i64 ((scaleI (Iv.mk x1 x2) k)).lo, .int .i64 ((scaleI (Iv.mk x1 x2) k)).hi]), [])
  | _, _ => none
theorem F_scaleI_eq {x1 : Int} {x2 : Int} {k : Int} {g : List PC} : F_scaleI [.agg [.int .i64 x1, .int .i64 x2], .c (.p (.int .i64 k))] g = some ((-9223372036854775808 < x1 ∧ 0 ≤ x1 ∧ x1 ≤ x2 ∧ x2 ≤ 8589934593) ∧ -40 ≤ k ∧ k ≤ 29, .v (.agg [.int .i64 ((scaleI (Iv.mk x1 x2) k)).lo, .int .i64 ((scaleI (Iv.mk x1 x2) k)).hi]), []) := rfl
theorem expK_bd {n : Int} (h1 : -98784247808 ≤ n) (h2 : n ≤ 85899345920) : -33 ≤ expK n ∧ expK n ≤ 29 ∧ expK n * 5954088944 ≤ 2 * n + 2977044472 ∧ 2 * n + 2977044472 < expK n * 5954088944 + 5954088944 := by
  unfold expK; omega
theorem ln_bd {k : Int} (h : -33 ≤ k ∧ k ≤ 29) : okI (lnI k) = true ∧ k * 2977044472 - 64 ≤ (lnI k).lo ∧ (lnI k).hi ≤ k * 2977044472 + 64 := by
  unfold lnI
  rw [if_pos (by rw [within_iff]; omega)]
  by_cases h0 : k < 0
  · rw [if_pos h0]
    have h1 := @ln_in (-k) (by omega)
    unfold lnP at *
    simp only at *
    rw [okI_mk]; omega
  · rw [if_neg h0]
    have h1 := @ln_in k (by omega)
    unfold lnP at *
    simp only at *
    rw [okI_mk]; omega
theorem expR_bd {n : Int} (h1 : -98784247808 ≤ n) (h2 : n ≤ 85899345920) : okI (expR n) = true ∧ -1488700000 ≤ (expR n).lo ∧ (expR n).hi ≤ 1488700000 := by
  have hk := expK_bd h1 h2
  have hl := @ln_bd (expK n) (by omega)
  unfold expR
  generalize expK n = k at *
  have hb := okI_iff.1 hl.1
  have hs := @subI_bd ⟨n, n⟩ (lnI k) (by rw [okI_mk]; omega) hl.1 (by simp only; omega) (by simp only; omega)
  refine ⟨hs.2, ?_⟩
  rw [hs.1]
  simp only
  omega
theorem expL_bd : ∀ (i : Nat) (r p : Iv), i ≤ 9 → okI r = true → -1488700000 ≤ r.lo → r.hi ≤ 1488700000 → okI p = true → 1 ≤ p.lo → p.hi ≤ 8589934592 →
    okI (expL i r p) = true ∧ 1 ≤ (expL i r p).lo ∧ (expL i r p).hi ≤ 8589934592
  | 0, r, p, _, _, _, _, h1, h2, h3 => ⟨h1, h2, h3⟩
  | i + 1, r, p, hi, hr, r1, r2, h1, h2, h3 => by
    have hle := (okI_iff.1 h1).2.1
    have hrl := (okI_iff.1 hr).2.1
    have hm := @mulI_bd r p (-2977400000) 2977400000 hr h1 (fun x hx y hy => by
      have := @mul_abs x y 1488700000 8589934592 (by rcases hx with rfl | rfl <;> omega) (by rcases hx with rfl | rfl <;> omega) (by rcases hy with rfl | rfl <;> omega) (by rcases hy with rfl | rfl <;> omega)
      omega) (by omega) (by omega)
    have hd := @divI_bd (mulI r p) ((i + 1 : Nat) : Int) (-2977400000) 2977400000 hm.1 (by omega) (by omega) (by omega) (by omega) (by omega)
    have e1 : intI 1 = ⟨4294967296, 4294967296⟩ := rfl
    have hdl := (okI_iff.1 hd.1).2.1
    have ha := @addI_bd (intI 1) (divI (mulI r p) (intI ((i + 1 : Nat) : Int))) (by rw [e1]; rfl) hd.1 (by rw [e1]; simp only; omega) (by rw [e1]; simp only; omega)
    refine expL_bd i r _ (by omega) hr r1 r2 ha.2 ?_ ?_
    · rw [ha.1, e1]; simp only; omega
    · rw [ha.1, e1]; simp only; omega
theorem expP_bd {n : Int} (h1 : -98784247808 ≤ n) (h2 : n ≤ 85899345920) : okI (expP n) = true ∧ 1 ≤ (expP n).lo ∧ (expP n).hi ≤ 8589934592 := by
  have hr := expR_bd h1 h2
  exact expL_bd 9 _ _ (by omega) hr.1 hr.2.1 hr.2.2 rfl (by decide) (by decide)

end Go.Proofs.YtcnapkdccjibpaaGreatDoor.Eng
