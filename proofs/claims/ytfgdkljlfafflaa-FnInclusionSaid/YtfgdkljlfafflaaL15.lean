/- What functions of the program compute, and that the program computes it: part 15. -/
import Derived.Test.YtfgdkljlfafflaaTab
import Derived.Test.YtfgdkljlfafflaaEng16
import Derived.Laws.BitsLemmas
import Derived.Laws.Bits64
import Derived.Laws.Bits64b
import Derived.Lib.Mul64
import Derived.Lib.BitFns
import Derived.Laws.Externs
import Derived.Test.YtfgdkljlfafflaaL1
import Derived.Test.YtfgdkljlfafflaaL2
import Derived.Test.YtfgdkljlfafflaaL3
import Derived.Test.YtfgdkljlfafflaaL6
import Derived.Test.YtfgdkljlfafflaaL8
import Derived.Test.YtfgdkljlfafflaaL12
namespace Go.Proofs.Ytfgdkljlfafflaa.Eng
open Go Go.RowKit
set_option linter.unusedVariables false
set_option linter.unusedSimpArgs false
set_option maxRecDepth 100000
set_option maxHeartbeats 1000000
-- consts
def F_tinyI : FT
  | [], _ => some (True, .v (.agg [.int .i64 ((Iv.mk (-1) 1)).lo, .int .i64 ((Iv.mk (-1) 1)).hi]), [])
  | _, _ => none
theorem F_tinyI_eq {g : List PC} : F_tinyI [] g = some (True, .v (.agg [.int .i64 ((Iv.mk (-1) 1)).lo, .int .i64 ((Iv.mk (-1) 1)).hi]), []) := rfl
def F_ringI : FT
  | [], _ => some (True, .v (.agg [.int .i64 ((Iv.mk (-4294967296) 4294967296)).lo, .int .i64 ((Iv.mk (-4294967296) 4294967296)).hi]), [])
  | _, _ => none
theorem F_ringI_eq {g : List PC} : F_ringI [] g = some (True, .v (.agg [.int .i64 ((Iv.mk (-4294967296) 4294967296)).lo, .int .i64 ((Iv.mk (-4294967296) 4294967296)).hi]), []) := rfl
def F_oneI : FT
  | [], _ => some (True, .v (.agg [.int .i64 ((intI 1)).lo, .int .i64 ((intI 1)).hi]), [])
  | _, _ => none
theorem F_oneI_eq {g : List PC} : F_oneI [] g = some (True, .v (.agg [.int .i64 ((intI 1)).lo, .int .i64 ((intI 1)).hi]), []) := rfl
def F_mkP : FT
  | [.c (.p (.int .i64 n))], _ => some (True, .v (.agg [.int .i64 ((mkI n n)).lo, .int .i64 ((mkI n n)).hi]), [])
  | _, _ => none
theorem F_mkP_eq {n : Int} {g : List PC} : F_mkP [.c (.p (.int .i64 n))] g = some (True, .v (.agg [.int .i64 ((mkI n n)).lo, .int .i64 ((mkI n n)).hi]), []) := rfl

-- series
def seriesL : Nat → Iv → Int → Iv → Iv
  | 0, _, _, s => s
  | k + 1, y, c, s => seriesL k y c (subI (intI 1) (mulI (divI y (intI ((2 * (k + 1 : Nat) + c) * (2 * (k + 1 : Nat) + c + 1)))) s))
def F_seriesP : FT
  | [.agg [.int .i64 y1, .int .i64 y2], .c (.p (.int .i64 c))], _ => some (c = 1 ∨ c = 2, .v (.agg [.int .i64 ((seriesL 8 (Iv.mk y1 y2) (c - 2) (intI 1))).lo, .int .i64 ((seriesL 8 (Iv.mk y1 y2) (c - 2) (intI 1))).hi]), [])
  | _, _ => none
theorem F_seriesP_eq {y1 : Int} {y2 : Int} {c : Int} {g : List PC} : F_seriesP [.agg [.int .i64 y1, .int .i64 y2], .c (.p (.int .i64 c))] g = some (c = 1 ∨ c = 2, .v (.agg [.int .i64 ((seriesL 8 (Iv.mk y1 y2) (c - 2) (intI 1))).lo, .int .i64 ((seriesL 8 (Iv.mk y1 y2) (c - 2) (intI 1))).hi]), []) := rfl
def F_seriesQ : FT
  | [.agg [.int .i64 y1, .int .i64 y2], .c (.p (.int .i64 c))], _ => some (c = 0 ∨ c = -1, .v (.agg [.int .i64 ((seriesL 8 (Iv.mk y1 y2) c (intI 1))).lo, .int .i64 ((seriesL 8 (Iv.mk y1 y2) c (intI 1))).hi]), [])
  | _, _ => none
theorem F_seriesQ_eq {y1 : Int} {y2 : Int} {c : Int} {g : List PC} : F_seriesQ [.agg [.int .i64 y1, .int .i64 y2], .c (.p (.int .i64 c))] g = some (c = 0 ∨ c = -1, .v (.agg [.int .i64 ((seriesL 8 (Iv.mk y1 y2) c (intI 1))).lo, .int .i64 ((seriesL 8 (Iv.mk y1 y2) c (intI 1))).hi]), []) := rfl

-- power
def powL : Nat → Iv → Iv → Iv
  | 0, p, _ => p
  | k + 1, p, x => powL k (mulI p x) x
def powI (x : Iv) (n : Int) : Iv := if okI x && within n 0 16 then (if n = 0 then intI 1 else if n % 2 = 0 then powL (n - 1).toNat (absI x) (absI x) else powL (n - 1).toNat x x) else whole
def F_powI : FT
  | [.agg [.int .i64 x1, .int .i64 x2], .c (.p (.int .i64 n))], _ => some (inR n, .v (.agg [.int .i64 ((powI (Iv.mk x1 x2) n)).lo, .int .i64 ((powI (Iv.mk x1 x2) n)).hi]), [])
  | _, _ => none
theorem F_powI_eq {x1 : Int} {x2 : Int} {n : Int} {g : List PC} : F_powI [.agg [.int .i64 x1, .int .i64 x2], .c (.p (.int .i64 n))] g = some (inR n, .v (.agg [.int .i64 ((powI (Iv.mk x1 x2) n)).lo, .int .i64 ((powI (Iv.mk x1 x2) n)).hi]), []) := rfl
theorem absI_self {x : Iv} (h : okI x = true) (h0 : ¬ x.lo < 0) : absI x = x := by
  unfold absI
  rw [if_pos h]
  rw [okI_iff] at h
  obtain ⟨a, b⟩ := x
  simp only at h h0
  have e1 : nearI ⟨a, b⟩ = a := by
    unfold nearI absZ
    simp only
    split
    · rename_i hw; rw [within_iff] at hw; omega
    · repeat' split
      all_goals omega
  have e2 : farI ⟨a, b⟩ = b := by
    unfold farI absZ
    simp only
    repeat' split
    all_goals omega
  rw [e1, e2]
theorem powI_even {x : Iv} {n : Int} (h : okI x = true) (hw : within n 0 16 = true) (h0 : ¬ n = 0) (h2 : n.tmod 2 = 0) : powI x n = powL (n - 1).toNat (absI x) (absI x) := by
  have hn := within_iff.1 hw
  unfold powI
  rw [if_pos (by rw [h, hw]; rfl), if_neg h0, if_pos (by rw [← tmod_p hn.1]; exact h2)]
theorem powI_odd {x : Iv} {n : Int} (h : okI x = true) (hw : within n 0 16 = true) (h0 : ¬ n = 0) (h2 : ¬ n.tmod 2 = 0) : powI x n = powL (n - 1).toNat x x := by
  have hn := within_iff.1 hw
  unfold powI
  rw [if_pos (by rw [h, hw]; rfl), if_neg h0, if_neg (by rw [← tmod_p hn.1]; exact h2)]
theorem powI_0 {x : Iv} (h : okI x = true) : powI x 0 = intI 1 := by
  unfold powI
  rw [if_pos (by rw [h]; rfl), if_pos rfl]
theorem powI_w {x : Iv} {n : Int} (h : okI x = false ∨ within n 0 16 = false) : powI x n = whole := by
  unfold powI
  rw [if_neg]
  rcases h with h | h <;> rw [h] <;> simp

-- arccot
def arcL : Nat → Int → Iv → Iv → Int → Int → Iv
  | 0, _, _, sum, _, _ => sum
  | j + 1, k, p, sum, n, terms =>
    let t := if k = terms then hullI (divI (divI p (intI (n * n))) (intI (2 * k + 1))) (intI 0) else divI (divI p (intI (n * n))) (intI (2 * k + 1))
    arcL j (k + 1) (divI p (intI (n * n))) (if k % 2 = 1 then subI sum t else addI sum t) n terms
def acotI (n terms : Int) : Iv := if within n 2 1000 && within terms 1 40 then arcL terms.toNat 1 (quotI 1 n) (quotI 1 n) n terms else whole
def F_acotI : FT
  | [.c (.p (.int .i64 n)), .c (.p (.int .i64 t))], _ => some (True, .v (.agg [.int .i64 ((acotI n t)).lo, .int .i64 ((acotI n t)).hi]), [])
  | _, _ => none
theorem F_acotI_eq {n : Int} {t : Int} {g : List PC} : F_acotI [.c (.p (.int .i64 n)), .c (.p (.int .i64 t))] g = some (True, .v (.agg [.int .i64 ((acotI n t)).lo, .int .i64 ((acotI n t)).hi]), []) := rfl

-- arcs
def arcSL : Nat → Iv → Iv → Iv
  | 0, _, s => s
  | k + 1, y, s => arcSL k y (subI (quotI 1 (2 * (k : Int) + 1)) (mulI y s))
def arcS (x : Iv) : Iv := if insideI x ⟨-1073741824, 1073741824⟩ then addI (mulI x (arcSL 10 (sqrI x) (quotI 1 21))) ⟨-1, 1⟩ else whole
def F_arcS : FT
  | [.agg [.int .i64 x1, .int .i64 x2]], _ => some (True, .v (.agg [.int .i64 ((arcS (Iv.mk x1 x2))).lo, .int .i64 ((arcS (Iv.mk x1 x2))).hi]), [])
  | _, _ => none
theorem F_arcS_eq {x1 : Int} {x2 : Int} {g : List PC} : F_arcS [.agg [.int .i64 x1, .int .i64 x2]] g = some (True, .v (.agg [.int .i64 ((arcS (Iv.mk x1 x2))).lo, .int .i64 ((arcS (Iv.mk x1 x2))).hi]), []) := rfl

-- sinS
def sinS (x : Iv) : Iv := if insideI x ⟨-4294967296, 4294967296⟩ then addI (mulI x (seriesL 8 (sqrI x) 0 (intI 1))) ⟨-1, 1⟩ else whole
def cosS (x : Iv) : Iv := if insideI x ⟨-4294967296, 4294967296⟩ then addI (seriesL 8 (sqrI x) (-1) (intI 1)) ⟨-1, 1⟩ else whole
def F_sinS : FT
  | [.agg [.int .i64 x1, .int .i64 x2]], _ => some (True, .v (.agg [.int .i64 ((sinS (Iv.mk x1 x2))).lo, .int .i64 ((sinS (Iv.mk x1 x2))).hi]), [])
  | _, _ => none
theorem F_sinS_eq {x1 : Int} {x2 : Int} {g : List PC} : F_sinS [.agg [.int .i64 x1, .int .i64 x2]] g = some (True, .v (.agg [.int .i64 ((sinS (Iv.mk x1 x2))).lo, .int .i64 ((sinS (Iv.mk x1 x2))).hi]), []) := rfl
def F_cosS : FT
  | [.agg [.int .i64 x1, .int .i64 x2]], _ => some (True, .v (.agg [.int .i64 ((cosS (Iv.mk x1 x2))).lo, .int .i64 ((cosS (Iv.mk x1 x2))).hi]), [])
  | _, _ => none
theorem F_cosS_eq {x1 : Int} {x2 : Int} {g : List PC} : F_cosS [.agg [.int .i64 x1, .int .i64 x2]] g = some (True, .v (.agg [.int .i64 ((cosS (Iv.mk x1 x2))).lo, .int .i64 ((cosS (Iv.mk x1 x2))).hi]), []) := rfl

-- pis
def machin (t : Int) : Iv := subI (mulI (intI 16) (acotI 5 t)) (mulI (intI 4) (acotI 239 t))
def euler (t : Int) : Iv := addI (mulI (intI 4) (acotI 2 t)) (mulI (intI 4) (acotI 3 t))
def F_machin : FT
  | [.c (.p (.int .i64 t))], _ => some (True, .v (.agg [.int .i64 ((machin t)).lo, .int .i64 ((machin t)).hi]), [])
  | _, _ => none
theorem F_machin_eq {t : Int} {g : List PC} : F_machin [.c (.p (.int .i64 t))] g = some (True, .v (.agg [.int .i64 ((machin t)).lo, .int .i64 ((machin t)).hi]), []) := rfl
def F_euler : FT
  | [.c (.p (.int .i64 t))], _ => some (True, .v (.agg [.int .i64 ((euler t)).lo, .int .i64 ((euler t)).hi]), [])
  | _, _ => none
theorem F_euler_eq {t : Int} {g : List PC} : F_euler [.c (.p (.int .i64 t))] g = some (True, .v (.agg [.int .i64 ((euler t)).lo, .int .i64 ((euler t)).hi]), []) := rfl

end Go.Proofs.Ytfgdkljlfafflaa.Eng
