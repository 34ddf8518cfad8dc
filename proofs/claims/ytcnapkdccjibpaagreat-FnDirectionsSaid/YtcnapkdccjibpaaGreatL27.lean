/- What functions of the program compute, and that the program computes it: part 27. -/
import Derived.Test.YtcnapkdccjibpaaGreatTab
import Derived.Test.YtcnapkdccjibpaaGreatEng16
import Derived.Laws.BitsLemmas
import Derived.Laws.Bits64
import Derived.Laws.Bits64b
import Derived.Lib.Mul64
import Derived.Lib.BitFns
import Derived.Laws.Externs
import Derived.Test.YtcnapkdccjibpaaGreatL1
import Derived.Test.YtcnapkdccjibpaaGreatL2
import Derived.Test.YtcnapkdccjibpaaGreatL3
import Derived.Test.YtcnapkdccjibpaaGreatL8
import Derived.Test.YtcnapkdccjibpaaGreatL12
import Derived.Test.YtcnapkdccjibpaaGreatL16
import Derived.Test.YtcnapkdccjibpaaGreatL19
import Derived.Test.YtcnapkdccjibpaaGreatL21
import Derived.Test.YtcnapkdccjibpaaGreatL24
import Derived.Test.YtcnapkdccjibpaaGreatL25
import Derived.Test.YtcnapkdccjibpaaGreatL26
namespace Go.Proofs.YtcnapkdccjibpaaGreat.Eng
open Go Go.RowKit
set_option linter.unusedVariables false
set_option linter.unusedSimpArgs false
set_option maxRecDepth 100000
set_option maxHeartbeats 1000000
-- plain truth11
/-- The quotient of sine and cosine. -/
def tanD (n : Int) : Iv := divI (circ n 0) (circ n 1)
/-- The middle of the branch of the tangent. -/
theorem branch {n : Int} (hn : angleOk n = true) (ho : ∀ k : Int, k % 2 = 1 → ¬((n : Rat) / 4294967296 = (k : Rat) * qT)) :
    ∃ e d : Int, e % 2 = 0 ∧ quarter n = e + d ∧ -1 ≤ d ∧ d ≤ 1 ∧ (d = 1 → rrA n < 0) ∧ (d = -1 → 0 < rrA n) := by
  have hp := placeR n
  by_cases h : quarter n % 2 = 0
  · exact ⟨quarter n, 0, h, by omega, by omega, by omega, by omega, by omega⟩
  · by_cases h0 : rrA n < 0
    · exact ⟨quarter n - 1, 1, by omega, by omega, by omega, by omega, fun _ => h0, by omega⟩
    · by_cases h1 : 0 < rrA n
      · exact ⟨quarter n + 1, -1, by omega, by omega, by omega, by omega, by omega, fun _ => h1⟩
      · exact absurd (by grind) (ho (quarter n) (by omega))
/-- A branch lies between its ends. -/
theorem branch_in {n e d : Int} (hn : angleOk n = true) (hq : quarter n = e + d) (h0 : -1 ≤ d) (h1 : d ≤ 1) (s1 : d = 1 → rrA n < 0) (s2 : d = -1 → 0 < rrA n) :
    ((e - 1 : Int) : Rat) * qT ≤ (n : Rat) / 4294967296 ∧ (n : Rat) / 4294967296 ≤ ((e + 1 : Int) : Rat) * qT := by
  have hp := placeR n
  have hr := rr_bd hn
  have q := qT_1
  rw [hq, Rat.intCast_add] at hp
  rw [Rat.intCast_sub, Rat.intCast_add, castR1]
  obtain rfl | rfl | rfl : d = -1 ∨ d = 0 ∨ d = 1 := by omega
  · have := s2 rfl
    rw [castm1] at hp
    unfold Bd at hr
    constructor <;> grind
  · rw [castR0] at hp
    unfold Bd at hr
    constructor <;> grind
  · have := s1 rfl
    rw [castR1] at hp
    unfold Bd at hr
    constructor <;> grind
theorem le_turn {j k : Int} (h : j ≤ k) : (j : Rat) * qT ≤ (k : Rat) * qT :=
  Rat.mul_le_mul_of_nonneg_right (Rat.intCast_le_intCast.2 h) (by have := qT_1; grind)
theorem neg_div_neg' {a b : Rat} : -a / -b = a / b := by grind
theorem has_near {n t : Int} {z : Rat} (h : angleOk n = true) (hz : Bd (z - TTr n t) (2 * eps)) (h1 : Bd z 1) : Has (circ n t) z :=
  has_circ h (hz.mono (by decide +kernel)) h1.1 h1.2
theorem tan_le {a m : Int} (ha : angleOk a = true) (hm : angleOk m = true) (h : a < m)
    (ho : ∀ k : Int, k % 2 = 1 → quarter a - 1 ≤ k → k ≤ quarter m + 1 → (a : Rat) / 4294967296 ≤ (k : Rat) * qT → (k : Rat) * qT ≤ (m : Rat) / 4294967296 → False) :
    ∃ p q : Rat, Has (tanD a) p ∧ Has (tanD m) q ∧ p ≤ q := by
  have hc := Rat.intCast_lt_intCast.2 h
  have ra := rr_bd ha
  have rm := rr_bd hm
  have qm := quarter_mono (by omega) ha hm
  have q := qT_1
  have noa : ∀ k : Int, k % 2 = 1 → ¬((a : Rat) / 4294967296 = (k : Rat) * qT) := by
    intro k hk he
    have hp := placeR a
    have b : quarter a - 1 ≤ k ∧ k ≤ quarter a + 1 := by
      constructor
      · apply Int.not_lt.1; intro hlt
        have := le_turn (j := k) (k := quarter a - 2) (by omega)
        rw [Rat.intCast_sub, castR2] at this
        unfold Bd at ra; grind
      · apply Int.not_lt.1; intro hlt
        have := le_turn (j := quarter a + 2) (k := k) (by omega)
        rw [Rat.intCast_add, castR2] at this
        unfold Bd at ra; grind
    exact ho k hk b.1 (by omega) (by grind) (by grind)
  have nom : ∀ k : Int, k % 2 = 1 → ¬((m : Rat) / 4294967296 = (k : Rat) * qT) := by
    intro k hk he
    have hp := placeR m
    have b : quarter m - 1 ≤ k ∧ k ≤ quarter m + 1 := by
      constructor
      · apply Int.not_lt.1; intro hlt
        have := le_turn (j := k) (k := quarter m - 2) (by omega)
        rw [Rat.intCast_sub, castR2] at this
        unfold Bd at rm; grind
      · apply Int.not_lt.1; intro hlt
        have := le_turn (j := quarter m + 2) (k := k) (by omega)
        rw [Rat.intCast_add, castR2] at this
        unfold Bd at rm; grind
    exact ho k hk (by omega) b.2 (by grind) (by grind)
  obtain ⟨e, d, e0, eq, d0, d1, s1, s2⟩ := branch ha noa
  obtain ⟨e', d', e0', eq', d0', d1', s1', s2'⟩ := branch hm nom
  have ba := branch_in ha eq d0 d1 s1 s2
  have bm := branch_in hm eq' d0' d1' s1' s2'
  have hee : e = e' := by
    rcases Int.lt_trichotomy e e' with hlt | heq | hgt
    · exfalso
      have := le_turn (j := e + 1) (k := e' - 1) (by omega)
      exact ho (e + 1) (by omega) (by omega) (by omega) ba.2 (by grind)
    · exact heq
    · exfalso
      have := le_turn (j := e' + 1) (k := e - 1) (by omega)
      grind
  subst hee
  have pa := placeR a
  have pm := placeR m
  have key := le2_all ra rm (d := d) (d' := d') ⟨d0, by omega, d1'⟩ (by
    rw [eq, Rat.intCast_add] at pa
    rw [eq', Rat.intCast_add] at pm
    rw [Rat.intCast_sub]
    grind) s1 s2 s1' s2'
  obtain ⟨s, c, s', c', ⟨a1, a2, a3, a4⟩, ⟨b1, b2, b3, b4⟩, c1, c2, hle⟩ := key
  have fin : s / c ≤ s' / c' := by
    rw [le_div_iff c2]
    have e1 : s / c * c' = s * c' / c := by grind
    rw [e1, div_le_iff c1]
    exact hle
  have T1 : ∀ n D : Int, quarter n = e + D → ∀ t, (e % 4 = 0 → TTr n t = VV (D + t) (rrA n)) ∧ (e % 4 = 2 → TTr n t = -VV (D + t) (rrA n)) := by
    intro n D hD t
    unfold TTr
    rw [hD]
    constructor
    · intro h4
      unfold VV
      rw [show (e + D + t) % 4 = (D + t) % 4 by omega]
    · intro h4
      have := V_two (D + t) (rrA n)
      rw [← this]
      unfold VV
      rw [show (e + D + t) % 4 = (D + t + 2) % 4 by omega]
  have ta0 := T1 a d eq 0
  have ta1 := T1 a d eq 1
  have tm0 := T1 m d' eq' 0
  have tm1 := T1 m d' eq' 1
  rw [Int.add_zero] at ta0 tm0
  have h4 : e % 4 = 0 ∨ e % 4 = 2 := by omega
  rcases h4 with h4 | h4
  · refine ⟨s / c, s' / c', ?_, ?_, fin⟩
    · exact has_div (has_near ha (by rw [ta0.1 h4]; exact a1) b1) (has_near ha (by rw [ta1.1 h4]; exact a2) b2)
    · exact has_div (has_near hm (by rw [tm0.1 h4]; exact a3) b3) (has_near hm (by rw [tm1.1 h4]; exact a4) b4)
  · have fl : ∀ {z v : Rat}, Bd (z - v) (2 * eps) → Bd (-z - -v) (2 * eps) := fun {z v} h => by unfold Bd at *; grind
    refine ⟨-s / -c, -s' / -c', ?_, ?_, by rw [neg_div_neg', neg_div_neg']; exact fin⟩
    · exact has_div (has_near ha (by rw [ta0.2 h4]; exact fl a1) b1.neg) (has_near ha (by rw [ta1.2 h4]; exact fl a2) b2.neg)
    · exact has_div (has_near hm (by rw [tm0.2 h4]; exact fl a3) b3.neg) (has_near hm (by rw [tm1.2 h4]; exact fl a4) b4.neg)
theorem tan_le' {a m : Int} (ha : angleOk a = true) (hm : angleOk m = true) (h : a ≤ m)
    (ho : ∀ k : Int, k % 2 = 1 → quarter a - 1 ≤ k → k ≤ quarter m + 1 → (a : Rat) / 4294967296 ≤ (k : Rat) * qT → (k : Rat) * qT ≤ (m : Rat) / 4294967296 → False) :
    ∃ p q : Rat, Has (tanD a) p ∧ Has (tanD m) q ∧ p ≤ q := by
  by_cases e : a = m
  · subst e
    have h1 : Has (tanD a) (ctr a 0 / ctr a 1) := has_div (has_ctr ha) (has_ctr ha)
    exact ⟨_, _, h1, h1, by grind⟩
  · exact tan_le ha hm (by omega) ho
theorem over_whole {y : Iv} : (meetI whole y).2 = true := by
  unfold meetI
  rw [if_neg (by decide)]
  split <;> rfl
theorem over_bad {x y : Iv} (h : ¬okI x = true) : (meetI x y).2 = true := by
  unfold meetI
  rw [if_neg h]
  split <;> rfl
theorem oddL_any {k : Int} : ∀ {l : List Int}, k ∈ l → k % 2 = 1 → oddL l = true := by
  intro l h1 h2
  unfold oddL
  rw [List.any_eq_true]
  exact ⟨k, h1, by simpa using h2⟩
theorem tan_over {a m b : Int} (ha : angleOk a = true) (hm : angleOk m = true) (hb : angleOk b = true) (h1 : a ≤ m) (h2 : m ≤ b) (ho : okI ⟨a, b⟩ = true) :
    (meetI (tanI ⟨a, b⟩) (divI (circ m 0) (circ m 1))).2 = true := by
  have hA : anglesOk ⟨a, b⟩ = true := by unfold anglesOk; rw [ho, ha, hb]; rfl
  unfold tanI
  rw [if_pos hA]
  cases hO : oddL (turns ⟨a, b⟩) with
  | true => exact over_whole
  | false =>
    have no : ∀ k : Int, k % 2 = 1 → quarter a - 1 ≤ k → k ≤ quarter b + 1 → (a : Rat) / 4294967296 ≤ (k : Rat) * qT → (k : Rat) * qT ≤ (b : Rat) / 4294967296 → False := by
      intro k hk k1 k2 k3 k4
      have := oddL_any (turns_mem (x := ⟨a, b⟩) k1 k2 (over_of (has_turn k) (has_btw k3 k4))) hk
      rw [hO] at this; cases this
    have q1 := quarter_mono h1 ha hm
    have q2 := quarter_mono h2 hm hb
    have c1 := Rat.intCast_le_intCast.2 h1
    have c2 := Rat.intCast_le_intCast.2 h2
    obtain ⟨p, q, hp, hq, hpq⟩ := tan_le' ha hm h1 fun k hk k1 k2 k3 k4 => no k hk k1 (by omega) k3 (by grind)
    obtain ⟨p', q', hp', hq', hpq'⟩ := tan_le' hm hb h2 fun k hk k1 k2 k3 k4 => no k hk (by omega) k2 (by grind) k4
    show (meetI (hullI (tanD a) (tanD b)) (tanD m)).2 = true
    by_cases o1 : okI (tanD m) = true
    · by_cases o2 : okI (tanD a) = true
      · by_cases o3 : okI (tanD b) = true
        · have x1 := (hp o2).1
          have x2 := (hq o1).2
          have x3 := (hp' o1).1
          have x4 := (hq' o3).2
          have y1 : ((tanD a).lo : Rat) ≤ (tanD m).hi := by grind
          have y2 : ((tanD m).lo : Rat) ≤ (tanD b).hi := by grind
          rw [Rat.intCast_le_intCast] at y1 y2
          have k1 := okI_iff.1 o1
          have k2 := okI_iff.1 o2
          have k3 := okI_iff.1 o3
          have hh : hullI (tanD a) (tanD b) = ⟨min (tanD a).lo (tanD b).lo, max (tanD a).hi (tanD b).hi⟩ := by unfold hullI; rw [o2, o3]; rfl
          have ok : okI (hullI (tanD a) (tanD b)) = true := by rw [hh, okI_mk]; omega
          unfold meetI
          rw [if_pos ok, if_pos o1, hh]
          simp only
          rw [if_neg (by omega)]
        · exact over_bad (by unfold hullI; rw [Bool.eq_false_iff.2 o3, Bool.and_false, if_neg (by decide)]; decide)
      · exact over_bad (by unfold hullI; rw [Bool.eq_false_iff.2 o2, Bool.false_and, if_neg (by decide)]; decide)
    · exact over_comm (over_bad o1)

end Go.Proofs.YtcnapkdccjibpaaGreat.Eng
