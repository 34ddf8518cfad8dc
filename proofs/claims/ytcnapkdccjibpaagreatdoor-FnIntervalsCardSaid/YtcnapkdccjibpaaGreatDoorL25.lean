/- What functions of the program compute, and that the program computes it: part 25. -/
import Derived.Test.YtcnapkdccjibpaaGreatDoorTab
import Derived.Test.YtcnapkdccjibpaaGreatDoorEng16
import Derived.Laws.BitsLemmas
import Derived.Laws.Bits64
import Derived.Laws.Bits64b
import Derived.Lib.Mul64
import Derived.Lib.BitFns
import Derived.Laws.Externs
import Derived.Test.YtcnapkdccjibpaaGreatDoorL1
import Derived.Test.YtcnapkdccjibpaaGreatDoorL2
import Derived.Test.YtcnapkdccjibpaaGreatDoorL7
import Derived.Test.YtcnapkdccjibpaaGreatDoorL14
import Derived.Test.YtcnapkdccjibpaaGreatDoorL16
import Derived.Test.YtcnapkdccjibpaaGreatDoorL18
import Derived.Test.YtcnapkdccjibpaaGreatDoorL20
import Derived.Test.YtcnapkdccjibpaaGreatDoorL23
namespace Go.Proofs.YtcnapkdccjibpaaGreatDoor.Eng
open Go Go.RowKit
set_option linter.unusedVariables false
set_option linter.unusedSimpArgs false
set_option maxRecDepth 100000
set_option maxHeartbeats 1000000
-- plain truth1
/-- x^n / n! -/
def tmR (x : Rat) : Nat → Rat
  | 0 => 1
  | n + 1 => tmR x n * x / ((n + 1 : Nat) : Rat)
/-- The sum of the first n. -/
def smR (f : Nat → Rat) : Nat → Rat
  | 0 => 0
  | n + 1 => smR f n + f n
def cvR (f g : Nat → Rat) (n : Nat) : Rat := smR (fun i => f i * g (n - i)) (n + 1)
theorem sm_congr {f g : Nat → Rat} : ∀ (n : Nat), (∀ i, i < n → f i = g i) → smR f n = smR g n
  | 0, _ => rfl
  | n + 1, h => by rw [smR, smR, sm_congr n fun i hi => h i (by omega), h n (by omega)]
theorem sm_add (f g : Nat → Rat) : ∀ (n : Nat), smR (fun i => f i + g i) n = smR f n + smR g n
  | 0 => by simp only [smR]; grind
  | n + 1 => by rw [smR, smR, smR, sm_add f g n]; grind
theorem sm_mul (c : Rat) (f : Nat → Rat) : ∀ (n : Nat), smR (fun i => c * f i) n = c * smR f n
  | 0 => by simp only [smR]; grind
  | n + 1 => by rw [smR, smR, sm_mul c f n]; grind
theorem sm_shift (f : Nat → Rat) : ∀ (n : Nat), smR f (n + 1) = f 0 + smR (fun i => f (i + 1)) n
  | 0 => by simp only [smR]; grind
  | n + 1 => by rw [smR, sm_shift f n, smR]; grind
theorem tm_succ (x : Rat) (n : Nat) : ((n + 1 : Nat) : Rat) * tmR x (n + 1) = x * tmR x n := by
  have h : ((n + 1 : Nat) : Rat) ≠ 0 := by
    have : (0 : Rat) < ((n + 1 : Nat) : Rat) := by
      have := Rat.natCast_pos.2 (Nat.succ_pos n); exact this
    grind
  rw [tmR]
  grind
theorem cast_ne (n : Nat) : ((n + 1 : Nat) : Rat) ≠ 0 := by
  have : (0 : Rat) < ((n + 1 : Nat) : Rat) := Rat.natCast_pos.2 (Nat.succ_pos n)
  grind
theorem tm_binom (a b : Rat) : ∀ (n : Nat), cvR (tmR a) (tmR b) n = tmR (a + b) n
  | 0 => by
    have h0 : ∀ x, tmR x 0 = 1 := fun _ => rfl
    simp only [cvR, smR, Nat.sub_self, h0]; grind
  | n + 1 => by
    have ih := tm_binom a b n
    have hne := cast_ne n
    have key : ((n + 1 : Nat) : Rat) * cvR (tmR a) (tmR b) (n + 1) = (a + b) * cvR (tmR a) (tmR b) n := by
      unfold cvR
      have e1 : ((n + 1 : Nat) : Rat) * smR (fun i => tmR a i * tmR b (n + 1 - i)) (n + 1 + 1) = smR (fun i => (i : Rat) * (tmR a i * tmR b (n + 1 - i))) (n + 1 + 1) + smR (fun i => ((n + 1 - i : Nat) : Rat) * (tmR a i * tmR b (n + 1 - i))) (n + 1 + 1) := by
        rw [← sm_mul, ← sm_add]
        refine sm_congr _ fun i hi => ?_
        have : ((n + 1 : Nat) : Rat) = (i : Rat) + ((n + 1 - i : Nat) : Rat) := by
          rw [← Rat.natCast_add]; congr 1; omega
        rw [this]; grind
      rw [e1, sm_shift]
      have e2 : smR (fun i => ((i + 1 : Nat) : Rat) * (tmR a (i + 1) * tmR b (n + 1 - (i + 1)))) (n + 1) = a * smR (fun i => tmR a i * tmR b (n - i)) (n + 1) := by
        rw [← sm_mul]
        refine sm_congr _ fun i hi => ?_
        have h1 := tm_succ a i
        have h2 : n + 1 - (i + 1) = n - i := by omega
        rw [h2]; grind
      have e3 : smR (fun i => ((n + 1 - i : Nat) : Rat) * (tmR a i * tmR b (n + 1 - i))) (n + 1 + 1) = b * smR (fun i => tmR a i * tmR b (n - i)) (n + 1) := by
        rw [smR]
        have h0 : ((n + 1 - (n + 1) : Nat) : Rat) = 0 := by rw [Nat.sub_self]; rfl
        rw [h0, ← sm_mul]
        have : smR (fun i => ((n + 1 - i : Nat) : Rat) * (tmR a i * tmR b (n + 1 - i))) (n + 1) = smR (fun i => b * (tmR a i * tmR b (n - i))) (n + 1) := by
          refine sm_congr _ fun i hi => ?_
          have h2 : n + 1 - i = (n - i) + 1 := by omega
          have h1 := tm_succ b (n - i)
          rw [h2]; grind
        rw [this]; grind
      rw [e2, e3]
      have : ((0 : Nat) : Rat) = 0 := rfl
      rw [this]; grind
    have h2 := tm_succ (a + b) n
    rw [ih] at key
    have : ((n + 1 : Nat) : Rat) * cvR (tmR a) (tmR b) (n + 1) = ((n + 1 : Nat) : Rat) * tmR (a + b) (n + 1) := by rw [key, h2]
    grind
theorem tri_sum (f g : Nat → Rat) : ∀ (N : Nat), smR (cvR f g) N = smR (fun i => f i * smR g (N - i)) N
  | 0 => rfl
  | N + 1 => by
    rw [smR, tri_sum f g N]
    have e : smR (fun i => f i * smR g (N + 1 - i)) (N + 1) = smR (fun i => f i * smR g (N - i)) (N + 1) + smR (fun i => f i * g (N - i)) (N + 1) := by
      rw [← sm_add]
      refine sm_congr _ fun i hi => ?_
      have h : N + 1 - i = (N - i) + 1 := by omega
      rw [h, smR]; grind
    rw [e, smR, Nat.sub_self]
    have : smR g 0 = 0 := rfl
    rw [this]
    unfold cvR
    grind
/-- Between -e and e. -/
def Bd (x e : Rat) : Prop := -e ≤ x ∧ x ≤ e
theorem Bd.nonneg {x e : Rat} (h : Bd x e) : 0 ≤ e := by unfold Bd at h; grind
theorem Bd.add {x y d e : Rat} (h1 : Bd x d) (h2 : Bd y e) : Bd (x + y) (d + e) := by unfold Bd at *; grind
theorem Bd.sub {x y d e : Rat} (h1 : Bd x d) (h2 : Bd y e) : Bd (x - y) (d + e) := by unfold Bd at *; grind
theorem Bd.neg {x d : Rat} (h1 : Bd x d) : Bd (-x) d := by unfold Bd at *; grind
theorem Bd.mono {x d e : Rat} (h1 : Bd x d) (h : d ≤ e) : Bd x e := by unfold Bd at *; grind
theorem Bd.mul {x y d e : Rat} (h1 : Bd x d) (h2 : Bd y e) : Bd (x * y) (d * e) := by
  have hd := h1.nonneg
  have he := h2.nonneg
  have a1 := (mul_mid (v := y) h1.1 h1.2)
  have a2 := Rat.mul_le_mul_of_nonneg_left h2.1 hd
  have a3 := Rat.mul_le_mul_of_nonneg_left h2.2 hd
  unfold Bd at *
  grind
theorem Bd.zero {e : Rat} (h : 0 ≤ e) : Bd 0 e := by unfold Bd; grind
theorem sm_bd {f F : Nat → Rat} : ∀ (n : Nat), (∀ i, i < n → Bd (f i) (F i)) → Bd (smR f n) (smR F n)
  | 0, _ => Bd.zero Rat.le_refl
  | n + 1, h => (sm_bd n fun i hi => h i (by omega)).add (h n (by omega))
theorem sm_tail {g G : Nat → Rat} (h : ∀ i, Bd (g i) (G i)) (M : Nat) : ∀ (k : Nat), Bd (smR g (M + k) - smR g M) (smR G (M + k) - smR G M)
  | 0 => by
    have e1 : smR g (M + 0) - smR g M = 0 := by rw [Nat.add_zero]; grind
    have e2 : smR G (M + 0) - smR G M = 0 := by rw [Nat.add_zero]; grind
    rw [e1, e2]; exact Bd.zero Rat.le_refl
  | k + 1 => by
    have ih := sm_tail h M k
    have h1 := ih.add (h (M + k))
    rw [← Nat.add_assoc, smR, smR]
    have e1 : smR g (M + k) + g (M + k) - smR g M = smR g (M + k) - smR g M + g (M + k) := by grind
    have e2 : smR G (M + k) + G (M + k) - smR G M = smR G (M + k) - smR G M + G (M + k) := by grind
    rw [e1, e2]; exact h1
theorem prod_diff (f g : Nat → Rat) (N : Nat) : smR f N * smR g N - smR (cvR f g) N = smR (fun i => f i * (smR g N - smR g (N - i))) N := by
  rw [tri_sum]
  have : smR (fun i => f i * (smR g N - smR g (N - i))) N = smR (fun i => smR g N * f i) N + smR (fun i => -1 * (f i * smR g (N - i))) N := by
    rw [← sm_add]
    refine sm_congr _ fun i hi => ?_
    grind
  rw [this, sm_mul, sm_mul]
  grind
/-- How far a product of sums is from the sum of products, by what is greater. -/
theorem prod_err {f g F G : Nat → Rat} (hf : ∀ i, Bd (f i) (F i)) (hg : ∀ i, Bd (g i) (G i)) (N : Nat) : Bd (smR f N * smR g N - smR (cvR f g) N) (smR F N * smR G N - smR (cvR F G) N) := by
  rw [prod_diff, prod_diff]
  refine sm_bd N fun i hi => (hf i).mul ?_
  have := sm_tail hg (N - i) i
  rw [show N - i + i = N by omega] at this
  exact this
theorem tm_bd {x X : Rat} (h : Bd x X) : ∀ (n : Nat), Bd (tmR x n) (tmR X n)
  | 0 => by unfold tmR Bd; grind
  | n + 1 => by
    have h1 := (tm_bd h n).mul h
    rw [tmR, tmR]
    have hp : (0 : Rat) < ((n + 1 : Nat) : Rat) := Rat.natCast_pos.2 (Nat.succ_pos n)
    have hi : (0 : Rat) ≤ ((n + 1 : Nat) : Rat)⁻¹ := Rat.le_of_lt (Rat.inv_pos.2 hp)
    have h2 := h1.mul (y := ((n + 1 : Nat) : Rat)⁻¹) (e := ((n + 1 : Nat) : Rat)⁻¹) ⟨by grind, Rat.le_refl⟩
    rw [Rat.div_def, Rat.div_def]
    exact h2
/-- The signs of the sine's and of the cosine's terms. -/
def sgs (n : Nat) : Rat := if n % 4 = 1 then 1 else if n % 4 = 3 then -1 else 0
def sgc (n : Nat) : Rat := if n % 4 = 0 then 1 else if n % 4 = 2 then -1 else 0
theorem sg_s (i j : Nat) : sgs i * sgc j + sgc i * sgs j = sgs (i + j) := by
  unfold sgs sgc
  have h1 : i % 4 = 0 ∨ i % 4 = 1 ∨ i % 4 = 2 ∨ i % 4 = 3 := by omega
  have h2 : j % 4 = 0 ∨ j % 4 = 1 ∨ j % 4 = 2 ∨ j % 4 = 3 := by omega
  have h3 : (i + j) % 4 = (i % 4 + j % 4) % 4 := by omega
  rw [h3]
  rcases h1 with h1 | h1 | h1 | h1 <;> rcases h2 with h2 | h2 | h2 | h2 <;> rw [h1, h2] <;> simp <;> grind
theorem sg_c (i j : Nat) : sgc i * sgc j - sgs i * sgs j = sgc (i + j) := by
  unfold sgs sgc
  have h1 : i % 4 = 0 ∨ i % 4 = 1 ∨ i % 4 = 2 ∨ i % 4 = 3 := by omega
  have h2 : j % 4 = 0 ∨ j % 4 = 1 ∨ j % 4 = 2 ∨ j % 4 = 3 := by omega
  have h3 : (i + j) % 4 = (i % 4 + j % 4) % 4 := by omega
  rw [h3]
  rcases h1 with h1 | h1 | h1 | h1 <;> rcases h2 with h2 | h2 | h2 | h2 <;> rw [h1, h2] <;> simp <;> grind
def fsR (x : Rat) (n : Nat) : Rat := sgs n * tmR x n
def fcR (x : Rat) (n : Nat) : Rat := sgc n * tmR x n
theorem cv_s (a b : Rat) (n : Nat) : cvR (fsR a) (fcR b) n + cvR (fcR a) (fsR b) n = fsR (a + b) n := by
  unfold fsR
  rw [← tm_binom]
  unfold cvR fcR
  rw [← sm_add, ← sm_mul]
  refine sm_congr _ fun i hi => ?_
  have := sg_s i (n - i)
  rw [show i + (n - i) = n by omega] at this
  rw [← this]; grind
theorem cv_c (a b : Rat) (n : Nat) : cvR (fcR a) (fcR b) n - cvR (fsR a) (fsR b) n = fcR (a + b) n := by
  unfold fcR
  rw [← tm_binom]
  unfold cvR fsR
  have : smR (fun i => sgc i * tmR a i * (sgc (n - i) * tmR b (n - i))) (n + 1) - smR (fun i => sgs i * tmR a i * (sgs (n - i) * tmR b (n - i))) (n + 1) = smR (fun i => sgc i * tmR a i * (sgc (n - i) * tmR b (n - i)) + -1 * (sgs i * tmR a i * (sgs (n - i) * tmR b (n - i)))) (n + 1) := by
    rw [sm_add, sm_mul]; grind
  rw [this, ← sm_mul]
  refine sm_congr _ fun i hi => ?_
  have := sg_c i (n - i)
  rw [show i + (n - i) = n by omega] at this
  rw [← this]; grind
theorem sgs_bd (n : Nat) : Bd (sgs n) 1 := by unfold sgs Bd; split <;> (try split) <;> grind
theorem sgc_bd (n : Nat) : Bd (sgc n) 1 := by unfold sgc Bd; split <;> (try split) <;> grind
theorem fs_bd {x X : Rat} (h : Bd x X) (n : Nat) : Bd (fsR x n) (tmR X n) := by
  have := (sgs_bd n).mul (tm_bd h n)
  rw [Rat.one_mul] at this
  exact this
theorem fc_bd {x X : Rat} (h : Bd x X) (n : Nat) : Bd (fcR x n) (tmR X n) := by
  have := (sgc_bd n).mul (tm_bd h n)
  rw [Rat.one_mul] at this
  exact this
/-- The sine and the cosine, up to a very small error. -/
def sT (x : Rat) : Rat := smR (fsR x) 30
def cT (x : Rat) : Rat := smR (fcR x) 30
/-- The error of sums. -/
def eE (A B : Rat) : Rat := smR (tmR A) 30 * smR (tmR B) 30 - smR (tmR (A + B)) 30
theorem add_sin {a b A B : Rat} (ha : Bd a A) (hb : Bd b B) : Bd (sT a * cT b + cT a * sT b - sT (a + b)) (eE A B + eE A B) := by
  have h1 := prod_err (fs_bd ha) (fc_bd hb) 30
  have h2 := prod_err (fc_bd ha) (fs_bd hb) 30
  have h3 := h1.add h2
  have e : smR (cvR (fsR a) (fcR b)) 30 + smR (cvR (fcR a) (fsR b)) 30 = sT (a + b) := by
    rw [← sm_add]
    exact sm_congr _ fun i _ => cv_s a b i
  have e2 : smR (cvR (tmR A) (tmR B)) 30 = smR (tmR (A + B)) 30 := sm_congr _ fun i _ => tm_binom A B i
  rw [e2] at h3
  have e3 : smR (fsR a) 30 * smR (fcR b) 30 - smR (cvR (fsR a) (fcR b)) 30 + (smR (fcR a) 30 * smR (fsR b) 30 - smR (cvR (fcR a) (fsR b)) 30) = sT a * cT b + cT a * sT b - sT (a + b) := by
    rw [← e]; unfold sT cT; grind
  rw [e3] at h3
  exact h3
theorem add_cos {a b A B : Rat} (ha : Bd a A) (hb : Bd b B) : Bd (cT a * cT b - sT a * sT b - cT (a + b)) (eE A B + eE A B) := by
  have h1 := prod_err (fc_bd ha) (fc_bd hb) 30
  have h2 := prod_err (fs_bd ha) (fs_bd hb) 30
  have h3 := h1.sub h2
  have e : smR (cvR (fcR a) (fcR b)) 30 - smR (cvR (fsR a) (fsR b)) 30 = cT (a + b) := by
    have : smR (fun i => cvR (fcR a) (fcR b) i + -1 * cvR (fsR a) (fsR b) i) 30 = cT (a + b) := sm_congr _ fun i _ => by
      have := cv_c a b i; grind
    rw [sm_add, sm_mul] at this
    grind
  have e2 : smR (cvR (tmR A) (tmR B)) 30 = smR (tmR (A + B)) 30 := sm_congr _ fun i _ => tm_binom A B i
  rw [e2] at h3
  have e3 : smR (fcR a) 30 * smR (fcR b) 30 - smR (cvR (fcR a) (fcR b)) 30 - (smR (fsR a) 30 * smR (fsR b) 30 - smR (cvR (fsR a) (fsR b)) 30) = cT a * cT b - sT a * sT b - cT (a + b) := by
    rw [← e]; unfold sT cT; grind
  rw [e3] at h3
  exact h3
theorem tm_neg (x : Rat) : ∀ (n : Nat), tmR (-x) n = (if n % 2 = 0 then 1 else -1) * tmR x n
  | 0 => by simp [tmR]
  | n + 1 => by
    rw [tmR, tmR, tm_neg x n]
    have h1 : n % 2 = 0 ∨ n % 2 = 1 := by omega
    rcases h1 with h1 | h1
    · have h2 : (n + 1) % 2 = 1 := by omega
      rw [h1, h2]; simp; rw [Rat.div_def, Rat.div_def]; grind
    · have h2 : (n + 1) % 2 = 0 := by omega
      rw [h1, h2]; simp; rw [Rat.div_def, Rat.div_def]; grind
theorem sT_neg (x : Rat) : sT (-x) = -sT x := by
  unfold sT
  have : smR (fsR (-x)) 30 = smR (fun i => -1 * fsR x i) 30 := sm_congr _ fun i _ => by
    unfold fsR
    rw [tm_neg]
    unfold sgs
    have h1 : i % 4 = 0 ∨ i % 4 = 1 ∨ i % 4 = 2 ∨ i % 4 = 3 := by omega
    rcases h1 with h1 | h1 | h1 | h1
    · rw [h1]; simp
    · have h2 : i % 2 = 1 := by omega
      rw [h1, h2]; simp
    · rw [h1]; simp
    · have h2 : i % 2 = 1 := by omega
      rw [h1, h2]; simp
  rw [this, sm_mul]; grind
theorem cT_neg (x : Rat) : cT (-x) = cT x := by
  unfold cT
  refine sm_congr _ fun i _ => ?_
  unfold fcR
  rw [tm_neg]
  unfold sgc
  have h1 : i % 4 = 0 ∨ i % 4 = 1 ∨ i % 4 = 2 ∨ i % 4 = 3 := by omega
  rcases h1 with h1 | h1 | h1 | h1
  · have h2 : i % 2 = 0 := by omega
    rw [h1, h2]; simp
  · rw [h1]; simp
  · have h2 : i % 2 = 0 := by omega
    rw [h1, h2]; simp
  · rw [h1]; simp

-- plain truth2
/-- The program's quarter turn. -/
def qT : Rat := 7244019458077122842 / 4611686018427387904
theorem eE_num : eE (4/5) (8/5) ≤ 1/1000000000000000000 ∧ eE (4/5) (4/5) ≤ 1/1000000000000000000 := by decide +kernel
theorem cT_q : Bd (cT qT) (1/1000000000000000000) := by unfold Bd; constructor <;> decide +kernel
theorem sT_q : Bd (sT qT - 1) (1/1000000000000000000) := by unfold Bd; constructor <;> decide +kernel
theorem qT_bd : Bd qT (8/5) := by unfold Bd; constructor <;> decide +kernel
def serR : Nat → Rat → Int → Rat → Rat
  | 0, _, _, s => s
  | k + 1, y, c, s => serR k y c (1 - y / (((2 * (k + 1 : Nat) + c) * (2 * (k + 1 : Nat) + c + 1) : Int) : Rat) * s)
theorem has_one : Has (intI 1) 1 := has_int 1
theorem has_ser : ∀ (k : Nat) {y s : Iv} {Y S : Rat} {c : Int}, Has y Y → Has s S → Has (seriesL k y c s) (serR k Y c S)
  | 0, y, s, Y, S, c, _, hs => hs
  | k + 1, y, s, Y, S, c, hy, hs => by
    rw [seriesL, serR]
    exact has_ser k hy (has_sub has_one (has_mul (has_div hy (has_int _)) hs))
theorem ser_sin (x : Rat) : x * serR 8 (x * x) 0 1 = smR (fsR x) 18 := by
  simp only [serR, smR, fsR, tmR, sgs]
  simp
  grind
theorem ser_cos (x : Rat) : serR 8 (x * x) (-1) 1 = smR (fcR x) 18 := by
  simp only [serR, smR, fcR, tmR, sgc]
  simp
  grind

-- plain truth3
theorem has_mono {a : Iv} {x y : Rat} (h : Has a x) (e : x = y) : Has a y := e ▸ h
theorem has_tiny {t : Rat} (h : Bd t (1/4294967296)) : Has ⟨-1, 1⟩ t := by
  unfold Bd at h
  refine has_in ?_ ?_
  · have : ((-1 : Int) : Rat) = -1 := rfl
    rw [this]; grind
  · have : ((1 : Int) : Rat) = 1 := rfl
    rw [this]; grind
theorem tail_num : smR (tmR (4/5)) 30 - smR (tmR (4/5)) 18 ≤ 1/100000000000000000 := by decide +kernel
theorem sT_tail {x : Rat} (h : Bd x (4/5)) : Bd (sT x - smR (fsR x) 18) (1/100000000000000000) := (sm_tail (fs_bd h) 18 12).mono tail_num
theorem cT_tail {x : Rat} (h : Bd x (4/5)) : Bd (cT x - smR (fcR x) 18) (1/100000000000000000) := (sm_tail (fc_bd h) 18 12).mono tail_num
/-- What is left of the tiny interval: the least room around the truth. -/
def room : Rat := 1/4294967296 - 1/100000000000000000
theorem has_sinS {R : Iv} {r z : Rat} (hR : Has R r) (hr : Bd r (4/5)) (hz : Bd (z - sT r) room) : Has (sinS R) z := by
  unfold sinS
  split
  · have h1 := has_mul hR (has_ser 8 (has_sqr hR) has_one (c := 0))
    rw [ser_sin] at h1
    have ht := sT_tail hr
    have h2 := has_add h1 (has_tiny (t := z - smR (fsR r) 18) (by unfold Bd room at *; grind))
    exact has_mono h2 (by grind)
  · exact has_whole
theorem has_cosS {R : Iv} {r z : Rat} (hR : Has R r) (hr : Bd r (4/5)) (hz : Bd (z - cT r) room) : Has (cosS R) z := by
  unfold cosS
  split
  · have h1 := has_ser 8 (has_sqr hR) has_one (c := -1)
    rw [ser_cos] at h1
    have ht := cT_tail hr
    have h2 := has_add h1 (has_tiny (t := z - smR (fcR r) 18) (by unfold Bd room at *; grind))
    exact has_mono h2 (by grind)
  · exact has_whole
/-- The sine of k quarter turns and r more. -/
def VV (k : Int) (r : Rat) : Rat := if k % 4 = 0 then sT r else if k % 4 = 1 then cT r else if k % 4 = 2 then -sT r else -cT r
theorem V_cases (k : Int) : (k % 4 = 0 ∧ ∀ r, VV k r = sT r) ∨ (k % 4 = 1 ∧ ∀ r, VV k r = cT r) ∨ (k % 4 = 2 ∧ ∀ r, VV k r = -sT r) ∨ (k % 4 = 3 ∧ ∀ r, VV k r = -cT r) := by
  have : k % 4 = 0 ∨ k % 4 = 1 ∨ k % 4 = 2 ∨ k % 4 = 3 := by omega
  unfold VV
  rcases this with h | h | h | h
  · exact .inl ⟨h, fun r => by rw [if_pos h]⟩
  · exact .inr (.inl ⟨h, fun r => by rw [if_neg (by omega), if_pos h]⟩)
  · exact .inr (.inr (.inl ⟨h, fun r => by rw [if_neg (by omega), if_neg (by omega), if_pos h]⟩))
  · exact .inr (.inr (.inr ⟨h, fun r => by rw [if_neg (by omega), if_neg (by omega), if_neg (by omega)]⟩))
theorem V0 {k : Int} (h : k % 4 = 0) (r : Rat) : VV k r = sT r := by unfold VV; rw [if_pos h]
theorem V1 {k : Int} (h : k % 4 = 1) (r : Rat) : VV k r = cT r := by unfold VV; rw [if_neg (by omega), if_pos h]
theorem V2 {k : Int} (h : k % 4 = 2) (r : Rat) : VV k r = -sT r := by unfold VV; rw [if_neg (by omega), if_neg (by omega), if_pos h]
theorem V3 {k : Int} (h : k % 4 = 3) (r : Rat) : VV k r = -cT r := by unfold VV; rw [if_neg (by omega), if_neg (by omega), if_neg (by omega)]
theorem mod4 (k : Int) : k % 4 = 0 ∨ k % 4 = 1 ∨ k % 4 = 2 ∨ k % 4 = 3 := by omega
def eps : Rat := 1/100000000000000000
/-- The addition theorem, for all quarters. -/
theorem V_add (j k : Int) {a b : Rat} (ha : Bd a (4/5)) (hb : Bd b (8/5)) : Bd (VV j a * VV (k + 1) b + VV (j + 1) a * VV k b - VV (j + k) (a + b)) eps := by
  have h1 := (add_sin ha hb).mono (show _ ≤ eps by have := eE_num.1; unfold eps; grind)
  have h2 := (add_cos ha hb).mono (show _ ≤ eps by have := eE_num.1; unfold eps; grind)
  have ej := mod4 j
  have ek := mod4 k
  unfold Bd at *
  rcases ej with ej | ej | ej | ej <;> rcases ek with ek | ek | ek | ek
  · rw [V0 ej, V1 (show (k + 1) % 4 = 1 by omega), V1 (show (j + 1) % 4 = 1 by omega), V0 ek, V0 (show (j + k) % 4 = 0 by omega)]; grind
  · rw [V0 ej, V2 (show (k + 1) % 4 = 2 by omega), V1 (show (j + 1) % 4 = 1 by omega), V1 ek, V1 (show (j + k) % 4 = 1 by omega)]; grind
  · rw [V0 ej, V3 (show (k + 1) % 4 = 3 by omega), V1 (show (j + 1) % 4 = 1 by omega), V2 ek, V2 (show (j + k) % 4 = 2 by omega)]; grind
  · rw [V0 ej, V0 (show (k + 1) % 4 = 0 by omega), V1 (show (j + 1) % 4 = 1 by omega), V3 ek, V3 (show (j + k) % 4 = 3 by omega)]; grind
  · rw [V1 ej, V1 (show (k + 1) % 4 = 1 by omega), V2 (show (j + 1) % 4 = 2 by omega), V0 ek, V1 (show (j + k) % 4 = 1 by omega)]; grind
  · rw [V1 ej, V2 (show (k + 1) % 4 = 2 by omega), V2 (show (j + 1) % 4 = 2 by omega), V1 ek, V2 (show (j + k) % 4 = 2 by omega)]; grind
  · rw [V1 ej, V3 (show (k + 1) % 4 = 3 by omega), V2 (show (j + 1) % 4 = 2 by omega), V2 ek, V3 (show (j + k) % 4 = 3 by omega)]; grind
  · rw [V1 ej, V0 (show (k + 1) % 4 = 0 by omega), V2 (show (j + 1) % 4 = 2 by omega), V3 ek, V0 (show (j + k) % 4 = 0 by omega)]; grind
  · rw [V2 ej, V1 (show (k + 1) % 4 = 1 by omega), V3 (show (j + 1) % 4 = 3 by omega), V0 ek, V2 (show (j + k) % 4 = 2 by omega)]; grind
  · rw [V2 ej, V2 (show (k + 1) % 4 = 2 by omega), V3 (show (j + 1) % 4 = 3 by omega), V1 ek, V3 (show (j + k) % 4 = 3 by omega)]; grind
  · rw [V2 ej, V3 (show (k + 1) % 4 = 3 by omega), V3 (show (j + 1) % 4 = 3 by omega), V2 ek, V0 (show (j + k) % 4 = 0 by omega)]; grind
  · rw [V2 ej, V0 (show (k + 1) % 4 = 0 by omega), V3 (show (j + 1) % 4 = 3 by omega), V3 ek, V1 (show (j + k) % 4 = 1 by omega)]; grind
  · rw [V3 ej, V1 (show (k + 1) % 4 = 1 by omega), V0 (show (j + 1) % 4 = 0 by omega), V0 ek, V3 (show (j + k) % 4 = 3 by omega)]; grind
  · rw [V3 ej, V2 (show (k + 1) % 4 = 2 by omega), V0 (show (j + 1) % 4 = 0 by omega), V1 ek, V0 (show (j + k) % 4 = 0 by omega)]; grind
  · rw [V3 ej, V3 (show (k + 1) % 4 = 3 by omega), V0 (show (j + 1) % 4 = 0 by omega), V2 ek, V1 (show (j + k) % 4 = 1 by omega)]; grind
  · rw [V3 ej, V0 (show (k + 1) % 4 = 0 by omega), V0 (show (j + 1) % 4 = 0 by omega), V3 ek, V2 (show (j + k) % 4 = 2 by omega)]; grind
theorem E_num : smR (tmR (4/5)) 30 ≤ 9/4 := by decide +kernel
theorem sT_bd {x : Rat} (h : Bd x (4/5)) : Bd (sT x) (9/4) := (sm_bd 30 fun i _ => fs_bd h i).mono E_num
theorem cT_bd {x : Rat} (h : Bd x (4/5)) : Bd (cT x) (9/4) := (sm_bd 30 fun i _ => fc_bd h i).mono E_num
theorem V_bd (k : Int) {x : Rat} (h : Bd x (4/5)) : Bd (VV k x) (9/4) := by
  have h1 := sT_bd h
  have h2 := cT_bd h
  rcases V_cases k with ⟨_, e⟩ | ⟨_, e⟩ | ⟨_, e⟩ | ⟨_, e⟩ <;> rw [e]
  · exact h1
  · exact h2
  · exact h1.neg
  · exact h2.neg
theorem V_neg (k : Int) (r : Rat) : VV (-k) (-r) = -VV k r := by
  have := mod4 k
  rcases this with h | h | h | h
  · rw [V0 h, V0 (show (-k) % 4 = 0 by omega), sT_neg]
  · rw [V1 h, V3 (show (-k) % 4 = 3 by omega), cT_neg]
  · rw [V2 h, V2 (show (-k) % 4 = 2 by omega), sT_neg]
  · rw [V3 h, V1 (show (-k) % 4 = 1 by omega), cT_neg]; grind
theorem V_neg1 (k : Int) (r : Rat) : VV (-k + 1) (-r) = VV (k + 1) r := by
  have := mod4 k
  rcases this with h | h | h | h
  · rw [V1 (show (k + 1) % 4 = 1 by omega), V1 (show (-k + 1) % 4 = 1 by omega), cT_neg]
  · rw [V2 (show (k + 1) % 4 = 2 by omega), V0 (show (-k + 1) % 4 = 0 by omega), sT_neg]
  · rw [V3 (show (k + 1) % 4 = 3 by omega), V3 (show (-k + 1) % 4 = 3 by omega), cT_neg]
  · rw [V0 (show (k + 1) % 4 = 0 by omega), V2 (show (-k + 1) % 4 = 2 by omega), sT_neg]; grind
/-- A quarter turn more. -/
theorem V_shift (k : Int) {r : Rat} (hr : Bd r (4/5)) : Bd (VV k (r + qT) - VV (k + 1) r) (eps + eps) := by
  have h := V_add k 0 hr qT_bd
  rw [Int.add_zero] at h
  have e0 : VV 0 qT = sT qT := V0 (by decide) _
  have e1 : VV (0 + 1) qT = cT qT := V1 (by decide) _
  rw [e0, e1] at h
  have h1 := (V_bd k hr).mul cT_q
  have h2 := (V_bd (k + 1) hr).mul sT_q
  have e2 : VV (k + 1) r * (sT qT - 1) = VV (k + 1) r * sT qT - VV (k + 1) r := by grind
  rw [e2] at h2
  have c : Bd (sT qT - 1) (1/1000000000000000000) := sT_q
  clear e2 e0 e1
  generalize sT qT = S at *
  generalize cT qT = C at *
  generalize VV k r = P at *
  generalize VV (k + 1) r = Q at *
  generalize VV k (r + qT) = W at *
  generalize hPC : P * C = PC at *
  generalize hQS : Q * S = QS at *
  unfold Bd eps at *
  clear hPC hQS hr c
  grind
theorem V_shift' (k : Int) {r : Rat} (hr : Bd r (4/5)) : Bd (VV k (r - qT) - VV (k - 1) r) (eps + eps) := by
  have hn : Bd (-r) (4/5) := hr.neg
  have h := V_shift (-k) hn
  have e1 : -r + qT = -(r - qT) := by grind
  have e2 : (-k + 1 : Int) = -(k - 1) := by omega
  rw [e1, e2, V_neg, V_neg] at h
  unfold Bd at *
  grind

-- plain truth4
theorem has_turnLo {k : Int} (h : 0 ≤ k) : (turnLo k : Rat) ≤ (k : Rat) * qT * 4294967296 ∧ (k : Rat) * qT * 4294967296 ≤ ((turnLo k + 1 : Int) : Rat) := by
  have h1 := floor_le (n := k * 7244019458077122842) (d := 1073741824) (by decide)
  have h2 := lt_floor (n := k * 7244019458077122842) (d := 1073741824) (by decide)
  rw [Rat.intCast_mul] at h1 h2
  have e1 : ((1073741824 : Int) : Rat) = 1073741824 := rfl
  have e2 : ((7244019458077122842 : Int) : Rat) = 7244019458077122842 := rfl
  have e3 : ((1 : Int) : Rat) = 1 := rfl
  rw [e1, e2] at h1 h2
  have e : (k : Rat) * qT * 4294967296 * 1073741824 = (k : Rat) * 7244019458077122842 := by unfold qT; grind
  show (((k * 7244019458077122842 / 1073741824 : Int)) : Rat) ≤ _ ∧ _ ≤ (((k * 7244019458077122842 / 1073741824 + 1 : Int)) : Rat)
  rw [Rat.intCast_add, e3]
  generalize (k : Rat) * qT * 4294967296 = y at *
  constructor <;> grind
theorem has_turnP {k : Int} (h : 0 ≤ k) : Has (turnP k) ((k : Rat) * qT) := by
  unfold turnP
  split
  · rename_i h0
    subst h0
    refine has_in ?_ ?_ <;> grind
  · have := has_turnLo h
    exact has_in this.1 this.2
theorem has_turn (k : Int) : Has (turnI k) ((k : Rat) * qT) := by
  unfold turnI
  split
  · rename_i hw
    rw [within_iff] at hw
    unfold turnA
    split
    · have := has_turnLo (k := -k) (by omega)
      rw [Rat.intCast_neg] at this
      refine has_in ?_ ?_
      · rw [Rat.intCast_neg]; grind
      · rw [Rat.intCast_neg]; grind
    · exact has_turnP (by omega)
  · exact has_whole
/-- What is left of an angle. -/
def rrA (n : Int) : Rat := (n : Rat) / 4294967296 - (quarter n : Rat) * qT
theorem has_angR (n : Int) : Has (angR n) (rrA n) := has_sub (has_at n) (has_turn _)
theorem quarter_val {n : Int} (h : angleOk n = true) : quarter n = (n + 3373259426) / 6746518852 := by unfold quarter; rw [if_pos h]
theorem rr_bd {n : Int} (h : angleOk n = true) : Bd (rrA n) (4/5) := by
  have hq := quarter_val h
  have hn := h
  unfold angleOk at hn
  rw [within_iff] at hn
  obtain ⟨k, hk⟩ : ∃ k, quarter n = k := ⟨_, rfl⟩
  rw [hk] at hq
  have b1 : -(4 * 4611686018427387904) ≤ 5 * (1073741824 * n - k * 7244019458077122842) := by omega
  have b2 : 5 * (1073741824 * n - k * 7244019458077122842) ≤ 4 * 4611686018427387904 := by omega
  have c1 := Rat.intCast_le_intCast.2 b1
  have c2 := Rat.intCast_le_intCast.2 b2
  simp only [Rat.intCast_neg, Rat.intCast_mul, Rat.intCast_sub] at c1 c2
  have e1 : ((4 : Int) : Rat) = 4 := rfl
  have e2 : ((4611686018427387904 : Int) : Rat) = 4611686018427387904 := rfl
  have e3 : ((5 : Int) : Rat) = 5 := rfl
  have e4 : ((1073741824 : Int) : Rat) = 1073741824 := rfl
  have e5 : ((7244019458077122842 : Int) : Rat) = 7244019458077122842 := rfl
  rw [e1, e2, e3, e4, e5] at c1 c2
  unfold rrA qT Bd
  rw [hk]
  constructor <;> grind
/-- The truth of a value of the circle. -/
def TTr (n t : Int) : Rat := VV (quarter n + t) (rrA n)
theorem ring_has {z : Rat} (h1 : -1 ≤ z) (h2 : z ≤ 1) : Has ringI z := by
  unfold ringI
  refine has_in ?_ ?_
  · have : ((-4294967296 : Int) : Rat) = -4294967296 := rfl
    rw [this]; grind
  · have : ((4294967296 : Int) : Rat) = 4294967296 := rfl
    rw [this]; grind
theorem has_circ {n t : Int} {z : Rat} (h : angleOk n = true) (hz : Bd (z - TTr n t) room) (h1 : -1 ≤ z) (h2 : z ≤ 1) : Has (circ n t) z := by
  have hr := rr_bd h
  have hR := has_angR n
  have hring := ring_has h1 h2
  unfold circ
  rw [if_pos h]
  unfold TTr at hz
  split
  · rename_i e
    rw [V0 e] at hz
    exact has_meet (has_sinS hR hr hz) hring
  · split
    · rename_i e
      rw [V1 e] at hz
      exact has_meet (has_cosS hR hr hz) hring
    · split
      · rename_i e
        rw [V2 e] at hz
        have hs : Has (sinS (angR n)) (-z) := has_sinS hR hr (by unfold Bd at *; grind)
        exact has_meet (has_mono (has_neg hs) (by grind)) hring
      · rename_i e0 e1 e2
        rw [V3 (by omega)] at hz
        have hs : Has (cosS (angR n)) (-z) := has_cosS hR hr (by unfold Bd at *; grind)
        exact has_meet (has_mono (has_neg hs) (by grind)) hring
theorem cT_0 : cT 0 = 1 := by decide +kernel
theorem pyth {x : Rat} (h : Bd x (4/5)) : Bd (sT x * sT x + cT x * cT x - 1) eps := by
  have h1 := (add_cos h h.neg).mono (show _ ≤ eps by have := eE_num.2; unfold eps; grind)
  rw [sT_neg, cT_neg] at h1
  have e0 : x + -x = 0 := by grind
  rw [e0, cT_0] at h1
  generalize sT x = S at *
  generalize cT x = C at *
  have e : C * C - S * -S - 1 = S * S + C * C - 1 := by grind
  rw [e] at h1
  exact h1
theorem sq_nonneg (x : Rat) : 0 ≤ x * x := by
  by_cases h : 0 ≤ x
  · exact Rat.mul_nonneg h h
  · have := Rat.mul_nonneg (a := -x) (b := -x) (by grind) (by grind)
    grind
theorem le_of_sq {x e : Rat} (he : 0 ≤ e) (h : x * x ≤ 1 + e) : Bd x (1 + e) := by
  have key : ∀ y : Rat, y * y ≤ 1 + e → y ≤ 1 + e := by
    intro y hy
    apply Rat.not_lt.1
    intro hgt
    have h1 := Rat.mul_lt_mul_of_pos_left hgt (show (0 : Rat) < 1 + e by grind)
    have h2 := Rat.mul_lt_mul_of_pos_right hgt (show (0 : Rat) < y by grind)
    have h3 : (1 + e) * (1 + e) = 1 + e + e * (1 + e) := by grind
    have h4 := Rat.mul_nonneg he (show (0 : Rat) ≤ 1 + e by grind)
    grind
  refine ⟨?_, key x h⟩
  have := key (-x) (by grind)
  grind
theorem V_one (k : Int) {x : Rat} (h : Bd x (4/5)) : Bd (VV k x) (1 + eps) := by
  have hp := pyth h
  have s1 := sq_nonneg (sT x)
  have s2 := sq_nonneg (cT x)
  have he : (0 : Rat) ≤ eps := by decide +kernel
  have h1 : Bd (sT x) (1 + eps) := le_of_sq he (by unfold Bd at hp; grind)
  have h2 : Bd (cT x) (1 + eps) := le_of_sq he (by unfold Bd at hp; grind)
  rcases V_cases k with ⟨_, e⟩ | ⟨_, e⟩ | ⟨_, e⟩ | ⟨_, e⟩ <;> rw [e]
  · exact h1
  · exact h2
  · exact h1.neg
  · exact h2.neg
theorem TT_one {n : Int} (t : Int) (h : angleOk n = true) : Bd (TTr n t) (1 + eps) := V_one _ (rr_bd h)
/-- Brought between -1 and 1. -/
def clR (x : Rat) : Rat := if x < -1 then -1 else if 1 < x then 1 else x
theorem cl_in (x : Rat) : -1 ≤ clR x ∧ clR x ≤ 1 := by unfold clR; split <;> (try split) <;> grind
theorem cl_near {x e : Rat} (h : Bd x (1 + e)) (he : 0 ≤ e) : Bd (clR x - x) e := by unfold clR Bd at *; split <;> (try split) <;> grind
def ctr (n t : Int) : Rat := clR (TTr n t)
theorem ctr_near {n t : Int} (h : angleOk n = true) : Bd (ctr n t - TTr n t) eps := cl_near (TT_one t h) (by decide +kernel)
theorem has_ctr {n t : Int} (h : angleOk n = true) : Has (circ n t) (ctr n t) :=
  has_circ h ((ctr_near h).mono (by decide +kernel)) (cl_in _).1 (cl_in _).2
theorem ctr_one (n t : Int) : Bd (ctr n t) 1 := cl_in _
theorem has_snap {a : Iv} {x : Rat} {Z : Int} (h : Has a x) (h1 : x * 4294967296 < (Z : Rat) + 1) (h2 : (Z : Rat) - 1 < x * 4294967296) : Has a ((Z : Rat) / 4294967296) := by
  intro hok
  have := h hok
  have e : (Z : Rat) / 4294967296 * 4294967296 = Z := by grind
  rw [e]
  have e1 : ((1 : Int) : Rat) = 1 := rfl
  constructor
  · have : (a.lo : Rat) < ((Z + 1 : Int) : Rat) := by rw [Rat.intCast_add, e1]; grind
    rw [Rat.intCast_lt_intCast] at this
    exact Rat.intCast_le_intCast.2 (by omega)
  · have : ((Z - 1 : Int) : Rat) < (a.hi : Rat) := by rw [Rat.intCast_sub, e1]; grind
    rw [Rat.intCast_lt_intCast] at this
    exact Rat.intCast_le_intCast.2 (by omega)
/-- A value of the circle overlaps what holds a number near its truth. -/
theorem circ_over {n t : Int} {s : Iv} {w : Rat} (h : angleOk n = true) (hs : Has s w) (hw : Bd (w - TTr n t) (1/1000000000000)) : (meetI (circ n t) s).2 = true := by
  have h1 := TT_one t h
  by_cases c1 : w < -1
  · have hz : Has s (((-4294967296 : Int) : Rat) / 4294967296) := by
      refine has_snap hs ?_ ?_
      · have : ((-4294967296 : Int) : Rat) = -4294967296 := rfl
        rw [this]; grind
      · have : ((-4294967296 : Int) : Rat) = -4294967296 := rfl
        rw [this]; unfold Bd eps at *; grind
    have e : ((-4294967296 : Int) : Rat) / 4294967296 = -1 := by decide +kernel
    rw [e] at hz
    exact over_of (has_circ h (by unfold Bd room eps at *; grind) (by grind) (by grind)) hz
  · by_cases c2 : 1 < w
    · have hz : Has s (((4294967296 : Int) : Rat) / 4294967296) := by
        refine has_snap hs ?_ ?_
        · have : ((4294967296 : Int) : Rat) = 4294967296 := rfl
          rw [this]; unfold Bd eps at *; grind
        · have : ((4294967296 : Int) : Rat) = 4294967296 := rfl
          rw [this]; grind
      have e : ((4294967296 : Int) : Rat) / 4294967296 = 1 := by decide +kernel
      rw [e] at hz
      exact over_of (has_circ h (by unfold Bd room eps at *; grind) (by grind) (by grind)) hz
    · exact over_of (has_circ h (by unfold Bd room at *; grind) (by grind) (by grind)) hs

end Go.Proofs.YtcnapkdccjibpaaGreatDoor.Eng
