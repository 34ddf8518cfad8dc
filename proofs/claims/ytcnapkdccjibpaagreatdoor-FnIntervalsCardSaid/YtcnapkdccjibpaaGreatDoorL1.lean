/- What functions of the program compute, and that the program computes it: part 1. -/
import Derived.Test.YtcnapkdccjibpaaGreatDoorTab
import Derived.Test.YtcnapkdccjibpaaGreatDoorEng16
import Derived.Laws.BitsLemmas
import Derived.Laws.Bits64
import Derived.Laws.Bits64b
import Derived.Lib.Mul64
import Derived.Lib.BitFns
import Derived.Laws.Externs
namespace Go.Proofs.YtcnapkdccjibpaaGreatDoor.Eng
open Go Go.RowKit
set_option linter.unusedVariables false
set_option linter.unusedSimpArgs false
set_option maxRecDepth 100000
set_option maxHeartbeats 1000000
-- words
/-- A pair of ends. -/
structure Iv where
  lo : Int
  hi : Int
theorem Iv.eta (a : Iv) : Iv.mk a.lo a.hi = a := rfl
abbrev FT := List AV → List PC → Option (Prop × SV × List (List PC))
/-- an int64 -/
def inR (n : Int) : Prop := -9223372036854775808 ≤ n ∧ n ≤ 9223372036854775807
def inU (n : Int) : Prop := 0 ≤ n ∧ n ≤ 18446744073709551615
def Iv.r (a : Iv) : Prop := inR a.lo ∧ inR a.hi
theorem wrap_in {n : Int} (h : inR n) : IntKind.i64.wrap n = n := by unfold inR at h; rw [IntKind.wrap_i64]; omega
theorem wrapu_in {n : Int} (h : inU n) : IntKind.u64.wrap n = n := by
  unfold inU at h; rw [IntKind.wrap_u64]; omega
theorem blt_lit {k n : Nat} : Nat.blt k n = decide (k < n) := by
  cases h : Nat.blt k n with
  | true => have := Nat.blt_eq.mp h; simp [this]
  | false =>
    have : ¬ k < n := fun hl => by rw [Nat.blt_eq.mpr hl] at h; cases h
    simp [this]
theorem beq_lit {k n : Nat} : Nat.beq k n = decide (k = n) := by
  cases h : Nat.beq k n with
  | true => have := Nat.eq_of_beq_eq_true h; simp [this]
  | false => have := Nat.ne_of_beq_eq_false h; simp [this]
theorem wrap_lit {n : Int} (h : (decide (-9223372036854775808 ≤ n) && decide (n ≤ 9223372036854775807)) = true) : IntKind.i64.wrap n = n := by
  simp at h; exact wrap_in h
theorem wrapu_lit {n : Int} (h : (decide (0 ≤ n) && decide (n ≤ 18446744073709551615)) = true) : IntKind.u64.wrap n = n := by
  simp at h; exact wrapu_in h
theorem look_hit {t : Nat} {v : Option SV} {r : Env} : look ((t, v) :: r) t = v := by simp [look]
theorem look_miss {t t' : Nat} {v : Option SV} {r : Env} (h : Nat.beq t t' = false) : look ((t', v) :: r) t = look r t := by
  have := Nat.ne_of_beq_eq_false h
  simp [look, this]
theorem reqs_true {X : Prop} : Reqs True X = X := propext ⟨fun h => h.go, fun h => ⟨trivial, h⟩⟩
theorem wrap_om {n : Int} (h1 : -9223372036854775808 ≤ n) (h2 : n ≤ 9223372036854775807) : IntKind.i64.wrap n = n := wrap_in ⟨h1, h2⟩
theorem wrapu_om {n : Int} (h1 : 0 ≤ n) (h2 : n ≤ 18446744073709551615) : IntKind.u64.wrap n = n := wrapu_in ⟨h1, h2⟩
theorem max_v {k k' : IntKind} {x y : Int} : builtinO .max (some [.c (.p (.int k x)), .c (.p (.int k' y))]) = some (sp (.int k (max x y))) := by
  rw [max_2]
  congr 3
  split <;> omega
theorem min_v {k k' : IntKind} {x y : Int} : builtinO .min (some [.c (.p (.int k x)), .c (.p (.int k' y))]) = some (sp (.int k (min x y))) := by
  rw [min_2]
  congr 3
  split <;> omega
/-- The halves of a wide number. -/
def whi (w : Int) : Int := w / 18446744073709551616
def wlo (w : Int) : Int := w % 18446744073709551616
def wv (hi lo : Int) : Int := hi * 18446744073709551616 + lo
theorem wv_eta (w : Int) : wv (whi w) (wlo w) = w := by unfold wv whi wlo; omega

-- ends
theorem endS_i {a0 : Int} {t : Int} {r : SV} {h : Heap} (hr : .v (.c (.p (.int .i64 (t)))) = r) (e : a0 = t) : endS r [] h (some [.c (.p (.int .i64 a0))]) := by
  subst e; subst hr; exact ⟨rfl, by simp [SV.res, AV.res, Cl.res], rfl⟩
theorem endS_b {a0 : Bool} {t : Bool} {r : SV} {h : Heap} (hr : .v (.c (.p (.bool (t)))) = r) (e : a0 = t) : endS r [] h (some [.c (.p (.bool a0))]) := by
  subst e; subst hr; exact ⟨rfl, by simp [SV.res, AV.res, Cl.res], rfl⟩
theorem endS_v {a0 b0 : Int} {t : Iv} {r : SV} {h : Heap} (hr : .v (.agg [.int .i64 ((t)).lo, .int .i64 ((t)).hi]) = r) (e : Iv.mk a0 b0 = t) : endS r [] h (some [.agg [.int .i64 a0, .int .i64 b0]]) := by
  subst e; subst hr; exact ⟨rfl, by simp [SV.res, AV.res, Cl.res], rfl⟩
theorem endS_ii {a0 : Int} {a1 : Int} {t : Int × Int} {r : SV} {h : Heap} (hr : .tup [.c (.p (.int .i64 ((t).1))), .c (.p (.int .i64 ((t).2)))] = r) (e : (a0, a1) = t) : endS r [] h (some [.c (.p (.int .i64 a0)), .c (.p (.int .i64 a1))]) := by
  subst e; subst hr; exact ⟨rfl, by simp [SV.res, AV.res, Cl.res], rfl⟩
theorem endS_ib {a0 : Int} {a1 : Bool} {t : Int × Bool} {r : SV} {h : Heap} (hr : .tup [.c (.p (.int .i64 ((t).1))), .c (.p (.bool ((t).2)))] = r) (e : (a0, a1) = t) : endS r [] h (some [.c (.p (.int .i64 a0)), .c (.p (.bool a1))]) := by
  subst e; subst hr; exact ⟨rfl, by simp [SV.res, AV.res, Cl.res], rfl⟩
theorem endS_iib {a0 : Int} {a1 : Int} {a2 : Bool} {t : Int × Int × Bool} {r : SV} {h : Heap} (hr : .tup [.c (.p (.int .i64 ((t).1))), .c (.p (.int .i64 ((t).2.1))), .c (.p (.bool ((t).2.2)))] = r) (e : (a0, a1, a2) = t) : endS r [] h (some [.c (.p (.int .i64 a0)), .c (.p (.int .i64 a1)), .c (.p (.bool a2))]) := by
  subst e; subst hr; exact ⟨rfl, by simp [SV.res, AV.res, Cl.res], rfl⟩
theorem endS_vb {a0 b0 : Int} {a1 : Bool} {t : Iv × Bool} {r : SV} {h : Heap} (hr : .tup [.agg [.int .i64 (((t).1)).lo, .int .i64 (((t).1)).hi], .c (.p (.bool ((t).2)))] = r) (e : (Iv.mk a0 b0, a1) = t) : endS r [] h (some [.agg [.int .i64 a0, .int .i64 b0], .c (.p (.bool a1))]) := by
  subst e; subst hr; exact ⟨rfl, by simp [SV.res, AV.res, Cl.res], rfl⟩
theorem endS_u {a0 : Int} {t : Int} {r : SV} {h : Heap} (hr : .v (.c (.p (.int .u64 (t)))) = r) (e : a0 = t) : endS r [] h (some [.c (.p (.int .u64 a0))]) := by
  subst e; subst hr; exact ⟨rfl, by simp [SV.res, AV.res, Cl.res], rfl⟩
theorem endS_w {a0 b0 : Int} {t : Int} {r : SV} {h : Heap} (hr : .v (.agg [.int .i64 (whi (t)), .int .u64 (wlo (t))]) = r) (e : a0 = whi t ∧ b0 = wlo t) : endS r [] h (some [.agg [.int .i64 a0, .int .u64 b0]]) := by
  obtain ⟨rfl, rfl⟩ := e; subst hr; exact ⟨rfl, by simp [SV.res, AV.res, Cl.res], rfl⟩
theorem endS_uu {a0 : Int} {a1 : Int} {t : Int × Int} {r : SV} {h : Heap} (hr : .tup [.c (.p (.int .u64 ((t).1))), .c (.p (.int .u64 ((t).2)))] = r) (e : (a0, a1) = t) : endS r [] h (some [.c (.p (.int .u64 a0)), .c (.p (.int .u64 a1))]) := by
  subst e; subst hr; exact ⟨rfl, by simp [SV.res, AV.res, Cl.res], rfl⟩
theorem endS_uuu {a0 : Int} {a1 : Int} {a2 : Int} {t : Int × Int × Int} {r : SV} {h : Heap} (hr : .tup [.c (.p (.int .u64 ((t).1))), .c (.p (.int .u64 ((t).2.1))), .c (.p (.int .u64 ((t).2.2)))] = r) (e : (a0, a1, a2) = t) : endS r [] h (some [.c (.p (.int .u64 a0)), .c (.p (.int .u64 a1)), .c (.p (.int .u64 a2))]) := by
  subst e; subst hr; exact ⟨rfl, by simp [SV.res, AV.res, Cl.res], rfl⟩
theorem endS_ub {a0 : Int} {a1 : Bool} {t : Int × Bool} {r : SV} {h : Heap} (hr : .tup [.c (.p (.int .u64 ((t).1))), .c (.p (.bool ((t).2)))] = r) (e : (a0, a1) = t) : endS r [] h (some [.c (.p (.int .u64 a0)), .c (.p (.bool a1))]) := by
  subst e; subst hr; exact ⟨rfl, by simp [SV.res, AV.res, Cl.res], rfl⟩
theorem endS_wi {a0 b0 : Int} {a1 : Int} {t : Int × Int} {r : SV} {h : Heap} (hr : .tup [.agg [.int .i64 (whi ((t).1)), .int .u64 (wlo ((t).1))], .c (.p (.int .i64 ((t).2)))] = r) (e : (a0 = whi (t).1 ∧ b0 = wlo (t).1) ∧ a1 = (t).2) : endS r [] h (some [.agg [.int .i64 a0, .int .u64 b0], .c (.p (.int .i64 a1))]) := by
  obtain ⟨⟨rfl, rfl⟩, rfl⟩ := e; subst hr; exact ⟨rfl, by simp [SV.res, AV.res, Cl.res], rfl⟩
theorem endS_wib {a0 b0 : Int} {a1 : Int} {a2 : Bool} {t : Int × Int × Bool} {r : SV} {h : Heap} (hr : .tup [.agg [.int .i64 (whi ((t).1)), .int .u64 (wlo ((t).1))], .c (.p (.int .i64 ((t).2.1))), .c (.p (.bool ((t).2.2)))] = r) (e : (a0 = whi (t).1 ∧ b0 = wlo (t).1) ∧ a1 = (t).2.1 ∧ a2 = (t).2.2) : endS r [] h (some [.agg [.int .i64 a0, .int .u64 b0], .c (.p (.int .i64 a1)), .c (.p (.bool a2))]) := by
  obtain ⟨⟨rfl, rfl⟩, rfl, rfl⟩ := e; subst hr; exact ⟨rfl, by simp [SV.res, AV.res, Cl.res], rfl⟩

-- bits
theorem bin_shr_u64 {T : Tab} {t : Nat} {k' : IntKind} {a b : Int} (hb : (decide (0 ≤ b) && decide (b ≤ 64)) = true) : binO T .shr t (some (.c (.p (.int .u64 a)))) (some (.c (.p (.int k' b)))) = some (sp (.int .u64 (a / 2 ^ b.toNat))) := by
  have hk : IntKind.u64.bits = 64 := rfl
  have hb' : ¬ b < 0 ∧ b.toNat ≤ 64 := by simp at hb; omega
  rw [bin_shr hb'.1, hk, Nat.min_eq_left hb'.2, Int.fdiv_eq_ediv_of_nonneg]
  exact Int.le_of_lt (Int.pow_pos (by omega))
theorem bin_shl_u64 {T : Tab} {t : Nat} {k' : IntKind} {a b : Int} (hb : (decide (0 ≤ b) && decide (b ≤ 64)) = true) : binO T .shl t (some (.c (.p (.int .u64 a)))) (some (.c (.p (.int k' b)))) = some (sp (.int .u64 (IntKind.u64.wrap (a * 2 ^ b.toNat)))) := by
  have hk : IntKind.u64.bits = 64 := rfl
  have hb' : ¬ b < 0 ∧ b.toNat ≤ 64 := by simp at hb; omega
  rw [bin_shl hb'.1, hk, Nat.min_eq_left hb'.2]
theorem bin_shr_i64 {T : Tab} {t : Nat} {k' : IntKind} {a b : Int} (hb : (decide (0 ≤ b) && decide (b ≤ 64)) = true) : binO T .shr t (some (.c (.p (.int .i64 a)))) (some (.c (.p (.int k' b)))) = some (sp (.int .i64 (a / 2 ^ b.toNat))) := by
  have hk : IntKind.i64.bits = 64 := rfl
  have hb' : ¬ b < 0 ∧ b.toNat ≤ 64 := by simp at hb; omega
  rw [bin_shr hb'.1, hk, Nat.min_eq_left hb'.2, Int.fdiv_eq_ediv_of_nonneg]
  exact Int.le_of_lt (Int.pow_pos (by omega))
theorem bin_shl_i64 {T : Tab} {t : Nat} {k' : IntKind} {a b : Int} (hb : (decide (0 ≤ b) && decide (b ≤ 64)) = true) : binO T .shl t (some (.c (.p (.int .i64 a)))) (some (.c (.p (.int k' b)))) = some (sp (.int .i64 (IntKind.i64.wrap (a * 2 ^ b.toNat)))) := by
  have hk : IntKind.i64.bits = 64 := rfl
  have hb' : ¬ b < 0 ∧ b.toNat ≤ 64 := by simp at hb; omega
  rw [bin_shl hb'.1, hk, Nat.min_eq_left hb'.2]
theorem idxO_l0 {h : Heap} {a b : PC} {k k' : IntKind} : idxO h (some (tdArr k' 2)) (some (.agg [a, b])) (some (.int k 0)) = some (some (sp a), h) := rfl
theorem idxO_l1 {h : Heap} {a b : PC} {k k' : IntKind} : idxO h (some (tdArr k' 2)) (some (.agg [a, b])) (some (.int k 1)) = some (some (sp b), h) := rfl
theorem wrap_u64s {n : Int} : IntKind.u64.wrap n = n % 18446744073709551616 := IntKind.wrap_u64 n
theorem bits_u64 : IntKind.u64.bits = 64 := rfl
theorem bits_i64 : IntKind.i64.bits = 64 := rfl
theorem natOf {a : Int} (h : 0 ≤ a) : ∃ m : Nat, a = m := ⟨a.toNat, by omega⟩
theorem and_nat (a b : Nat) (ha : a < 18446744073709551616) (hb : b < 18446744073709551616) : (BitVec.ofInt IntKind.u64.bits (a : Int) &&& BitVec.ofInt IntKind.u64.bits (b : Int)).toNat = a &&& b := by
  have h1 : (BitVec.ofInt IntKind.u64.bits (a : Int)).toNat = a := by rw [bits_u64]; simp; omega
  have h2 : (BitVec.ofInt IntKind.u64.bits (b : Int)).toNat = b := by rw [bits_u64]; simp; omega
  rw [BitVec.toNat_and, h1, h2]
theorem or_nat (a b : Nat) (ha : a < 18446744073709551616) (hb : b < 18446744073709551616) : (BitVec.ofInt IntKind.u64.bits (a : Int) ||| BitVec.ofInt IntKind.u64.bits (b : Int)).toNat = a ||| b := by
  have h1 : (BitVec.ofInt IntKind.u64.bits (a : Int)).toNat = a := by rw [bits_u64]; simp; omega
  have h2 : (BitVec.ofInt IntKind.u64.bits (b : Int)).toNat = b := by rw [bits_u64]; simp; omega
  rw [BitVec.toNat_or, h1, h2]
theorem and_m32' {a : Int} : (((BitVec.ofInt IntKind.u64.bits a &&& BitVec.ofInt IntKind.u64.bits 4294967295).toNat : Nat) : Int) = a % 4294967296 := by
  have h1 : (BitVec.ofInt IntKind.u64.bits a).toNat = (a % 18446744073709551616).toNat := by rw [bits_u64]; simp
  have h2 : (BitVec.ofInt IntKind.u64.bits 4294967295).toNat = 4294967295 := by rw [bits_u64]; simp
  rw [BitVec.toNat_and, h1, h2, Nat.and_two_pow_sub_one_eq_mod _ 32]
  omega
theorem and_m32 {a : Int} : IntKind.u64.wrap ((BitVec.ofInt IntKind.u64.bits a &&& BitVec.ofInt IntKind.u64.bits 4294967295).toNat : Nat) = a % 4294967296 := by
  rw [and_m32', IntKind.wrap_u64]; omega
theorem not_i64 {a : Int} (h : inR a) : IntKind.i64.wrap ((BitVec.ofInt IntKind.i64.bits (if IntKind.i64.signed = true then -1 else IntKind.i64.max) ^^^ BitVec.ofInt IntKind.i64.bits a).toNat : Nat) = -1 - a := by
  unfold inR at h
  show IntKind.i64.wrap ((BitVec.ofInt 64 (-1) ^^^ BitVec.ofInt 64 a).toNat : Nat) = -1 - a
  have e : BitVec.ofInt 64 (-1) = BitVec.allOnes 64 := by decide
  rw [e, BitVec.allOnes_xor, BitVec.toNat_not, BitVec.toNat_ofInt, IntKind.wrap_i64]
  omega
theorem mul_bd {a b : Int} (ha : inR a) (hb : inR b) : -85070591730234615865843651857942052864 ≤ a * b ∧ a * b ≤ 85070591730234615865843651857942052864 := by
  have h1 : a.natAbs ≤ 9223372036854775808 := by unfold inR at ha; omega
  have h2 : b.natAbs ≤ 9223372036854775808 := by unfold inR at hb; omega
  have h3 := Nat.mul_le_mul h1 h2
  rw [← Int.natAbs_mul] at h3
  omega

end Go.Proofs.YtcnapkdccjibpaaGreatDoor.Eng
