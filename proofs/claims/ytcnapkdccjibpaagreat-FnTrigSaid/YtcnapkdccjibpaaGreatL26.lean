/- What functions of the program compute, and that the program computes it: part 26. -/
import Derived.Test.YtcnapkdccjibpaaGreatTab
import Derived.Test.YtcnapkdccjibpaaGreatEng16
import Derived.Laws.BitsLemmas
import Derived.Laws.Bits64
import Derived.Laws.Bits64b
import Derived.Lib.Mul64
import Derived.Lib.BitFns
import Derived.Laws.Externs
import Derived.Test.YtcnapkdccjibpaaGreatL1
import Derived.Test.YtcnapkdccjibpaaGreatL2
import Derived.Test.YtcnapkdccjibpaaGreatL3
import Derived.Test.YtcnapkdccjibpaaGreatL8
import Derived.Test.YtcnapkdccjibpaaGreatL16
namespace Go.Proofs.YtcnapkdccjibpaaGreat.Eng
open Go Go.RowKit
set_option linter.unusedVariables false
set_option linter.unusedSimpArgs false
set_option maxRecDepth 100000
set_option maxHeartbeats 1000000
-- bytes
/-- Every byte of a given slice is told. -/
def Told (m : Addr → Option PC) (a : Option Addr) (n : Nat) : Prop := ∀ i, i < n → ∃ b v, a = some b ∧ m (b.add i) = some (.int .u8 v) ∧ 0 ≤ v ∧ v < 256
def byteAt (m : Addr → Option PC) (a : Option Addr) (i : Nat) : Int := match a with
  | some b => (match m (b.add i) with
    | some (.int _ v) => v
    | _ => 0)
  | none => 0
theorem byteAt_of {m : Addr → Option PC} {b : Addr} {i : Nat} {v : Int} (h : m (b.add i) = some (.int .u8 v)) : byteAt m (some b) i = v := by simp only [byteAt, h]
def d8F (m : Addr → Option PC) (a : Option Addr) (n : Nat) (k N : Int) : Int := if N ≤ 1 ∨ (n : Int) ≤ k then 0 else (if k + 1 < n then 256 * byteAt m a k.toNat + byteAt m a (k.toNat + 1) else byteAt m a k.toNat) % N
def M_d8 : MT := fun m args h => match args with
  | [.c (.p (.sl a n c)), .c (.p (.int .i64 k)), .c (.p (.int .i64 N))] => some (Told m a n ∧ 0 ≤ k ∧ k ≤ 1000000 ∧ n ≤ 1048576, .v (.c (.p (.int .i64 (d8F m a n k N)))), h)
  | _ => none
theorem M_d8_eq {m : Addr → Option PC} {h : Heap} {a : Option Addr} {n c : Nat} {k N : Int} : M_d8 m [.c (.p (.sl a n c)), .c (.p (.int .i64 k)), .c (.p (.int .i64 N))] h = some (Told m a n ∧ 0 ≤ k ∧ k ≤ 1000000 ∧ n ≤ 1048576, .v (.c (.p (.int .i64 (d8F m a n k N)))), h) := rfl
theorem d8_in {m : Addr → Option PC} {a : Option Addr} {n : Nat} {k N : Int} (hN : 1 < N) : 0 ≤ d8F m a n k N ∧ d8F m a n k N < N := by
  unfold d8F
  split
  · omega
  · exact ⟨Int.emod_nonneg _ (by omega), Int.emod_lt_of_pos _ (by omega)⟩
def widthI (x : Iv) : Int := if okI x then x.hi - x.lo else -1
def F_widthI : FT
  | [.agg [.int .i64 x1, .int .i64 x2]], _ => some (True, .v (.c (.p (.int .i64 (widthI (Iv.mk x1 x2))))), [])
  | _, _ => none
theorem F_widthI_eq {x1 : Int} {x2 : Int} {g : List PC} : F_widthI [.agg [.int .i64 x1, .int .i64 x2]] g = some (True, .v (.c (.p (.int .i64 (widthI (Iv.mk x1 x2))))), []) := rfl

-- spec.WidthI
theorem spec_WidthI_widthI_ok : Fn Tryz.prog 14 F_widthI := by
  refine fn_of_go (O := orc [⟨61, F_okI, .inl spec_l04Ok_okI_ok⟩]) mixed T_ok (orc_sound _) Tryz.func14 (by kernel_rfl) rfl Tryz.ntmps14 (by kernel_rfl) Tryz.results14 ?_
  intro args g pre r new hF hpre
  unfold F_widthI at hF
  split at hF
  · rename_i x1 x2
    simp only [Option.some.injEq, Prod.mk.injEq] at hF
    obtain ⟨rfl, hr, rfl⟩ := hF
    refine ⟨by simp, ?_⟩
    simp (config := { maxSteps := 4000000, implicitDefEqProofs := false }) only [F_okI_eq, WK0, WK1, WK2, WK3, WK4, WK5, WK6, WK7, WK8, WK9, WK10, WK11, WK12, WK13, WK14, WK15, WK16, WK17, WK18, WK19, WK20, WK21, WK22, WK23, WK24, WK25, WK26, WK27, WK28, look_hit, look_miss, List.map_cons, List.map_nil, Nat.add_zero, max_v, min_v, ↓cnd_t, ↓cnd_f, ↓grd_b, ↓grd_u, startEnv, Option.map_some, List.length_nil, List.length_cons, List.nil_append, List.cons_append, List.getElem?_cons_zero, List.getElem?_cons_succ, List.set_cons_zero, List.set_cons_succ, Bool.not_true, Bool.not_false, reduceIte, Nat.reduceEqDiff, Nat.reduceAdd, Nat.reduceLT, blt_lit, beq_lit, Bool.or_true, Bool.true_or, Bool.or_false, Bool.false_or, Bool.and_true, Bool.true_and, Bool.and_self, cond_true, cond_false, List.append_nil, Iv.eta, Option.map_none, idxO_l0, idxO_l1, decide_true, decide_false, reqs_true, Int.zero_sub, wrap_lit, wrapu_lit, Int.reduceLE, Int.reduceLT, Int.reduceAdd, Int.reduceSub, Int.reduceMul, Int.reduceNeg, Int.reduceEq, Option.bind_some, bin_shr_u64, bin_shl_u64, bin_shr_i64, bin_shl_i64, and_m32', Int.reduceToNat, Int.reducePow, Int.reduceMod, Int.reduceDiv, wrap_u64s, true_or, or_true, true_and, and_true, Option.isSome_none, Option.isSome_some, Nat.reduceLeDiff, Nat.reduceMul, Int.toNat_natCast, Int.cast_ofNat_Int, Int.natCast_zero, Int.natCast_one, List.isEmpty_nil, List.isEmpty_cons, List.replicate_zero, List.replicate_succ, T1, T2, T3, T4, T5, T6, T9, T10, T11, T12, T21, T22, T23, T24, T26, T27, T28, T29, T30, T31, T32, T33, T34, T35, T37, T38, T39, T40, T42, T43, T44, T45, T46, T47, T48, T50, T52, T54, T55, T56, T57, T58, T59, T60, T61, T62, T63, T64, T65, T66, T67, T68, T69, T70, T71, T72, T73, T75, T77, T78, T79, T80, T82, T83, T84, T85, T87, T89, T90, T91, T92, T95, T97, T103, T104, T105, T106, T107, T109, T110]
    repeat' (first | with_reducible refine cnd_split (fun hc => ?_) (fun hc => ?_) | with_reducible refine Reqs.mk ?_ ?_)
    · have hb := okI_mk.1 hc
      refine endS_i (t := (widthI (Iv.mk x1 x2))) hr ?_
      rw [widthI, if_pos hc]
      exact wrap_om (by omega) (by omega)
    · refine endS_i (t := (widthI (Iv.mk x1 x2))) hr ?_
      rw [widthI, if_neg (by rw [hc]; decide)]
  · cases hF

-- pilaw
theorem fl_add (x y d : Int) (h : 0 < d) : x / d + y / d ≤ (x + y) / d ∧ (x + y) / d ≤ x / d + y / d + 1 := by
  have h1 := Int.emod_add_mul_ediv x d
  have h2 := Int.emod_add_mul_ediv y d
  have h3 := Int.emod_add_mul_ediv (x + y) d
  have a1 := Int.emod_nonneg x (show d ≠ 0 by omega)
  have a2 := Int.emod_nonneg y (show d ≠ 0 by omega)
  have a3 := Int.emod_nonneg (x + y) (show d ≠ 0 by omega)
  have b1 := Int.emod_lt_of_pos x h
  have b2 := Int.emod_lt_of_pos y h
  have b3 := Int.emod_lt_of_pos (x + y) h
  generalize x / d = p at *
  generalize y / d = q at *
  generalize (x + y) / d = s at *
  have e : d * (s - p - q) = x % d + y % d - (x + y) % d := by
    rw [Int.mul_sub, Int.mul_sub]; omega
  constructor
  · by_cases hc : p + q ≤ s
    · exact hc
    · exfalso
      have : d * (s - p - q) ≤ d * (-1) := Int.mul_le_mul_of_nonneg_left (by omega) (by omega)
      omega
  · by_cases hc : s ≤ p + q + 1
    · exact hc
    · exfalso
      have : d * 2 ≤ d * (s - p - q) := Int.mul_le_mul_of_nonneg_left (by omega) (by omega)
      omega
theorem turnLo_add (j k : Int) : turnLo j + turnLo k ≤ turnLo (j + k) ∧ turnLo (j + k) ≤ turnLo j + turnLo k + 1 := by
  unfold turnLo
  rw [Int.add_mul]
  exact fl_add _ _ _ (by decide)
theorem turnLo_0 : turnLo 0 = 0 := by decide
/-- The ends of a turn, whatever its sign. -/
theorem turn_ends {k : Int} (h : -4096 ≤ k ∧ k ≤ 4096) : ∃ x y, turnI k = ⟨x, y⟩ ∧ -27633743508825 ≤ x ∧ x ≤ y ∧ y ≤ x + 1 ∧ y ≤ 27633743508825 ∧
    (k = 0 → x = 0 ∧ y = 0) ∧ (0 < k → x = turnLo k ∧ y = turnLo k + 1) ∧ (k < 0 → x = -(turnLo (-k) + 1) ∧ y = -turnLo (-k)) := by
  have hw : within k (-4096) 4096 = true := by rw [within_iff]; exact h
  rw [turnI, if_pos hw, turnA]
  by_cases hk : k < 0
  · have := turn_in (k := -k) (by omega)
    rw [if_pos hk]
    exact ⟨_, _, rfl, by omega, by omega, by omega, by omega, by omega, by omega, fun _ => ⟨rfl, rfl⟩⟩
  · rw [if_neg hk, turnP]
    by_cases h0 : k = 0
    · rw [if_pos h0]
      exact ⟨_, _, rfl, by omega, by omega, by omega, by omega, fun _ => ⟨rfl, rfl⟩, by omega, by omega⟩
    · rw [if_neg h0]
      have := turn_in (k := k) (by omega)
      exact ⟨_, _, rfl, by omega, by omega, by omega, by omega, by omega, fun _ => ⟨rfl, rfl⟩, by omega⟩
theorem turn_ok {k : Int} (h : -4096 ≤ k ∧ k ≤ 4096) : okI (turnI k) = true := by
  obtain ⟨x, y, e, h1, h2, h3, h4, _⟩ := turn_ends h
  rw [e, okI_mk]; omega
theorem turn_width {k : Int} (h : -4096 ≤ k ∧ k ≤ 4096) : decide (1 < widthI (turnI k)) = false := by
  rw [widthI, if_pos (turn_ok h)]
  obtain ⟨x, y, e, h1, h2, h3, h4, _⟩ := turn_ends h
  rw [e]
  simp only [decide_eq_false_iff_not]; omega
theorem turn_neg {k : Int} (h : -4096 ≤ k ∧ k ≤ 4096) : negI (turnI k) = turnI (-k) := by
  rw [negI, if_pos (turn_ok h)]
  obtain ⟨x, y, e, h1, h2, h3, h4, h5, h6, h7⟩ := turn_ends h
  obtain ⟨u, v, e', g1, g2, g3, g4, g5, g6, g7⟩ := turn_ends (k := -k) (by omega)
  rw [e, e', Int.neg_neg] at *
  simp only [Iv.mk.injEq]
  rcases Int.lt_trichotomy k 0 with hk | hk | hk
  · have := h7 hk; have := g6 (by omega); omega
  · have := h5 hk; have := g5 (by omega); omega
  · have := h6 hk; have := g7 (by omega); omega
theorem turn_add {j k : Int} (hj : -2000 ≤ j ∧ j ≤ 2000) (hk : -2000 ≤ k ∧ k ≤ 2000) : (meetI (addI (turnI j) (turnI k)) (turnI (j + k))).2 = true := by
  have o1 := turn_ok (k := j) (by omega)
  have o2 := turn_ok (k := k) (by omega)
  have o3 := turn_ok (k := j + k) (by omega)
  obtain ⟨x, y, e, h1, h2, h3, h4, h5, h6, h7⟩ := turn_ends (k := j) (by omega)
  obtain ⟨u, v, e', g1, g2, g3, g4, g5, g6, g7⟩ := turn_ends (k := k) (by omega)
  obtain ⟨p, q, e'', i1, i2, i3, i4, i5, i6, i7⟩ := turn_ends (k := j + k) (by omega)
  have o4 : okI ⟨x + u, y + v⟩ = true := by rw [okI_mk]; omega
  have ha : addI (turnI j) (turnI k) = ⟨x + u, y + v⟩ := by
    rw [addI, o1, o2, e, e']
    simp only [Bool.and_true, if_true]
    rw [mkI, if_pos o4]
  rw [ha, meetI, if_pos o4, if_pos o3, e'']
  rw [if_neg]
  simp only
  have a1 := turnLo_add j k
  have a2 := turnLo_add (-j) (-k)
  have a3 := turnLo_add (-j) (j + k)
  have a4 := turnLo_add (-k) (j + k)
  have a5 := turnLo_add j (-(j + k))
  have a6 := turnLo_add k (-(j + k))
  rw [show -j + -k = -(j + k) by omega] at a2
  rw [show -j + (j + k) = k by omega] at a3
  rw [show -k + (j + k) = j by omega] at a4
  rw [show j + -(j + k) = -k by omega] at a5
  rw [show k + -(j + k) = -j by omega] at a6
  rcases Int.lt_trichotomy j 0 with hj0 | hj0 | hj0
  · have hx := h7 hj0
    rcases Int.lt_trichotomy k 0 with hk0 | hk0 | hk0
    · have hy := g7 hk0; have hz := i7 (by omega); omega
    · subst hk0
      rw [Int.add_zero] at e''
      have he := e.symm.trans e''
      simp only [Iv.mk.injEq] at he
      have hy := g5 rfl
      omega
    · have hy := g6 hk0
      rcases Int.lt_trichotomy (j + k) 0 with hs | hs | hs
      · have hz := i7 hs; omega
      · have hz := i5 hs
        rw [show -j = k by omega] at hx
        omega
      · have hz := i6 hs; omega
  · subst hj0
    rw [Int.zero_add] at e''
    have he := e'.symm.trans e''
    simp only [Iv.mk.injEq] at he
    have hy := h5 rfl
    omega
  · have hx := h6 hj0
    rcases Int.lt_trichotomy k 0 with hk0 | hk0 | hk0
    · have hy := g7 hk0
      rcases Int.lt_trichotomy (j + k) 0 with hs | hs | hs
      · have hz := i7 hs; omega
      · have hz := i5 hs
        rw [show -k = j by omega] at hy
        omega
      · have hz := i6 hs; omega
    · subst hk0
      rw [Int.add_zero] at e''
      have he := e.symm.trans e''
      simp only [Iv.mk.injEq] at he
      have hy := g5 rfl
      omega
    · have hy := g6 hk0; have hz := i6 (by omega); omega
def piOk (t : Int) : Bool := (meetI (machin t) (euler t)).2 && ((meetI (machin t) (turnI 2)).2 && (meetI (euler t) (turnI 2)).2)
theorem piOk_all : ((List.range 40).all fun i => piOk (1 + (i : Int))) = true := by decide +kernel
theorem piOk_at {t : Int} (h : 0 ≤ t ∧ t < 40) : piOk (1 + t) = true := by
  have := List.all_eq_true.1 piOk_all t.toNat (List.mem_range.2 (by omega))
  rwa [Int.toNat_of_nonneg h.1] at this

-- def FnPi
def M_lawFnPi : MT := fun m args h => match args, h with
  | [.c (.p (.sl a n c))], [] => some (Told m a n, .v (.c (.p (.bool true))), [])
  | _, _ => none

end Go.Proofs.YtcnapkdccjibpaaGreat.Eng
