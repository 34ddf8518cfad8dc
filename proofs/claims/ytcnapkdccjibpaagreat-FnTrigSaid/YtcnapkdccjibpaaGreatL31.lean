/- What functions of the program compute, and that the program computes it: part 31. -/
import Derived.Test.YtcnapkdccjibpaaGreatTab
import Derived.Test.YtcnapkdccjibpaaGreatEng16
import Derived.Laws.BitsLemmas
import Derived.Laws.Bits64
import Derived.Laws.Bits64b
import Derived.Lib.Mul64
import Derived.Lib.BitFns
import Derived.Laws.Externs
import Derived.Test.YtcnapkdccjibpaaGreatL1
import Derived.Test.YtcnapkdccjibpaaGreatL8
import Derived.Test.YtcnapkdccjibpaaGreatL26
import Derived.Test.YtcnapkdccjibpaaGreatL28
import Derived.Test.YtcnapkdccjibpaaGreatL29
import Derived.Test.YtcnapkdccjibpaaGreatL30
namespace Go.Proofs.YtcnapkdccjibpaaGreat.Eng
open Go Go.RowKit
set_option linter.unusedVariables false
set_option linter.unusedSimpArgs false
set_option maxRecDepth 100000
set_option maxHeartbeats 1000000
-- def angles
def angL : List Int := [0, 1, 5, 1000000, 3000000000, 8000000000, 30000000000]
/-- The first number of an interval of angles: drawn, or an end of a quarter turn's. -/
def angN (m : Addr → Option PC) (a : Option Addr) (n : Nat) : Int × Sr :=
  if pkV m a n 3 (num m a n 160000000000 ⟨0, 0⟩).2 = 0 then
    ((turnA (pkV m a n 20 (pkN m a n 3 (num m a n 160000000000 ⟨0, 0⟩).2) - 10)).lo, pkN m a n 20 (pkN m a n 3 (num m a n 160000000000 ⟨0, 0⟩).2))
  else ((num m a n 160000000000 ⟨0, 0⟩).1, pkN m a n 3 (num m a n 160000000000 ⟨0, 0⟩).2)
def angW (m : Addr → Option PC) (a : Option Addr) (n : Nat) : Int := amV angL (pkV m a n 7 (angN m a n).2)
def angM (m : Addr → Option PC) (a : Option Addr) (n : Nat) : Int :=
  if 0 < angW m a n then (angN m a n).1 + amV [0, angW m a n, angW m a n / 2, angW m a n / 3] (pkV m a n 4 (pkN m a n 7 (angN m a n).2)) else (angN m a n).1
theorem turnA_in {k : Int} (h : -10 ≤ k ∧ k < 10) : -70000000000 ≤ (turnA k).lo ∧ (turnA k).lo ≤ 70000000000 := by
  unfold turnA turnP turnLo
  split
  · simp only; omega
  · split
    · simp only; omega
    · simp only; omega
theorem angN_in {m : Addr → Option PC} {a : Option Addr} {n : Nat} {b : Int} (hs : SrOk m a n b ⟨0, 0⟩) : -160000000000 ≤ (angN m a n).1 ∧ (angN m a n).1 ≤ 160000000000 ∧ SrOk m a n (b + 24) (angN m a n).2 := by
  have h1 := num_in (most := 160000000000) (by omega) hs
  have ok2 := pkN_ok (k := 3) h1.2.2
  have ok3 := pkN_ok (k := 20) ok2
  have hb := pkV_in (m := m) (a := a) (n := n) (k := 20) (x := pkN m a n 3 (num m a n 160000000000 ⟨0, 0⟩).2)
  have hb2 := hb.2 (by omega)
  unfold angN
  split
  · have := turnA_in (k := pkV m a n 20 (pkN m a n 3 (num m a n 160000000000 ⟨0, 0⟩).2) - 10) (by omega)
    exact ⟨by simp only; omega, by simp only; omega, ok3.mono (by omega)⟩
  · exact ⟨h1.1, h1.2.1, ok2.mono (by omega)⟩
theorem amV7 {v : Int} (h : 0 ≤ v ∧ v < 7) : 0 ≤ amV angL v ∧ amV angL v ≤ 30000000000 := by
  obtain rfl | rfl | rfl | rfl | rfl | rfl | rfl : v = 0 ∨ v = 1 ∨ v = 2 ∨ v = 3 ∨ v = 4 ∨ v = 5 ∨ v = 6 := by omega
  all_goals decide
theorem angW_in {m : Addr → Option PC} {a : Option Addr} {n : Nat} : 0 ≤ angW m a n ∧ angW m a n ≤ 30000000000 := by
  have hb := pkV_in (m := m) (a := a) (n := n) (k := 7) (x := (angN m a n).2)
  exact amV7 ⟨hb.1, hb.2 (by omega)⟩
theorem amVw {w v : Int} (h : 0 ≤ v ∧ v < 4) (hw : 0 ≤ w) : 0 ≤ amV [0, w, w / 2, w / 3] v ∧ amV [0, w, w / 2, w / 3] v ≤ w := by
  obtain rfl | rfl | rfl | rfl : v = 0 ∨ v = 1 ∨ v = 2 ∨ v = 3 := by omega
  all_goals (simp [amV]; try omega)
theorem angM_in {m : Addr → Option PC} {a : Option Addr} {n : Nat} : (angN m a n).1 ≤ angM m a n ∧ angM m a n ≤ (angN m a n).1 + angW m a n := by
  have hw := angW_in (m := m) (a := a) (n := n)
  have hb := pkV_in (m := m) (a := a) (n := n) (k := 4) (x := pkN m a n 7 (angN m a n).2)
  have := amVw ⟨hb.1, hb.2 (by omega)⟩ hw.1
  unfold angM
  split <;> omega
def angTup (m : Addr → Option PC) (a : Option Addr) (n : Nat) : SV := .tup [.agg [.int .i64 (angN m a n).1, .int .i64 ((angN m a n).1 + angW m a n)], .c (.p (.int .i64 (angM m a n)))]
def M_angles : MT := fun m args h => match args with
  | [.c (.p (.sl a n c))] => some (Told m a n ∧ n ≤ 1048576, angTup m a n, h)
  | _ => none
theorem M_angles_eq {m : Addr → Option PC} {h : Heap} {a : Option Addr} {n c : Nat} : M_angles m [.c (.p (.sl a n c))] h = some (Told m a n ∧ n ≤ 1048576, .tup [.agg [.int .i64 (angN m a n).1, .int .i64 ((angN m a n).1 + angW m a n)], .c (.p (.int .i64 (angM m a n)))], h) := rfl
theorem plain_tup2 {k : Nat} {x : List PC} {y : PC} : SV.plain k (.tup [.agg x, .c (.p y)]) := by
  intro z hz
  simp only [List.mem_cons, List.not_mem_nil, or_false] at hz
  rcases hz with rfl | rfl <;> trivial
theorem endM_tup2 {hp l : Heap} {x : List PC} {y : PC} : endM hp.length (.tup [.agg x, .c (.p y)]) hp (hp ++ l) (some [.agg x, .c (.p y)]) :=
  endM_same rfl plain_tup2 rfl rfl (by simp) (by simp)
theorem box1 {h : Heap} {x z : List PC} : (h ++ [x] ++ [z])[h.length]? = some x := by simp
theorem box1s {h : Heap} {x y z : List PC} : (h ++ [x] ++ [z]).set h.length y = h ++ [y] ++ [z] := by simp
theorem box2 {h : Heap} {x x' z : List PC} : (h ++ [x] ++ [z])[(h ++ [x']).length]? = some z := by simp
theorem box3 {h : Heap} {x z u : List PC} : (h ++ [x] ++ [z] ++ [u])[h.length]? = some x := by simp
theorem box3s {h : Heap} {x y z u : List PC} : (h ++ [x] ++ [z] ++ [u]).set h.length y = h ++ [y] ++ [z] ++ [u] := by simp
theorem box4 {h : Heap} {x x' z z' u : List PC} : (h ++ [x] ++ [z] ++ [u])[(h ++ [x'] ++ [z']).length]? = some u := by simp
theorem box5 {h : Heap} {x z u v : List PC} : (h ++ [x] ++ [z] ++ [u] ++ [v])[h.length]? = some x := by simp
theorem box5s {h : Heap} {x y z u v : List PC} : (h ++ [x] ++ [z] ++ [u] ++ [v]).set h.length y = h ++ [y] ++ [z] ++ [u] ++ [v] := by simp

-- spec.E8Angles
theorem spec_E8Angles_angles_ok : Mn Tryz.prog 7 M_angles := by
  refine mn_of_go (O := orcM [⟨57, F_turnA, .inl spec_l05Turn_turnA_ok⟩] [⟨54, M_from, false, no_one, spec_l00From_from_ok⟩, ⟨55, M_number, true, fun _ => one_number, spec_l05Number_number_ok⟩, ⟨56, M_one, true, fun _ => one_one, __spec_l00Src__one_one_ok⟩, ⟨58, M_pick, true, fun _ => one_pick, __spec_l00Src__pick_pick_ok⟩, ⟨59, M_among, true, fun _ => one_among, __spec_l00Src__among_among_ok⟩]) mixed T_ok (orcM_sound _ _) Tryz.func7 (by kernel_rfl) rfl Tryz.ntmps7 (by kernel_rfl) Tryz.results7 ?_
  intro m args hp pre r h' hM hpre
  unfold M_angles at hM
  split at hM
  · rename_i a n c
    simp only [Option.some.injEq, Prod.mk.injEq] at hM
    obtain ⟨rfl, hr, hh⟩ := hM
    subst hh
    obtain ⟨k1, k2⟩ := hpre
    refine ⟨by simp, ?_⟩
    have ok0 := sr0_ok (b := 0) k1 k2 (by omega)
    have ok1 := num_in (most := 160000000000) (by omega) ok0
    have okN := angN_in ok0
    have bW := angW_in (m := m) (a := a) (n := n)
    have bM := angM_in (m := m) (a := a) (n := n)
    unfold angTup at hr
    have hA : angN m a n = angN m a n := rfl
    have hW : angW m a n = amV angL (pkV m a n 7 (angN m a n).2) := rfl
    have hMm : angM m a n = if 0 < angW m a n then (angN m a n).1 + amV [0, angW m a n, angW m a n / 2, angW m a n / 3] (pkV m a n 4 (pkN m a n 7 (angN m a n).2)) else (angN m a n).1 := rfl
    conv at hA => rhs; unfold angN
    obtain ⟨s0, hs0⟩ : ∃ s0, num m a n 160000000000 ⟨0, 0⟩ = s0 := ⟨_, rfl⟩
    rw [hs0] at ok1 hA
    have ok2 := pkN_ok (k := 3) ok1.2.2
    obtain ⟨s1, hs1⟩ : ∃ s1, pkN m a n 3 s0.2 = s1 := ⟨_, rfl⟩
    rw [hs1] at ok2 hA
    have hb := pkV_in (m := m) (a := a) (n := n) (k := 20) (x := s1)
    have hb2 := hb.2 (by omega)
    have ok3 := pkN_ok (k := 20) ok2
    obtain ⟨N, hN1⟩ : ∃ N, (angN m a n).1 = N := ⟨_, rfl⟩
    obtain ⟨s2, hs2⟩ : ∃ s2, (angN m a n).2 = s2 := ⟨_, rfl⟩
    have ok4 := pkN_ok (k := 7) okN.2.2
    obtain ⟨W, hW1⟩ : ∃ W, angW m a n = W := ⟨_, rfl⟩
    obtain ⟨A, hA1⟩ : ∃ A, angM m a n = A := ⟨_, rfl⟩
    simp only [hs2] at okN ok4 hW hMm
    simp only [hN1] at okN bM hr hMm
    simp only [hW1] at bW bM hr hW hMm
    simp only [hA1] at bM hr hMm
    subst hr
    have pr0 : SrOk m a n 900000000 s0.2 := ok1.2.2.mono (by omega)
    have pr1 : SrOk m a n 900000000 s1 := ok2.mono (by omega)
    have pr2 : SrOk m a n 900000000 s2 := okN.2.2.mono (by omega)
    have pr3 : SrOk m a n 900000000 (pkN m a n 7 s2) := ok4.mono (by omega)
    have pr8 : SrOk m a n 800000000 ⟨0, 0⟩ := ok0.mono (by omega)
    have hQ : amQ 7 (some [PC.int .i64 0, PC.int .i64 1, PC.int .i64 5, PC.int .i64 1000000, PC.int .i64 3000000000, PC.int .i64 8000000000, PC.int .i64 30000000000]) = some angL := rfl
    have hQ4 : amQ 4 (some [PC.int .i64 0, PC.int .i64 W, PC.int .i64 (W / 2), PC.int .i64 (W / 3)]) = some [0, W, W / 2, W / 3] := rfl
    have hl : ((angL.length : Nat) : Int) = 7 := rfl
    have hl4 : (([0, W, W / 2, W / 3].length : Nat) : Int) = 4 := rfl
    have z2 : decide ((2 : Int) = 0) = false := by decide
    have z3 : decide ((3 : Int) = 0) = false := by decide
    have d2 : W.tdiv 2 = W / 2 := Int.tdiv_eq_ediv_of_nonneg (by omega)
    have d3 : W.tdiv 3 = W / 3 := Int.tdiv_eq_ediv_of_nonneg (by omega)
    have w2 : IntKind.i64.wrap (W / 2) = W / 2 := wrap_om (by omega) (by omega)
    have w3 : IntKind.i64.wrap (W / 3) = W / 3 := wrap_om (by omega) (by omega)
    have w4 : IntKind.i64.wrap (N + W) = N + W := wrap_om (by omega) (by omega)
    have w5 : IntKind.i64.wrap (pkV m a n 20 s1 - 10) = pkV m a n 20 s1 - 10 := wrap_om (by omega) (by omega)
    by_cases c1 : pkV m a n 3 s0.2 = 0
    · have e1 : decide (pkV m a n 3 s0.2 = 0) = true := by simpa using c1
      rw [if_pos c1] at hA
      have hT : (turnA (pkV m a n 20 s1 - 10)).lo = N := by rw [← hN1, hA]
      have hS : pkN m a n 20 s1 = s2 := by rw [← hs2, hA]
      by_cases c2 : 0 < W
      · have e2 : decide (0 < W) = true := by simpa using c2
        rw [if_pos c2] at hMm
        have w6 : IntKind.i64.wrap (N + amV [0, W, W / 2, W / 3] (pkV m a n 4 (pkN m a n 7 s2))) = A := by rw [← hMm]; exact wrap_om (by omega) (by omega)
        simp (config := { maxSteps := 4000000, implicitDefEqProofs := false }) only [F_turnA_eq, WK0, WK1, WK2, WK3, WK4, WK5, WK6, WK7, WK8, WK9, WK10, WK11, WK12, WK13, WK14, WK15, WK16, WK17, WK18, WK19, WK20, WK21, WK22, WK23, WK24, WK25, WK26, WK27, WK28, look_hit, look_miss, List.map_cons, List.map_nil, Nat.add_zero, max_v, min_v, ↓cnd_t, ↓cnd_f, ↓grd_b, ↓grd_u, startEnv, Option.map_some, List.length_nil, List.length_cons, List.nil_append, List.cons_append, List.getElem?_cons_zero, List.getElem?_cons_succ, List.set_cons_zero, List.set_cons_succ, Bool.not_true, Bool.not_false, reduceIte, Nat.reduceEqDiff, Nat.reduceAdd, Nat.reduceLT, blt_lit, beq_lit, Bool.or_true, Bool.true_or, Bool.or_false, Bool.false_or, Bool.and_true, Bool.true_and, Bool.and_self, cond_true, cond_false, List.append_nil, Iv.eta, Option.map_none, idxO_l0, idxO_l1, decide_true, decide_false, reqs_true, Int.zero_sub, wrap_lit, wrapu_lit, Int.reduceLE, Int.reduceLT, Int.reduceAdd, Int.reduceSub, Int.reduceMul, Int.reduceNeg, Int.reduceEq, Option.bind_some, bin_shr_u64, bin_shl_u64, bin_shr_i64, bin_shl_i64, and_m32', Int.reduceToNat, Int.reducePow, Int.reduceMod, Int.reduceDiv, wrap_u64s, true_or, or_true, true_and, and_true, Option.isSome_none, Option.isSome_some, Nat.reduceLeDiff, Nat.reduceMul, Int.toNat_natCast, Int.cast_ofNat_Int, Int.natCast_zero, Int.natCast_one, List.isEmpty_nil, List.isEmpty_cons, List.replicate_zero, List.replicate_succ, T1, T2, T3, T4, T5, T6, T9, T10, T11, T12, T21, T22, T23, T24, T26, T27, T28, T29, T30, T31, T32, T33, T34, T35, T37, T38, T39, T40, T42, T43, T44, T45, T46, T47, T48, T50, T52, T54, T55, T56, T57, T58, T59, T60, T61, T62, T63, T64, T65, T66, T67, T68, T69, T70, T71, T72, T73, T75, T77, T78, T79, T80, T82, T83, T84, T85, T87, T89, T90, T91, T92, T95, T97, T103, T104, T105, T106, T107, T109, T110, M_from_eq, M_number_eq, M_pick_eq, pkO_some, M_one_eq, oneO_some, M_among_eq, amO_some, srOf_C, numO_some, hQ, hQ4, hl, hl4, hs0, hs1, e1, e2, hT, hS, ← hW, bin_quo_c, z2, z3, d2, d3, w2, w3, w4, w5, w6, concat_set, concat_get, box1, box1s, box2, box3, box3s, box4, box5, box5s]
        repeat' (first | with_reducible refine cnd_split (fun hc => ?_) (fun hc => ?_) | with_reducible refine Reqs.mk ?_ ?_)
        all_goals first | trivial | (exact ⟨pr8, by omega, by omega⟩) | (exact ⟨pr2, by decide, by decide⟩) | (exact ⟨pr3, by simp, by simp⟩) | (constructor <;> omega) | skip
        all_goals (simp only [List.append_assoc]; exact endM_tup2)
      · have e2 : decide (0 < W) = false := by simpa using c2
        rw [if_neg c2] at hMm
        subst hMm
        simp (config := { maxSteps := 4000000, implicitDefEqProofs := false }) only [F_turnA_eq, WK0, WK1, WK2, WK3, WK4, WK5, WK6, WK7, WK8, WK9, WK10, WK11, WK12, WK13, WK14, WK15, WK16, WK17, WK18, WK19, WK20, WK21, WK22, WK23, WK24, WK25, WK26, WK27, WK28, look_hit, look_miss, List.map_cons, List.map_nil, Nat.add_zero, max_v, min_v, ↓cnd_t, ↓cnd_f, ↓grd_b, ↓grd_u, startEnv, Option.map_some, List.length_nil, List.length_cons, List.nil_append, List.cons_append, List.getElem?_cons_zero, List.getElem?_cons_succ, List.set_cons_zero, List.set_cons_succ, Bool.not_true, Bool.not_false, reduceIte, Nat.reduceEqDiff, Nat.reduceAdd, Nat.reduceLT, blt_lit, beq_lit, Bool.or_true, Bool.true_or, Bool.or_false, Bool.false_or, Bool.and_true, Bool.true_and, Bool.and_self, cond_true, cond_false, List.append_nil, Iv.eta, Option.map_none, idxO_l0, idxO_l1, decide_true, decide_false, reqs_true, Int.zero_sub, wrap_lit, wrapu_lit, Int.reduceLE, Int.reduceLT, Int.reduceAdd, Int.reduceSub, Int.reduceMul, Int.reduceNeg, Int.reduceEq, Option.bind_some, bin_shr_u64, bin_shl_u64, bin_shr_i64, bin_shl_i64, and_m32', Int.reduceToNat, Int.reducePow, Int.reduceMod, Int.reduceDiv, wrap_u64s, true_or, or_true, true_and, and_true, Option.isSome_none, Option.isSome_some, Nat.reduceLeDiff, Nat.reduceMul, Int.toNat_natCast, Int.cast_ofNat_Int, Int.natCast_zero, Int.natCast_one, List.isEmpty_nil, List.isEmpty_cons, List.replicate_zero, List.replicate_succ, T1, T2, T3, T4, T5, T6, T9, T10, T11, T12, T21, T22, T23, T24, T26, T27, T28, T29, T30, T31, T32, T33, T34, T35, T37, T38, T39, T40, T42, T43, T44, T45, T46, T47, T48, T50, T52, T54, T55, T56, T57, T58, T59, T60, T61, T62, T63, T64, T65, T66, T67, T68, T69, T70, T71, T72, T73, T75, T77, T78, T79, T80, T82, T83, T84, T85, T87, T89, T90, T91, T92, T95, T97, T103, T104, T105, T106, T107, T109, T110, M_from_eq, M_number_eq, M_pick_eq, pkO_some, M_one_eq, oneO_some, M_among_eq, amO_some, srOf_C, numO_some, hQ, hQ4, hl, hl4, hs0, hs1, e1, e2, hT, hS, ← hW, bin_quo_c, z2, z3, d2, d3, w2, w3, w4, w5, e2, concat_set, concat_get, box1, box1s, box2, box3, box3s, box4, box5, box5s]
        repeat' (first | with_reducible refine cnd_split (fun hc => ?_) (fun hc => ?_) | with_reducible refine Reqs.mk ?_ ?_)
        all_goals first | trivial | (exact ⟨pr8, by omega, by omega⟩) | (exact ⟨pr2, by decide, by decide⟩) | (exact ⟨pr3, by simp, by simp⟩) | (constructor <;> omega) | skip
        all_goals (simp only [List.append_assoc]; exact endM_tup2)
    · have e1 : decide (pkV m a n 3 s0.2 = 0) = false := by simpa using c1
      rw [if_neg c1] at hA
      have hT : s0.1 = N := by rw [← hN1, hA]
      have hS : s1 = s2 := by rw [← hs2, hA]
      by_cases c2 : 0 < W
      · have e2 : decide (0 < W) = true := by simpa using c2
        rw [if_pos c2] at hMm
        have w6 : IntKind.i64.wrap (N + amV [0, W, W / 2, W / 3] (pkV m a n 4 (pkN m a n 7 s2))) = A := by rw [← hMm]; exact wrap_om (by omega) (by omega)
        simp (config := { maxSteps := 4000000, implicitDefEqProofs := false }) only [F_turnA_eq, WK0, WK1, WK2, WK3, WK4, WK5, WK6, WK7, WK8, WK9, WK10, WK11, WK12, WK13, WK14, WK15, WK16, WK17, WK18, WK19, WK20, WK21, WK22, WK23, WK24, WK25, WK26, WK27, WK28, look_hit, look_miss, List.map_cons, List.map_nil, Nat.add_zero, max_v, min_v, ↓cnd_t, ↓cnd_f, ↓grd_b, ↓grd_u, startEnv, Option.map_some, List.length_nil, List.length_cons, List.nil_append, List.cons_append, List.getElem?_cons_zero, List.getElem?_cons_succ, List.set_cons_zero, List.set_cons_succ, Bool.not_true, Bool.not_false, reduceIte, Nat.reduceEqDiff, Nat.reduceAdd, Nat.reduceLT, blt_lit, beq_lit, Bool.or_true, Bool.true_or, Bool.or_false, Bool.false_or, Bool.and_true, Bool.true_and, Bool.and_self, cond_true, cond_false, List.append_nil, Iv.eta, Option.map_none, idxO_l0, idxO_l1, decide_true, decide_false, reqs_true, Int.zero_sub, wrap_lit, wrapu_lit, Int.reduceLE, Int.reduceLT, Int.reduceAdd, Int.reduceSub, Int.reduceMul, Int.reduceNeg, Int.reduceEq, Option.bind_some, bin_shr_u64, bin_shl_u64, bin_shr_i64, bin_shl_i64, and_m32', Int.reduceToNat, Int.reducePow, Int.reduceMod, Int.reduceDiv, wrap_u64s, true_or, or_true, true_and, and_true, Option.isSome_none, Option.isSome_some, Nat.reduceLeDiff, Nat.reduceMul, Int.toNat_natCast, Int.cast_ofNat_Int, Int.natCast_zero, Int.natCast_one, List.isEmpty_nil, List.isEmpty_cons, List.replicate_zero, List.replicate_succ, T1, T2, T3, T4, T5, T6, T9, T10, T11, T12, T21, T22, T23, T24, T26, T27, T28, T29, T30, T31, T32, T33, T34, T35, T37, T38, T39, T40, T42, T43, T44, T45, T46, T47, T48, T50, T52, T54, T55, T56, T57, T58, T59, T60, T61, T62, T63, T64, T65, T66, T67, T68, T69, T70, T71, T72, T73, T75, T77, T78, T79, T80, T82, T83, T84, T85, T87, T89, T90, T91, T92, T95, T97, T103, T104, T105, T106, T107, T109, T110, M_from_eq, M_number_eq, M_pick_eq, pkO_some, M_one_eq, oneO_some, M_among_eq, amO_some, srOf_C, numO_some, hQ, hQ4, hl, hl4, hs0, hs1, e1, e2, hT, hS, ← hW, bin_quo_c, z2, z3, d2, d3, w2, w3, w4, w5, w6, concat_set, concat_get, box1, box1s, box2, box3, box3s, box4, box5, box5s]
        repeat' (first | with_reducible refine cnd_split (fun hc => ?_) (fun hc => ?_) | with_reducible refine Reqs.mk ?_ ?_)
        all_goals first | trivial | (exact ⟨pr8, by omega, by omega⟩) | (exact ⟨pr2, by decide, by decide⟩) | (exact ⟨pr3, by simp, by simp⟩) | (constructor <;> omega) | skip
        all_goals (simp only [List.append_assoc]; exact endM_tup2)
      · have e2 : decide (0 < W) = false := by simpa using c2
        rw [if_neg c2] at hMm
        subst hMm
        simp (config := { maxSteps := 4000000, implicitDefEqProofs := false }) only [F_turnA_eq, WK0, WK1, WK2, WK3, WK4, WK5, WK6, WK7, WK8, WK9, WK10, WK11, WK12, WK13, WK14, WK15, WK16, WK17, WK18, WK19, WK20, WK21, WK22, WK23, WK24, WK25, WK26, WK27, WK28, look_hit, look_miss, List.map_cons, List.map_nil, Nat.add_zero, max_v, min_v, ↓cnd_t, ↓cnd_f, ↓grd_b, ↓grd_u, startEnv, Option.map_some, List.length_nil, List.length_cons, List.nil_append, List.cons_append, List.getElem?_cons_zero, List.getElem?_cons_succ, List.set_cons_zero, List.set_cons_succ, Bool.not_true, Bool.not_false, reduceIte, Nat.reduceEqDiff, Nat.reduceAdd, Nat.reduceLT, blt_lit, beq_lit, Bool.or_true, Bool.true_or, Bool.or_false, Bool.false_or, Bool.and_true, Bool.true_and, Bool.and_self, cond_true, cond_false, List.append_nil, Iv.eta, Option.map_none, idxO_l0, idxO_l1, decide_true, decide_false, reqs_true, Int.zero_sub, wrap_lit, wrapu_lit, Int.reduceLE, Int.reduceLT, Int.reduceAdd, Int.reduceSub, Int.reduceMul, Int.reduceNeg, Int.reduceEq, Option.bind_some, bin_shr_u64, bin_shl_u64, bin_shr_i64, bin_shl_i64, and_m32', Int.reduceToNat, Int.reducePow, Int.reduceMod, Int.reduceDiv, wrap_u64s, true_or, or_true, true_and, and_true, Option.isSome_none, Option.isSome_some, Nat.reduceLeDiff, Nat.reduceMul, Int.toNat_natCast, Int.cast_ofNat_Int, Int.natCast_zero, Int.natCast_one, List.isEmpty_nil, List.isEmpty_cons, List.replicate_zero, List.replicate_succ, T1, T2, T3, T4, T5, T6, T9, T10, T11, T12, T21, T22, T23, T24, T26, T27, T28, T29, T30, T31, T32, T33, T34, T35, T37, T38, T39, T40, T42, T43, T44, T45, T46, T47, T48, T50, T52, T54, T55, T56, T57, T58, T59, T60, T61, T62, T63, T64, T65, T66, T67, T68, T69, T70, T71, T72, T73, T75, T77, T78, T79, T80, T82, T83, T84, T85, T87, T89, T90, T91, T92, T95, T97, T103, T104, T105, T106, T107, T109, T110, M_from_eq, M_number_eq, M_pick_eq, pkO_some, M_one_eq, oneO_some, M_among_eq, amO_some, srOf_C, numO_some, hQ, hQ4, hl, hl4, hs0, hs1, e1, e2, hT, hS, ← hW, bin_quo_c, z2, z3, d2, d3, w2, w3, w4, w5, e2, concat_set, concat_get, box1, box1s, box2, box3, box3s, box4, box5, box5s]
        repeat' (first | with_reducible refine cnd_split (fun hc => ?_) (fun hc => ?_) | with_reducible refine Reqs.mk ?_ ?_)
        all_goals first | trivial | (exact ⟨pr8, by omega, by omega⟩) | (exact ⟨pr2, by decide, by decide⟩) | (exact ⟨pr3, by simp, by simp⟩) | (constructor <;> omega) | skip
        all_goals (simp only [List.append_assoc]; exact endM_tup2)
  · cases hM

end Go.Proofs.YtcnapkdccjibpaaGreat.Eng
