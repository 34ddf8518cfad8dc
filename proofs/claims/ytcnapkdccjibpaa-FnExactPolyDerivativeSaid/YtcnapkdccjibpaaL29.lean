/- What functions of the program compute, and that the program computes it: part 29. -/
import Derived.Test.YtcnapkdccjibpaaTab
import Derived.Test.YtcnapkdccjibpaaEng16
import Derived.Laws.BitsLemmas
import Derived.Laws.Bits64
import Derived.Laws.Bits64b
import Derived.Lib.Mul64
import Derived.Lib.BitFns
import Derived.Laws.Externs
import Derived.Test.YtcnapkdccjibpaaL1
import Derived.Test.YtcnapkdccjibpaaL2
import Derived.Test.YtcnapkdccjibpaaL3
import Derived.Test.YtcnapkdccjibpaaL19
import Derived.Test.YtcnapkdccjibpaaL24
import Derived.Test.YtcnapkdccjibpaaL26
import Derived.Test.YtcnapkdccjibpaaL27
import Derived.Test.YtcnapkdccjibpaaL28
namespace Go.Proofs.Ytcnapkdccjibpaa.Eng
open Go Go.RowKit
set_option linter.unusedVariables false
set_option linter.unusedSimpArgs false
set_option maxRecDepth 100000
set_option maxHeartbeats 1000000
-- laws.FnExactValidPoly
theorem laws_FnExactValidPoly_lawValidPoly_ok : Mn Try.prog 3 M_lawValidPoly := by
  refine mn_of_go (O := orcM [] [⟨8, M_szS, false, no_one, laws_szIntervalS_szS_ok⟩, ⟨9, M_pok, true, fun _ => one_pok, spec_ValidPoly_pok_ok⟩, ⟨10, M_toS, false, no_one, laws_toIntervalS_toS_ok⟩, ⟨11, M_pok, true, fun _ => one_pok, impl_ValidPoly_pok_ok⟩, ⟨12, M_eqS, false, no_one, laws_eqIntervalS_eqS_ok⟩]) mixed T_ok (orcM_sound _ _) Try.func3 (by kernel_rfl) rfl Try.ntmps3 (by kernel_rfl) Try.results3 ?_
  intro m args hp pre r h' hM hpre
  unfold M_lawValidPoly at hM
  split at hM
  · rename_i a n c
    simp only [Option.some.injEq, Prod.mk.injEq] at hM
    obtain ⟨rfl, hr, hh⟩ := hM
    subst hh hr
    obtain ⟨k1, k2⟩ := hpre
    refine ⟨by simp, ?_⟩
    by_cases c0 : (n : Int) ≤ 1048576
    · obtain ⟨D, hD⟩ : ∃ D : Int, (if (1048576 : Int) - (n : Int) < 0 then -1 else 1048576 - (n : Int)) = D := ⟨_, rfl⟩
      rw [if_neg (by omega)] at hD
      have e0 : decide (D < 0) = false := by simp only [decide_eq_false_iff_not]; omega
      have hD' : (if (1048576 : Int) - (n : Int) < 0 then -1 else 1048576 - (n : Int)) = D := by rw [if_neg (by omega)]; exact hD
      obtain ⟨L, hL⟩ : ∃ L, ivsAt m a n = L := ⟨_, rfl⟩
      have e1 : (pok L == pok L) = true := by simp
      have e2 := eqL_refl L
      by_cases hn : n = 0
      · have er : ∀ k, rowE k n = .emp k 0 := fun k => by unfold rowE; rw [if_pos hn]
        have hL0 : L = [] := by rw [← hL, hn]; rfl
        rw [hL0] at e1 e2 hL
        simp (config := { maxSteps := 4000000, implicitDefEqProofs := false }) only [WK0, WK1, WK2, WK3, WK4, WK5, WK6, WK7, WK8, WK9, WK10, WK11, WK12, WK13, WK14, WK15, WK16, WK17, WK18, WK19, WK20, WK21, WK22, WK23, WK24, WK25, WK26, WK27, WK28, look_hit, look_miss, List.map_cons, List.map_nil, Nat.add_zero, max_v, min_v, ↓cnd_t, ↓cnd_f, ↓grd_b, ↓grd_u, startEnv, Option.map_some, List.length_nil, List.length_cons, List.nil_append, List.cons_append, List.getElem?_cons_zero, List.getElem?_cons_succ, List.set_cons_zero, List.set_cons_succ, Bool.not_true, Bool.not_false, reduceIte, Nat.reduceEqDiff, Nat.reduceAdd, Nat.reduceLT, blt_lit, beq_lit, Bool.or_true, Bool.true_or, Bool.or_false, Bool.false_or, Bool.and_true, Bool.true_and, Bool.and_self, cond_true, cond_false, List.append_nil, Iv.eta, Option.map_none, idxO_l0, idxO_l1, decide_true, decide_false, reqs_true, Int.zero_sub, wrap_lit, wrapu_lit, Int.reduceLE, Int.reduceLT, Int.reduceAdd, Int.reduceSub, Int.reduceMul, Int.reduceNeg, Int.reduceEq, Option.bind_some, bin_shr_u64, bin_shl_u64, bin_shr_i64, bin_shl_i64, and_m32', Int.reduceToNat, Int.reducePow, Int.reduceMod, Int.reduceDiv, wrap_u64s, true_or, or_true, true_and, and_true, Option.isSome_none, Option.isSome_some, Nat.reduceLeDiff, Nat.reduceMul, Int.toNat_natCast, Int.cast_ofNat_Int, Int.natCast_zero, Int.natCast_one, List.isEmpty_nil, List.isEmpty_cons, List.replicate_zero, List.replicate_succ, T1, T2, T3, T4, T5, T6, T9, T10, T11, T12, T21, T22, T23, T24, T25, T26, T27, T28, T30, T31, T32, T33, T34, T35, T36, T37, T38, T39, T40, T41, T42, T44, T45, T46, T47, T48, T49, T50, T51, T52, T53, T55, T56, T57, T58, T59, T60, T61, T63, T64, T66, T67, T68, T69, T70, T71, T72, T73, T74, T75, T76, T77, T78, T79, T80, T81, T82, T83, T84, T86, T87, T88, T89, T91, T93, T94, T95, T98, T100, T106, T107, T108, T109, T110, T112, T113, M_szS_eq, hD', e0, M_toS_eq, er, hL, rowOf_emp, M_pok_eq, boolO_some, e1, M_eqS_eq, eqO_some, e2]
        repeat' (first | with_reducible refine cnd_split (fun hc => ?_) (fun hc => ?_) | with_reducible refine Reqs.mk ?_ ?_)
        all_goals first | trivial | exact end_true | exact ⟨by omega, by omega, by omega⟩ | exact ⟨k1, by omega⟩
      · have er : ∀ k, rowE k n = .row k 0 n 2 := fun k => by unfold rowE; rw [if_neg hn]
        have hQ := @rowQ_at m a n (by omega) (by omega)
        rw [hL] at hQ
        simp (config := { maxSteps := 4000000, implicitDefEqProofs := false }) only [WK0, WK1, WK2, WK3, WK4, WK5, WK6, WK7, WK8, WK9, WK10, WK11, WK12, WK13, WK14, WK15, WK16, WK17, WK18, WK19, WK20, WK21, WK22, WK23, WK24, WK25, WK26, WK27, WK28, look_hit, look_miss, List.map_cons, List.map_nil, Nat.add_zero, max_v, min_v, ↓cnd_t, ↓cnd_f, ↓grd_b, ↓grd_u, startEnv, Option.map_some, List.length_nil, List.length_cons, List.nil_append, List.cons_append, List.getElem?_cons_zero, List.getElem?_cons_succ, List.set_cons_zero, List.set_cons_succ, Bool.not_true, Bool.not_false, reduceIte, Nat.reduceEqDiff, Nat.reduceAdd, Nat.reduceLT, blt_lit, beq_lit, Bool.or_true, Bool.true_or, Bool.or_false, Bool.false_or, Bool.and_true, Bool.true_and, Bool.and_self, cond_true, cond_false, List.append_nil, Iv.eta, Option.map_none, idxO_l0, idxO_l1, decide_true, decide_false, reqs_true, Int.zero_sub, wrap_lit, wrapu_lit, Int.reduceLE, Int.reduceLT, Int.reduceAdd, Int.reduceSub, Int.reduceMul, Int.reduceNeg, Int.reduceEq, Option.bind_some, bin_shr_u64, bin_shl_u64, bin_shr_i64, bin_shl_i64, and_m32', Int.reduceToNat, Int.reducePow, Int.reduceMod, Int.reduceDiv, wrap_u64s, true_or, or_true, true_and, and_true, Option.isSome_none, Option.isSome_some, Nat.reduceLeDiff, Nat.reduceMul, Int.toNat_natCast, Int.cast_ofNat_Int, Int.natCast_zero, Int.natCast_one, List.isEmpty_nil, List.isEmpty_cons, List.replicate_zero, List.replicate_succ, T1, T2, T3, T4, T5, T6, T9, T10, T11, T12, T21, T22, T23, T24, T25, T26, T27, T28, T30, T31, T32, T33, T34, T35, T36, T37, T38, T39, T40, T41, T42, T44, T45, T46, T47, T48, T49, T50, T51, T52, T53, T55, T56, T57, T58, T59, T60, T61, T63, T64, T66, T67, T68, T69, T70, T71, T72, T73, T74, T75, T76, T77, T78, T79, T80, T81, T82, T83, T84, T86, T87, T88, T89, T91, T93, T94, T95, T98, T100, T106, T107, T108, T109, T110, T112, T113, M_szS_eq, hD', e0, M_toS_eq, er, hL, rowOf_row, ivsC_cells, hQ, M_pok_eq, boolO_some, e1, M_eqS_eq, eqO_some, e2]
        repeat' (first | with_reducible refine cnd_split (fun hc => ?_) (fun hc => ?_) | with_reducible refine Reqs.mk ?_ ?_)
        all_goals first | trivial | exact end_true | exact ⟨by omega, by omega, by omega⟩ | exact ⟨k1, by omega⟩
    · have hD' : (if (1048576 : Int) - (n : Int) < 0 then -1 else 1048576 - (n : Int)) = -1 := by rw [if_pos (by omega)]
      have e0 : decide ((-1 : Int) < 0) = true := by decide
      simp (config := { maxSteps := 4000000, implicitDefEqProofs := false }) only [WK0, WK1, WK2, WK3, WK4, WK5, WK6, WK7, WK8, WK9, WK10, WK11, WK12, WK13, WK14, WK15, WK16, WK17, WK18, WK19, WK20, WK21, WK22, WK23, WK24, WK25, WK26, WK27, WK28, look_hit, look_miss, List.map_cons, List.map_nil, Nat.add_zero, max_v, min_v, ↓cnd_t, ↓cnd_f, ↓grd_b, ↓grd_u, startEnv, Option.map_some, List.length_nil, List.length_cons, List.nil_append, List.cons_append, List.getElem?_cons_zero, List.getElem?_cons_succ, List.set_cons_zero, List.set_cons_succ, Bool.not_true, Bool.not_false, reduceIte, Nat.reduceEqDiff, Nat.reduceAdd, Nat.reduceLT, blt_lit, beq_lit, Bool.or_true, Bool.true_or, Bool.or_false, Bool.false_or, Bool.and_true, Bool.true_and, Bool.and_self, cond_true, cond_false, List.append_nil, Iv.eta, Option.map_none, idxO_l0, idxO_l1, decide_true, decide_false, reqs_true, Int.zero_sub, wrap_lit, wrapu_lit, Int.reduceLE, Int.reduceLT, Int.reduceAdd, Int.reduceSub, Int.reduceMul, Int.reduceNeg, Int.reduceEq, Option.bind_some, bin_shr_u64, bin_shl_u64, bin_shr_i64, bin_shl_i64, and_m32', Int.reduceToNat, Int.reducePow, Int.reduceMod, Int.reduceDiv, wrap_u64s, true_or, or_true, true_and, and_true, Option.isSome_none, Option.isSome_some, Nat.reduceLeDiff, Nat.reduceMul, Int.toNat_natCast, Int.cast_ofNat_Int, Int.natCast_zero, Int.natCast_one, List.isEmpty_nil, List.isEmpty_cons, List.replicate_zero, List.replicate_succ, T1, T2, T3, T4, T5, T6, T9, T10, T11, T12, T21, T22, T23, T24, T25, T26, T27, T28, T30, T31, T32, T33, T34, T35, T36, T37, T38, T39, T40, T41, T42, T44, T45, T46, T47, T48, T49, T50, T51, T52, T53, T55, T56, T57, T58, T59, T60, T61, T63, T64, T66, T67, T68, T69, T70, T71, T72, T73, T74, T75, T76, T77, T78, T79, T80, T81, T82, T83, T84, T86, T87, T88, T89, T91, T93, T94, T95, T98, T100, T106, T107, T108, T109, T110, T112, T113, M_szS_eq, hD', e0]
      repeat' (first | with_reducible refine cnd_split (fun hc => ?_) (fun hc => ?_) | with_reducible refine Reqs.mk ?_ ?_)
      all_goals first | trivial | exact end_true | exact ⟨by omega, by omega, by omega⟩
  · cases hM
theorem law_FnExactValidPoly : Mn Try.prog 3 M_lawValidPoly := laws_FnExactValidPoly_lawValidPoly_ok

-- slices.Clone
def M_clone : MT := fun m args h => match args with
  | [.c (.row i 0 n 2)] => (rowQ n ((h[i]?).bind ivsC)).bind fun L => some (True, .v (.c (.row h.length 0 n 2)), h ++ [cellsI L])
  | _ => none
theorem M_clone_eq {m : Addr → Option PC} {h : Heap} {i n : Nat} : M_clone m [.c (.row i 0 n 2)] h = (rowQ n ((h[i]?).bind ivsC)).bind fun L => some (True, .v (.c (.row h.length 0 n 2)), h ++ [cellsI L]) := rfl
theorem app_emp {h : Heap} {i j o n : Nat} {L : List Iv} {m : Addr → Option PC} (hj : h[j]? = some (cellsI L)) (hn : n = L.length) (h0 : 0 < n) (h1 : n ≤ 1048576) :
    appO h m (some (tdRow [PC.int .i64 0, PC.int .i64 0])) (some [.c (.emp i o), .c (.row j 0 n 2)]) = some (some (.v (.c (.row h.length 0 n 2))), h ++ [cellsI L]) := by
  subst hn
  have hl := cellsI_len L
  have hne : cellsI L ≠ [] := by intro e; rw [e] at hl; simp at hl; omega
  have hz : (tdRow [PC.int IntKind.i64 0, PC.int IntKind.i64 0]).ez1.length = 2 := rfl
  have hrc : rowCells 2 h m (.c (.row j 0 L.length 2)) = some (L.length, cellsI L) := by
    simp only [rowCells]
    rw [if_pos trivial, hj]
    simp only
    rw [if_pos ⟨by omega, hne⟩, List.drop_zero, ← hl, List.take_length]
  simp only [appO, row_row, if_true, hz, hrc, appF]
  rw [if_pos ⟨hl, h0, h1⟩]
theorem slices_Clone_clone_ok : Mn Try.prog 38 M_clone := by
  refine mn_of_go (O := orc []) mixed T_ok (orc_sound _) Try.func38 (by kernel_rfl) rfl Try.ntmps38 (by kernel_rfl) Try.results38 ?_
  intro m args hp pre r h' hM hpre
  unfold M_clone at hM
  split at hM
  · rename_i i n
    rw [Option.bind_eq_some_iff] at hM
    obtain ⟨L, hq, hM⟩ := hM
    simp only [Option.some.injEq, Prod.mk.injEq] at hM
    obtain ⟨rfl, hr, hh⟩ := hM
    subst hr hh
    rcases rowOf_out (h := hp) (sl := .row i 0 n 2) hq with ⟨i', he, hi, hL0, hL1⟩ | ⟨rfl, _, _, he⟩ | ⟨rfl, he⟩
    · simp only [Cl.row.injEq] at he
      obtain ⟨rfl, -, rfl, -⟩ := he
      refine ⟨by simp, ?_⟩
      have ha := @app_emp (hp ++ [[]]) hp.length i 0 L.length L m (setB_get hi _) rfl hL0 hL1
      have hlen : (hp ++ [([] : List PC)]).length = hp.length + 1 := by simp
      simp (config := { maxSteps := 4000000, implicitDefEqProofs := false }) only [WK0, WK1, WK2, WK3, WK4, WK5, WK6, WK7, WK8, WK9, WK10, WK11, WK12, WK13, WK14, WK15, WK16, WK17, WK18, WK19, WK20, WK21, WK22, WK23, WK24, WK25, WK26, WK27, WK28, look_hit, look_miss, List.map_cons, List.map_nil, Nat.add_zero, max_v, min_v, ↓cnd_t, ↓cnd_f, ↓grd_b, ↓grd_u, startEnv, Option.map_some, List.length_nil, List.length_cons, List.nil_append, List.cons_append, List.getElem?_cons_zero, List.getElem?_cons_succ, List.set_cons_zero, List.set_cons_succ, Bool.not_true, Bool.not_false, reduceIte, Nat.reduceEqDiff, Nat.reduceAdd, Nat.reduceLT, blt_lit, beq_lit, Bool.or_true, Bool.true_or, Bool.or_false, Bool.false_or, Bool.and_true, Bool.true_and, Bool.and_self, cond_true, cond_false, List.append_nil, Iv.eta, Option.map_none, idxO_l0, idxO_l1, decide_true, decide_false, reqs_true, Int.zero_sub, wrap_lit, wrapu_lit, Int.reduceLE, Int.reduceLT, Int.reduceAdd, Int.reduceSub, Int.reduceMul, Int.reduceNeg, Int.reduceEq, Option.bind_some, bin_shr_u64, bin_shl_u64, bin_shr_i64, bin_shl_i64, and_m32', Int.reduceToNat, Int.reducePow, Int.reduceMod, Int.reduceDiv, wrap_u64s, true_or, or_true, true_and, and_true, Option.isSome_none, Option.isSome_some, Nat.reduceLeDiff, Nat.reduceMul, Int.toNat_natCast, Int.cast_ofNat_Int, Int.natCast_zero, Int.natCast_one, List.isEmpty_nil, List.isEmpty_cons, List.replicate_zero, List.replicate_succ, T1, T2, T3, T4, T5, T6, T9, T10, T11, T12, T21, T22, T23, T24, T25, T26, T27, T28, T30, T31, T32, T33, T34, T35, T36, T37, T38, T39, T40, T41, T42, T44, T45, T46, T47, T48, T49, T50, T51, T52, T53, T55, T56, T57, T58, T59, T60, T61, T63, T64, T66, T67, T68, T69, T70, T71, T72, T73, T74, T75, T76, T77, T78, T79, T80, T81, T82, T83, T84, T86, T87, T88, T89, T91, T93, T94, T95, T98, T100, T106, T107, T108, T109, T110, T112, T113, ha, hlen]
      refine ⟨⟨[hp.length + 1], ?_, ?_, by simp, by simp, by simp, by simp, ?_⟩⟩
      · simp [resSV, SV.ren, AV.ren]
      · show hp.length < hp.length + 1
        omega
      · intro j k ds hj hd hne
        cases j with
        | succ j => simp at hj
        | zero =>
          simp at hj hd
          subst hj; subst hd
          refine ⟨?_, by omega⟩
          rw [List.append_assoc, bx_get]
          rfl
    · cases he
    · cases he
  · cases hM

-- rowend
theorem endM_rowT {L : Nat} {h hp : Heap} {sl : Cl} {z n : Nat} {cs : List PC} {x : PC} (hR : RowAt L h sl z n cs) (hL : hp.length ≤ L + 1) (hl : hp.length ≤ h.length) (ht : h.take hp.length = hp) :
    endM hp.length (.tup [.c (rowR hp.length z n), .c (.p x)]) (rowH hp n cs) h (some [.c sl, .c (.p x)]) := by
  rcases hR with ⟨rfl, rfl, rfl⟩ | ⟨hn0, hlen, i, rfl, hi, hcs⟩
  · refine endM_same rfl ?_ rfl rfl hl ht
    intro y hy
    simp [rowR] at hy
    rcases hy with rfl | rfl <;> trivial
  · have e1 : rowR hp.length z n = .row hp.length 0 n z := by unfold rowR; rw [if_neg (by omega)]
    have e2 : rowH hp n cs = hp ++ [cs] := by unfold rowH; rw [if_neg (by omega)]
    rw [e1, e2]
    refine ⟨⟨[i], ?_, ?_, by simp, hl, ?_, by simp, ?_⟩⟩
    · simp [resSV, SV.ren, AV.ren]
    · intro y hy
      simp at hy
      rcases hy with rfl | rfl
      · show hp.length < hp.length + 1
        omega
      · trivial
    · rw [ht]; simp
    · intro j k ds hj hd hne
      cases j with
      | succ j => simp at hj
      | zero =>
        simp at hj hd
        subst hj; subst hd
        exact ⟨hcs, by omega⟩
/-- What a list of coefficients comes to: itself, or an error. -/
def knownL (L : List Iv) : List Iv × Int := if L.all okI then (L, 0) else ([], 9)
def polyR (h : Heap) (R : List Iv × Int) : Option (Prop × SV × Heap) := some (True, .tup [.c (rowR h.length 2 R.1.length), .c (.p (.int .i64 R.2))], rowH h R.1.length (cellsI R.1))

-- def addPolys
def addL : List Iv → List Iv → List Iv
  | [], b => b
  | a, [] => a
  | x :: a, y :: b => addI x y :: addL a b
theorem addL_nil_r : ∀ (a : List Iv), addL a [] = a
  | [] => rfl
  | _ :: _ => rfl
theorem addI_comm (x y : Iv) : addI x y = addI y x := by
  unfold addI
  rw [Bool.and_comm, Int.add_comm x.lo, Int.add_comm x.hi]
theorem addL_comm : ∀ (a b : List Iv), addL a b = addL b a
  | [], b => by rw [addL_nil_r]; rfl
  | x :: a, [] => rfl
  | x :: a, y :: b => by rw [addL, addL, addI_comm, addL_comm a b]
theorem addL_len : ∀ (a b : List Iv), (addL a b).length = max a.length b.length
  | [], b => by simp [addL]
  | x :: a, [] => by simp [addL]
  | x :: a, y :: b => by simp only [addL, List.length_cons, addL_len a b]; omega
def addG : Option Iv → Option Iv → Option Iv
  | some x, some y => some (addI x y)
  | some x, none => some x
  | none, some y => some y
  | none, none => none
theorem addL_get : ∀ (a b : List Iv) (k : Nat), (addL a b)[k]? = addG a[k]? b[k]?
  | [], b, k => by cases h : b[k]? <;> simp [addL, h, addG]
  | x :: a, [], k => by cases h : (x :: a)[k]? <;> simp [addL, h, addG]
  | x :: a, y :: b, 0 => rfl
  | x :: a, y :: b, k + 1 => by simpa [addL] using addL_get a b k
def addP (a b : List Iv) : List Iv × Int := if pok a && pok b then knownL (addL a b) else ([], 1)
def addPO (h : Heap) : Option (List Iv) → Option (List Iv) → Option (Prop × SV × Heap)
  | some A, some B => polyR h (addP A B)
  | _, _ => none
theorem addPO_some {h : Heap} {A B : List Iv} : addPO h (some A) (some B) = some (True, .tup [.c (rowR h.length 2 (addP A B).1.length), .c (.p (.int .i64 (addP A B).2))], rowH h (addP A B).1.length (cellsI (addP A B).1)) := rfl
def M_addP : MT := fun m args h => match args with
  | [.c a, .c b] => addPO h (rowOf h a) (rowOf h b)
  | _ => none
theorem M_addP_eq {m : Addr → Option PC} {h : Heap} {a b : Cl} : M_addP m [.c a, .c b] h = addPO h (rowOf h a) (rowOf h b) := rfl
theorem pok_row {h : Heap} {sl : Cl} {L : List Iv} (hs : rowOf h sl = some L) (hp : pok L = true) : ∃ i, sl = .row i 0 L.length 2 ∧ h[i]? = some (cellsI L) ∧ 0 < L.length ∧ L.length ≤ 17 := by
  have hb := pok_pos hp
  rcases rowOf_out hs with ⟨i, e, hi, _, _⟩ | ⟨rfl, _⟩ | ⟨rfl, _⟩
  · exact ⟨i, e, hi, hb.1, hb.2⟩
  · simp at hb
  · simp at hb

-- impl.known
def knO (h : Heap) (sl : Cl) : Option (List Iv) → Option (Prop × SV × Heap)
  | some L => some (True, .tup [.c (bif L.all okI then sl else .p (.sl none 0 0)), .c (.p (.int .i64 (bif L.all okI then 0 else 9)))], h)
  | none => none
theorem knO_some {h : Heap} {sl : Cl} {L : List Iv} : knO h sl (some L) = some (True, .tup [.c (bif L.all okI then sl else .p (.sl none 0 0)), .c (.p (.int .i64 (bif L.all okI then 0 else 9)))], h) := rfl
def M_known : MT := fun m args h => match args with
  | [.c (.row i 0 n 2)] => knO h (.row i 0 n 2) (rowOf h (.row i 0 n 2))
  | _ => none
theorem M_known_eq {m : Addr → Option PC} {h : Heap} {i n : Nat} : M_known m [.c (.row i 0 n 2)] h = knO h (.row i 0 n 2) (rowOf h (.row i 0 n 2)) := rfl
theorem endM_own {hp : Heap} {i n : Nat} {x : PC} (hi : i < hp.length) : endM hp.length (.tup [.c (.row i 0 n 2), .c (.p x)]) hp hp (some [.c (.row i 0 n 2), .c (.p x)]) := by
  refine endM_same rfl ?_ ?_ rfl (Nat.le_refl _) List.take_length
  · intro y hy
    simp at hy
    rcases hy with rfl | rfl
    · exact hi
    · trivial
  · simp [SV.ren, AV.ren, hi]
theorem endM_none {hp : Heap} {x : PC} : endM hp.length (.tup [.c (.p (.sl none 0 0)), .c (.p x)]) hp hp (some [.c (.p (.sl none 0 0)), .c (.p x)]) := by
  refine endM_same rfl ?_ rfl rfl (Nat.le_refl _) List.take_length
  intro y hy
  simp at hy
  rcases hy with rfl | rfl <;> trivial
theorem impl_known_known_ok : Mn Try.prog 40 M_known := by
  refine mn_of_go (O := orcM [⟨36, F_notOk, .inl impl_IsWhole_notOk_ok⟩] [⟨35, M_containsW, false, no_one, slices_ContainsFunc_containsW_ok⟩]) mixed T_ok (orcM_sound _ _) Try.func40 (by kernel_rfl) rfl Try.ntmps40 (by kernel_rfl) Try.results40 ?_
  intro m args hp pre r h' hM hpre
  unfold M_known at hM
  split at hM
  · rename_i i n
    cases hs : rowOf hp (.row i 0 n 2) with
    | none => rw [hs] at hM; cases hM
    | some L =>
      rw [hs, knO_some] at hM
      simp only [Option.some.injEq, Prod.mk.injEq] at hM
      obtain ⟨rfl, hr, hh⟩ := hM
      subst hh
      have hi : i < hp.length := by
        rcases rowOf_out hs with ⟨i', he, hi, _⟩ | ⟨_, _, _, he⟩ | ⟨_, he⟩
        · cases he; exact get_lt hi
        · cases he
        · cases he
      refine ⟨by simp, ?_⟩
      have h2 : anyW L = !L.all okI := rfl
      cases ha : L.all okI with
      | true =>
        rw [ha] at hr h2
        subst hr
        simp (config := { maxSteps := 4000000, implicitDefEqProofs := false }) only [F_notOk_eq, WK0, WK1, WK2, WK3, WK4, WK5, WK6, WK7, WK8, WK9, WK10, WK11, WK12, WK13, WK14, WK15, WK16, WK17, WK18, WK19, WK20, WK21, WK22, WK23, WK24, WK25, WK26, WK27, WK28, look_hit, look_miss, List.map_cons, List.map_nil, Nat.add_zero, max_v, min_v, ↓cnd_t, ↓cnd_f, ↓grd_b, ↓grd_u, startEnv, Option.map_some, List.length_nil, List.length_cons, List.nil_append, List.cons_append, List.getElem?_cons_zero, List.getElem?_cons_succ, List.set_cons_zero, List.set_cons_succ, Bool.not_true, Bool.not_false, reduceIte, Nat.reduceEqDiff, Nat.reduceAdd, Nat.reduceLT, blt_lit, beq_lit, Bool.or_true, Bool.true_or, Bool.or_false, Bool.false_or, Bool.and_true, Bool.true_and, Bool.and_self, cond_true, cond_false, List.append_nil, Iv.eta, Option.map_none, idxO_l0, idxO_l1, decide_true, decide_false, reqs_true, Int.zero_sub, wrap_lit, wrapu_lit, Int.reduceLE, Int.reduceLT, Int.reduceAdd, Int.reduceSub, Int.reduceMul, Int.reduceNeg, Int.reduceEq, Option.bind_some, bin_shr_u64, bin_shl_u64, bin_shr_i64, bin_shl_i64, and_m32', Int.reduceToNat, Int.reducePow, Int.reduceMod, Int.reduceDiv, wrap_u64s, true_or, or_true, true_and, and_true, Option.isSome_none, Option.isSome_some, Nat.reduceLeDiff, Nat.reduceMul, Int.toNat_natCast, Int.cast_ofNat_Int, Int.natCast_zero, Int.natCast_one, List.isEmpty_nil, List.isEmpty_cons, List.replicate_zero, List.replicate_succ, T1, T2, T3, T4, T5, T6, T9, T10, T11, T12, T21, T22, T23, T24, T25, T26, T27, T28, T30, T31, T32, T33, T34, T35, T36, T37, T38, T39, T40, T41, T42, T44, T45, T46, T47, T48, T49, T50, T51, T52, T53, T55, T56, T57, T58, T59, T60, T61, T63, T64, T66, T67, T68, T69, T70, T71, T72, T73, T74, T75, T76, T77, T78, T79, T80, T81, T82, T83, T84, T86, T87, T88, T89, T91, T93, T94, T95, T98, T100, T106, T107, T108, T109, T110, T112, T113, M_containsW_eq, hs, boolO_some, h2]
        repeat' (first | with_reducible refine cnd_split (fun hc => ?_) (fun hc => ?_) | with_reducible refine Reqs.mk ?_ ?_)
        all_goals first | trivial | exact endM_own hi
      | false =>
        rw [ha] at hr h2
        subst hr
        simp (config := { maxSteps := 4000000, implicitDefEqProofs := false }) only [F_notOk_eq, WK0, WK1, WK2, WK3, WK4, WK5, WK6, WK7, WK8, WK9, WK10, WK11, WK12, WK13, WK14, WK15, WK16, WK17, WK18, WK19, WK20, WK21, WK22, WK23, WK24, WK25, WK26, WK27, WK28, look_hit, look_miss, List.map_cons, List.map_nil, Nat.add_zero, max_v, min_v, ↓cnd_t, ↓cnd_f, ↓grd_b, ↓grd_u, startEnv, Option.map_some, List.length_nil, List.length_cons, List.nil_append, List.cons_append, List.getElem?_cons_zero, List.getElem?_cons_succ, List.set_cons_zero, List.set_cons_succ, Bool.not_true, Bool.not_false, reduceIte, Nat.reduceEqDiff, Nat.reduceAdd, Nat.reduceLT, blt_lit, beq_lit, Bool.or_true, Bool.true_or, Bool.or_false, Bool.false_or, Bool.and_true, Bool.true_and, Bool.and_self, cond_true, cond_false, List.append_nil, Iv.eta, Option.map_none, idxO_l0, idxO_l1, decide_true, decide_false, reqs_true, Int.zero_sub, wrap_lit, wrapu_lit, Int.reduceLE, Int.reduceLT, Int.reduceAdd, Int.reduceSub, Int.reduceMul, Int.reduceNeg, Int.reduceEq, Option.bind_some, bin_shr_u64, bin_shl_u64, bin_shr_i64, bin_shl_i64, and_m32', Int.reduceToNat, Int.reducePow, Int.reduceMod, Int.reduceDiv, wrap_u64s, true_or, or_true, true_and, and_true, Option.isSome_none, Option.isSome_some, Nat.reduceLeDiff, Nat.reduceMul, Int.toNat_natCast, Int.cast_ofNat_Int, Int.natCast_zero, Int.natCast_one, List.isEmpty_nil, List.isEmpty_cons, List.replicate_zero, List.replicate_succ, T1, T2, T3, T4, T5, T6, T9, T10, T11, T12, T21, T22, T23, T24, T25, T26, T27, T28, T30, T31, T32, T33, T34, T35, T36, T37, T38, T39, T40, T41, T42, T44, T45, T46, T47, T48, T49, T50, T51, T52, T53, T55, T56, T57, T58, T59, T60, T61, T63, T64, T66, T67, T68, T69, T70, T71, T72, T73, T74, T75, T76, T77, T78, T79, T80, T81, T82, T83, T84, T86, T87, T88, T89, T91, T93, T94, T95, T98, T100, T106, T107, T108, T109, T110, T112, T113, M_containsW_eq, hs, boolO_some, h2]
        repeat' (first | with_reducible refine cnd_split (fun hc => ?_) (fun hc => ?_) | with_reducible refine Reqs.mk ?_ ?_)
        all_goals first | trivial | exact endM_none
  · cases hM

-- spec.l09End
def nilS : Cl := .p (.sl none 0 0)
def enO (h : Heap) (sl : Cl) : Option (List Iv) → Option (Prop × SV × Heap)
  | some L => some (0 < L.length ∧ L.length ≤ 17, .tup [.c (bif L.all okI then sl else .p (.sl none 0 0)), .c (.p (.int .i64 (bif L.all okI then 0 else 9)))], h)
  | none => none
theorem enO_some {h : Heap} {sl : Cl} {L : List Iv} : enO h sl (some L) = some (0 < L.length ∧ L.length ≤ 17, .tup [.c (bif L.all okI then sl else .p (.sl none 0 0)), .c (.p (.int .i64 (bif L.all okI then 0 else 9)))], h) := rfl
def M_l09End : MT := fun m args h => match args with
  | [.c (.row i 0 n 2)] => enO h (.row i 0 n 2) (rowOf h (.row i 0 n 2))
  | _ => none
theorem M_l09End_eq {m : Addr → Option PC} {h : Heap} {i n : Nat} : M_l09End m [.c (.row i 0 n 2)] h = enO h (.row i 0 n 2) (rowOf h (.row i 0 n 2)) := rfl
theorem pok_all {L : List Iv} (h : 0 < L.length ∧ L.length ≤ 17) : pok L = L.all okI := by
  have hw : within (L.length : Int) 1 17 = true := by rw [within_iff]; omega
  unfold pok
  rw [hw, Bool.and_true]
theorem spec_l09End_l09End_ok : Mn Try.prog 37 M_l09End := by
  refine mn_of_go (O := orcM [] [⟨32, M_pok, true, fun _ => one_pok, spec_l09Ok_pok_ok⟩]) mixed T_ok (orcM_sound _ _) Try.func37 (by kernel_rfl) rfl Try.ntmps37 (by kernel_rfl) Try.results37 ?_
  intro m args hp pre r h' hM hpre
  unfold M_l09End at hM
  split at hM
  · rename_i i n
    cases hs : rowOf hp (.row i 0 n 2) with
    | none => rw [hs] at hM; cases hM
    | some L =>
      rw [hs, enO_some] at hM
      simp only [Option.some.injEq, Prod.mk.injEq] at hM
      obtain ⟨rfl, hr, hh⟩ := hM
      subst hh
      have hi : i < hp.length ∧ n = L.length := by
        rcases rowOf_out hs with ⟨i', he, hi, _⟩ | ⟨_, _, _, he⟩ | ⟨_, he⟩
        · cases he; exact ⟨get_lt hi, rfl⟩
        · cases he
        · cases he
      refine ⟨by simp, ?_⟩
      have h2 := pok_all hpre
      have e0 : decide ((17 : Int) < (n : Int)) = false := by simp only [decide_eq_false_iff_not]; omega
      cases ha : L.all okI with
      | true =>
        rw [ha] at hr h2
        subst hr
        simp (config := { maxSteps := 4000000, implicitDefEqProofs := false }) only [WK0, WK1, WK2, WK3, WK4, WK5, WK6, WK7, WK8, WK9, WK10, WK11, WK12, WK13, WK14, WK15, WK16, WK17, WK18, WK19, WK20, WK21, WK22, WK23, WK24, WK25, WK26, WK27, WK28, look_hit, look_miss, List.map_cons, List.map_nil, Nat.add_zero, max_v, min_v, ↓cnd_t, ↓cnd_f, ↓grd_b, ↓grd_u, startEnv, Option.map_some, List.length_nil, List.length_cons, List.nil_append, List.cons_append, List.getElem?_cons_zero, List.getElem?_cons_succ, List.set_cons_zero, List.set_cons_succ, Bool.not_true, Bool.not_false, reduceIte, Nat.reduceEqDiff, Nat.reduceAdd, Nat.reduceLT, blt_lit, beq_lit, Bool.or_true, Bool.true_or, Bool.or_false, Bool.false_or, Bool.and_true, Bool.true_and, Bool.and_self, cond_true, cond_false, List.append_nil, Iv.eta, Option.map_none, idxO_l0, idxO_l1, decide_true, decide_false, reqs_true, Int.zero_sub, wrap_lit, wrapu_lit, Int.reduceLE, Int.reduceLT, Int.reduceAdd, Int.reduceSub, Int.reduceMul, Int.reduceNeg, Int.reduceEq, Option.bind_some, bin_shr_u64, bin_shl_u64, bin_shr_i64, bin_shl_i64, and_m32', Int.reduceToNat, Int.reducePow, Int.reduceMod, Int.reduceDiv, wrap_u64s, true_or, or_true, true_and, and_true, Option.isSome_none, Option.isSome_some, Nat.reduceLeDiff, Nat.reduceMul, Int.toNat_natCast, Int.cast_ofNat_Int, Int.natCast_zero, Int.natCast_one, List.isEmpty_nil, List.isEmpty_cons, List.replicate_zero, List.replicate_succ, T1, T2, T3, T4, T5, T6, T9, T10, T11, T12, T21, T22, T23, T24, T25, T26, T27, T28, T30, T31, T32, T33, T34, T35, T36, T37, T38, T39, T40, T41, T42, T44, T45, T46, T47, T48, T49, T50, T51, T52, T53, T55, T56, T57, T58, T59, T60, T61, T63, T64, T66, T67, T68, T69, T70, T71, T72, T73, T74, T75, T76, T77, T78, T79, T80, T81, T82, T83, T84, T86, T87, T88, T89, T91, T93, T94, T95, T98, T100, T106, T107, T108, T109, T110, T112, T113, M_pok_eq, hs, boolO_some, h2, e0]
        repeat' (first | with_reducible refine cnd_split (fun hc => ?_) (fun hc => ?_) | with_reducible refine Reqs.mk ?_ ?_)
        all_goals first | trivial | exact endM_own hi.1
      | false =>
        rw [ha] at hr h2
        subst hr
        simp (config := { maxSteps := 4000000, implicitDefEqProofs := false }) only [WK0, WK1, WK2, WK3, WK4, WK5, WK6, WK7, WK8, WK9, WK10, WK11, WK12, WK13, WK14, WK15, WK16, WK17, WK18, WK19, WK20, WK21, WK22, WK23, WK24, WK25, WK26, WK27, WK28, look_hit, look_miss, List.map_cons, List.map_nil, Nat.add_zero, max_v, min_v, ↓cnd_t, ↓cnd_f, ↓grd_b, ↓grd_u, startEnv, Option.map_some, List.length_nil, List.length_cons, List.nil_append, List.cons_append, List.getElem?_cons_zero, List.getElem?_cons_succ, List.set_cons_zero, List.set_cons_succ, Bool.not_true, Bool.not_false, reduceIte, Nat.reduceEqDiff, Nat.reduceAdd, Nat.reduceLT, blt_lit, beq_lit, Bool.or_true, Bool.true_or, Bool.or_false, Bool.false_or, Bool.and_true, Bool.true_and, Bool.and_self, cond_true, cond_false, List.append_nil, Iv.eta, Option.map_none, idxO_l0, idxO_l1, decide_true, decide_false, reqs_true, Int.zero_sub, wrap_lit, wrapu_lit, Int.reduceLE, Int.reduceLT, Int.reduceAdd, Int.reduceSub, Int.reduceMul, Int.reduceNeg, Int.reduceEq, Option.bind_some, bin_shr_u64, bin_shl_u64, bin_shr_i64, bin_shl_i64, and_m32', Int.reduceToNat, Int.reducePow, Int.reduceMod, Int.reduceDiv, wrap_u64s, true_or, or_true, true_and, and_true, Option.isSome_none, Option.isSome_some, Nat.reduceLeDiff, Nat.reduceMul, Int.toNat_natCast, Int.cast_ofNat_Int, Int.natCast_zero, Int.natCast_one, List.isEmpty_nil, List.isEmpty_cons, List.replicate_zero, List.replicate_succ, T1, T2, T3, T4, T5, T6, T9, T10, T11, T12, T21, T22, T23, T24, T25, T26, T27, T28, T30, T31, T32, T33, T34, T35, T36, T37, T38, T39, T40, T41, T42, T44, T45, T46, T47, T48, T49, T50, T51, T52, T53, T55, T56, T57, T58, T59, T60, T61, T63, T64, T66, T67, T68, T69, T70, T71, T72, T73, T74, T75, T76, T77, T78, T79, T80, T81, T82, T83, T84, T86, T87, T88, T89, T91, T93, T94, T95, T98, T100, T106, T107, T108, T109, T110, T112, T113, M_pok_eq, hs, boolO_some, h2, e0]
        repeat' (first | with_reducible refine cnd_split (fun hc => ?_) (fun hc => ?_) | with_reducible refine Reqs.mk ?_ ?_)
        all_goals first | trivial | exact endM_none
  · cases hM

-- rows that begin empty
def RowB (L : Nat) (h : Heap) (sl : Cl) (z n : Nat) (cs : List PC) : Prop := RowAt L h sl z n cs ∨ (n = 0 ∧ cs = [] ∧ ∃ i o, sl = .emp i o)
theorem app_stepB {L : Nat} {h : Heap} {sl : Cl} {z n : Nat} {cs c zz : List PC} {m : Addr → Option PC} (hR : RowB L h sl z n cs) (hz : zz.length = z) (hc : c.length = z) (h0 : 0 < z) (hn : n < 1048576) (hL : L < h.length) :
    ∃ sl' h2, appO (h ++ [c]) m (some (tdRow zz)) (some [.c sl, .c (.row h.length 0 1 z)]) = some (some (.v (.c sl')), h2) ∧ RowAt L h2 sl' z (n + 1) (cs ++ c) ∧ (∀ i, i ≤ L → h2[i]? = h[i]?) ∧ h.length ≤ h2.length := by
  rcases hR with hR | ⟨rfl, rfl, i, o, rfl⟩
  · exact app_step hR hz hc h0 hn hL
  · subst hz
    have hcne : c ≠ [] := by intro e; rw [e] at hc; simp at hc; omega
    have hrc : rowCells zz.length (h ++ [c]) m (.c (.row h.length 0 1 zz.length)) = some (1, c) := by
      simp only [rowCells]
      rw [if_pos trivial]
      simp only [List.getElem?_concat_length]
      rw [if_pos ⟨by omega, hcne⟩]
      simp only [List.drop_zero, Nat.one_mul]
      rw [← hc, List.take_length]
    have hd : (tdRow zz).row = true := rfl
    have he : (tdRow zz).ez1 = zz := rfl
    refine ⟨.row (h.length + 1) 0 1 zz.length, h ++ [c] ++ [c], ?_, .inr ⟨by omega, by simpa using hc, h.length + 1, rfl, by omega, ?_⟩, ?_, by simp⟩
    · simp only [appO, hd, he, if_true, hrc]
      simp only [appF]
      rw [if_pos ⟨by omega, by omega, by omega⟩]
      simp
    · simp
    · intro j hj
      rw [List.append_assoc, List.getElem?_append_left (by omega)]
theorem cellsI_snoc : ∀ (l : List Iv) (v : Iv), cellsI (l ++ [v]) = cellsI l ++ [.int .i64 v.lo, .int .i64 v.hi]
  | [], v => rfl
  | u :: r, v => by simp only [List.cons_append, cellsI, cellsI_snoc r v]
theorem RowAt.row {L : Nat} {h : Heap} {sl : Cl} {n : Nat} {V : List Iv} (hR : RowAt L h sl 2 n (cellsI V)) (h0 : 0 < n) (hn : V.length = n) (h1 : n ≤ 1048576) : ∃ i, sl = .row i 0 n 2 ∧ rowOf h (.row i 0 n 2) = some V := by
  rcases hR with ⟨rfl, _⟩ | ⟨_, _, i, rfl, _, hi⟩
  · omega
  · refine ⟨i, rfl, ?_⟩
    rw [rowOf_row, hi]
    simp only [Option.bind_some, ivsC_cells]
    exact rowQ_of hn.symm h0 h1

-- spec.AddPolys
theorem spec_AddPolys_addP_ok : Mn Try.prog 13 M_addP := by
  refine mn_of_go (O := orcM [⟨27, F_addI, .inl spec_AddI_addI_ok⟩] [⟨32, M_pok, true, fun _ => one_pok, spec_l09Ok_pok_ok⟩, ⟨37, M_l09End, false, no_one, spec_l09End_l09End_ok⟩]) mixed T_ok (orcM_sound _ _) Try.func13 (by kernel_rfl) rfl Try.ntmps13 (by kernel_rfl) Try.results13 ?_
  intro m args hp pre r h' hM hpre
  unfold M_addP at hM
  split at hM
  · rename_i sa sb
    cases ha : rowOf hp sa with
    | none => rw [ha] at hM; cases hM
    | some A =>
      cases hb : rowOf hp sb with
      | none => rw [ha, hb] at hM; cases hM
      | some B =>
        rw [ha, hb, addPO_some] at hM
        simp only [Option.some.injEq, Prod.mk.injEq] at hM
        obtain ⟨rfl, hr, hh⟩ := hM
        refine ⟨by simp, ?_⟩
        cases hpa : pok A with
        | false =>
          have e : addP A B = ([], 1) := by unfold addP; rw [hpa]; rfl
          rw [e] at hr hh
          subst hr hh
          simp (config := { maxSteps := 4000000, implicitDefEqProofs := false }) only [F_addI_eq, WK0, WK1, WK2, WK3, WK4, WK5, WK6, WK7, WK8, WK9, WK10, WK11, WK12, WK13, WK14, WK15, WK16, WK17, WK18, WK19, WK20, WK21, WK22, WK23, WK24, WK25, WK26, WK27, WK28, look_hit, look_miss, List.map_cons, List.map_nil, Nat.add_zero, max_v, min_v, ↓cnd_t, ↓cnd_f, ↓grd_b, ↓grd_u, startEnv, Option.map_some, List.length_nil, List.length_cons, List.nil_append, List.cons_append, List.getElem?_cons_zero, List.getElem?_cons_succ, List.set_cons_zero, List.set_cons_succ, Bool.not_true, Bool.not_false, reduceIte, Nat.reduceEqDiff, Nat.reduceAdd, Nat.reduceLT, blt_lit, beq_lit, Bool.or_true, Bool.true_or, Bool.or_false, Bool.false_or, Bool.and_true, Bool.true_and, Bool.and_self, cond_true, cond_false, List.append_nil, Iv.eta, Option.map_none, idxO_l0, idxO_l1, decide_true, decide_false, reqs_true, Int.zero_sub, wrap_lit, wrapu_lit, Int.reduceLE, Int.reduceLT, Int.reduceAdd, Int.reduceSub, Int.reduceMul, Int.reduceNeg, Int.reduceEq, Option.bind_some, bin_shr_u64, bin_shl_u64, bin_shr_i64, bin_shl_i64, and_m32', Int.reduceToNat, Int.reducePow, Int.reduceMod, Int.reduceDiv, wrap_u64s, true_or, or_true, true_and, and_true, Option.isSome_none, Option.isSome_some, Nat.reduceLeDiff, Nat.reduceMul, Int.toNat_natCast, Int.cast_ofNat_Int, Int.natCast_zero, Int.natCast_one, List.isEmpty_nil, List.isEmpty_cons, List.replicate_zero, List.replicate_succ, T1, T2, T3, T4, T5, T6, T9, T10, T11, T12, T21, T22, T23, T24, T25, T26, T27, T28, T30, T31, T32, T33, T34, T35, T36, T37, T38, T39, T40, T41, T42, T44, T45, T46, T47, T48, T49, T50, T51, T52, T53, T55, T56, T57, T58, T59, T60, T61, T63, T64, T66, T67, T68, T69, T70, T71, T72, T73, T74, T75, T76, T77, T78, T79, T80, T81, T82, T83, T84, T86, T87, T88, T89, T91, T93, T94, T95, T98, T100, T106, T107, T108, T109, T110, T112, T113, M_pok_eq, ha, hb, boolO_some, hpa]
          repeat' (first | with_reducible refine cnd_split (fun hc => ?_) (fun hc => ?_) | with_reducible refine Reqs.mk ?_ ?_)
          all_goals first | trivial | exact endM_none
        | true =>
          cases hpb : pok B with
          | false =>
            have e : addP A B = ([], 1) := by unfold addP; rw [hpa, hpb]; rfl
            rw [e] at hr hh
            subst hr hh
            simp (config := { maxSteps := 4000000, implicitDefEqProofs := false }) only [F_addI_eq, WK0, WK1, WK2, WK3, WK4, WK5, WK6, WK7, WK8, WK9, WK10, WK11, WK12, WK13, WK14, WK15, WK16, WK17, WK18, WK19, WK20, WK21, WK22, WK23, WK24, WK25, WK26, WK27, WK28, look_hit, look_miss, List.map_cons, List.map_nil, Nat.add_zero, max_v, min_v, ↓cnd_t, ↓cnd_f, ↓grd_b, ↓grd_u, startEnv, Option.map_some, List.length_nil, List.length_cons, List.nil_append, List.cons_append, List.getElem?_cons_zero, List.getElem?_cons_succ, List.set_cons_zero, List.set_cons_succ, Bool.not_true, Bool.not_false, reduceIte, Nat.reduceEqDiff, Nat.reduceAdd, Nat.reduceLT, blt_lit, beq_lit, Bool.or_true, Bool.true_or, Bool.or_false, Bool.false_or, Bool.and_true, Bool.true_and, Bool.and_self, cond_true, cond_false, List.append_nil, Iv.eta, Option.map_none, idxO_l0, idxO_l1, decide_true, decide_false, reqs_true, Int.zero_sub, wrap_lit, wrapu_lit, Int.reduceLE, Int.reduceLT, Int.reduceAdd, Int.reduceSub, Int.reduceMul, Int.reduceNeg, Int.reduceEq, Option.bind_some, bin_shr_u64, bin_shl_u64, bin_shr_i64, bin_shl_i64, and_m32', Int.reduceToNat, Int.reducePow, Int.reduceMod, Int.reduceDiv, wrap_u64s, true_or, or_true, true_and, and_true, Option.isSome_none, Option.isSome_some, Nat.reduceLeDiff, Nat.reduceMul, Int.toNat_natCast, Int.cast_ofNat_Int, Int.natCast_zero, Int.natCast_one, List.isEmpty_nil, List.isEmpty_cons, List.replicate_zero, List.replicate_succ, T1, T2, T3, T4, T5, T6, T9, T10, T11, T12, T21, T22, T23, T24, T25, T26, T27, T28, T30, T31, T32, T33, T34, T35, T36, T37, T38, T39, T40, T41, T42, T44, T45, T46, T47, T48, T49, T50, T51, T52, T53, T55, T56, T57, T58, T59, T60, T61, T63, T64, T66, T67, T68, T69, T70, T71, T72, T73, T74, T75, T76, T77, T78, T79, T80, T81, T82, T83, T84, T86, T87, T88, T89, T91, T93, T94, T95, T98, T100, T106, T107, T108, T109, T110, T112, T113, M_pok_eq, ha, hb, boolO_some, hpa, hpb]
            repeat' (first | with_reducible refine cnd_split (fun hc => ?_) (fun hc => ?_) | with_reducible refine Reqs.mk ?_ ?_)
            all_goals first | trivial | exact endM_none
          | true =>
            have e : addP A B = knownL (addL A B) := by unfold addP; rw [hpa, hpb]; rfl
            rw [e] at hr hh
            obtain ⟨ia, rfl, hia, a0, a1⟩ := pok_row ha hpa
            obtain ⟨ib, rfl, hib, b0, b1⟩ := pok_row hb hpb
            have la := addL_len A B
            simp (config := { maxSteps := 4000000, implicitDefEqProofs := false }) only [F_addI_eq, WK0, WK1, WK2, WK3, WK4, WK5, WK6, WK7, WK8, WK9, WK10, WK11, WK12, WK13, WK14, WK15, WK16, WK17, WK18, WK19, WK20, WK21, WK22, WK23, WK24, WK25, WK26, WK27, WK28, look_hit, look_miss, List.map_cons, List.map_nil, Nat.add_zero, max_v, min_v, ↓cnd_t, ↓cnd_f, ↓grd_b, ↓grd_u, startEnv, Option.map_some, List.length_nil, List.length_cons, List.nil_append, List.cons_append, List.getElem?_cons_zero, List.getElem?_cons_succ, List.set_cons_zero, List.set_cons_succ, Bool.not_true, Bool.not_false, reduceIte, Nat.reduceEqDiff, Nat.reduceAdd, Nat.reduceLT, blt_lit, beq_lit, Bool.or_true, Bool.true_or, Bool.or_false, Bool.false_or, Bool.and_true, Bool.true_and, Bool.and_self, cond_true, cond_false, List.append_nil, Iv.eta, Option.map_none, idxO_l0, idxO_l1, decide_true, decide_false, reqs_true, Int.zero_sub, wrap_lit, wrapu_lit, Int.reduceLE, Int.reduceLT, Int.reduceAdd, Int.reduceSub, Int.reduceMul, Int.reduceNeg, Int.reduceEq, Option.bind_some, bin_shr_u64, bin_shl_u64, bin_shr_i64, bin_shl_i64, and_m32', Int.reduceToNat, Int.reducePow, Int.reduceMod, Int.reduceDiv, wrap_u64s, true_or, or_true, true_and, and_true, Option.isSome_none, Option.isSome_some, Nat.reduceLeDiff, Nat.reduceMul, Int.toNat_natCast, Int.cast_ofNat_Int, Int.natCast_zero, Int.natCast_one, List.isEmpty_nil, List.isEmpty_cons, List.replicate_zero, List.replicate_succ, T1, T2, T3, T4, T5, T6, T9, T10, T11, T12, T21, T22, T23, T24, T25, T26, T27, T28, T30, T31, T32, T33, T34, T35, T36, T37, T38, T39, T40, T41, T42, T44, T45, T46, T47, T48, T49, T50, T51, T52, T53, T55, T56, T57, T58, T59, T60, T61, T63, T64, T66, T67, T68, T69, T70, T71, T72, T73, T74, T75, T76, T77, T78, T79, T80, T81, T82, T83, T84, T86, T87, T88, T89, T91, T93, T94, T95, T98, T100, T106, T107, T108, T109, T110, T112, T113, M_pok_eq, ha, hb, boolO_some, hpa, hpb]
            repeat' (first | with_reducible refine cnd_split (fun hc => ?_) (fun hc => ?_) | with_reducible refine Reqs.mk ?_ ?_)
            all_goals first | trivial | skip
            obtain ⟨N, hN⟩ : ∃ N : Int, ((A.length : Nat) : Int) = N := ⟨_, rfl⟩
            obtain ⟨M, hMM⟩ : ∃ M : Int, ((B.length : Nat) : Int) = M := ⟨_, rfl⟩
            refine go_loop (α := Nat) (fun s => (addL A B).length - s) (fun s e h => ∃ sl, look e 0 = some (.v (.c (.row ia 0 A.length 2))) ∧ look e 1 = some (.v (.c (.row ib 0 B.length 2))) ∧ look e 6 = some (.v (.c sl)) ∧ look e 7 = some (.v (.c (.p (.int .i64 (s : Int))))) ∧ s ≤ (addL A B).length ∧ hp.length < h.length ∧ (∀ i, i < hp.length → h[i]? = hp[i]?) ∧ RowB hp.length h sl 2 s (cellsI ((addL A B).take s))) 0 ⟨_, rfl, rfl, rfl, rfl, by omega, by simp, fun i hi => by rw [List.getElem?_append_left hi], .inr ⟨rfl, rfl, _, _, rfl⟩⟩ ?_
            rintro X k e h ⟨sl, l0, l1, l6, l7, hk, hlen, hbx, hR⟩ hX
            obtain ⟨K, hK⟩ : ∃ K : Int, (k : Int) = K := ⟨_, rfl⟩
            rw [hK] at l7
            have hA' : h[ia]? = some (cellsI A) := by rw [hbx _ (get_lt hia), hia]
            have hB' : h[ib]? = some (cellsI B) := by rw [hbx _ (get_lt hib), hib]
            have gA := setB_get hA'
            have gB := setB_get hB'
            have hKn : K.toNat = k := by omega
            have w1 : IntKind.i64.wrap (K + 1) = K + 1 := wrap_om (by omega) (by omega)
            by_cases hkl : k < (addL A B).length
            · obtain ⟨v, hv⟩ : ∃ v, (addL A B)[k]? = some v := ⟨_, List.getElem?_eq_getElem hkl⟩
              have hg := addL_get A B k
              rw [hv] at hg
              obtain ⟨sl', h2, ha2, hR2, hk2, hl2⟩ := @app_stepB hp.length h sl 2 k (cellsI ((addL A B).take k)) [PC.int .i64 v.lo, PC.int .i64 v.hi] [PC.int .i64 0, PC.int .i64 0] m hR rfl rfl (by omega) (by omega) hlen
              have hcs : cellsI ((addL A B).take k) ++ [PC.int .i64 v.lo, PC.int .i64 v.hi] = cellsI ((addL A B).take (k + 1)) := by
                rw [List.take_add_one, hv, ← cellsI_snoc]; rfl
              rw [hcs] at hR2
              have fin : ∀ e', look e' 0 = some (.v (.c (.row ia 0 A.length 2))) → look e' 1 = some (.v (.c (.row ib 0 B.length 2))) → look e' 6 = some (.v (.c sl')) → look e' 7 = some (.v (.c (.p (.int .i64 (K + 1))))) → X ⟨e', h2⟩ := fun e' m0 m1 m6 m7 =>
                hX (k + 1) e' h2 (by omega) ⟨sl', m0, m1, m6, by rw [m7, ← hK]; rfl, by omega, by omega, fun i hi => by rw [hk2 i (by omega), hbx i hi], .inl hR2⟩
              by_cases ca : k < A.length
              · have d1 : decide (K < N) = true := by simp only [decide_eq_true_eq]; omega
                have d2 : decide (N ≤ K) = false := by simp only [decide_eq_false_iff_not]; omega
                obtain ⟨x, hx⟩ : ∃ x, A[k]? = some x := ⟨_, List.getElem?_eq_getElem ca⟩
                have hdx := loadC_at hx
                have i1 := fun h => @row_iad h ia A.length K (by omega) (by omega)
                rw [hKn] at i1
                by_cases cb : k < B.length
                · have d3 : decide (K < M) = true := by simp only [decide_eq_true_eq]; omega
                  have d4 : decide (M ≤ K) = false := by simp only [decide_eq_false_iff_not]; omega
                  obtain ⟨y, hy⟩ : ∃ y, B[k]? = some y := ⟨_, List.getElem?_eq_getElem cb⟩
                  have hdy := loadC_at hy
                  have i2 := fun h => @row_iad h ib B.length K (by omega) (by omega)
                  rw [hKn] at i2
                  rw [hx, hy, addG, Option.some.injEq] at hg
                  subst hg
                  simp (config := { maxSteps := 4000000, implicitDefEqProofs := false }) only [F_addI_eq, WK0, WK1, WK2, WK3, WK4, WK5, WK6, WK7, WK8, WK9, WK10, WK11, WK12, WK13, WK14, WK15, WK16, WK17, WK18, WK19, WK20, WK21, WK22, WK23, WK24, WK25, WK26, WK27, WK28, look_hit, look_miss, List.map_cons, List.map_nil, Nat.add_zero, max_v, min_v, ↓cnd_t, ↓cnd_f, ↓grd_b, ↓grd_u, startEnv, Option.map_some, List.length_nil, List.length_cons, List.nil_append, List.cons_append, List.getElem?_cons_zero, List.getElem?_cons_succ, List.set_cons_zero, List.set_cons_succ, Bool.not_true, Bool.not_false, reduceIte, Nat.reduceEqDiff, Nat.reduceAdd, Nat.reduceLT, blt_lit, beq_lit, Bool.or_true, Bool.true_or, Bool.or_false, Bool.false_or, Bool.and_true, Bool.true_and, Bool.and_self, cond_true, cond_false, List.append_nil, Iv.eta, Option.map_none, idxO_l0, idxO_l1, decide_true, decide_false, reqs_true, Int.zero_sub, wrap_lit, wrapu_lit, Int.reduceLE, Int.reduceLT, Int.reduceAdd, Int.reduceSub, Int.reduceMul, Int.reduceNeg, Int.reduceEq, Option.bind_some, bin_shr_u64, bin_shl_u64, bin_shr_i64, bin_shl_i64, and_m32', Int.reduceToNat, Int.reducePow, Int.reduceMod, Int.reduceDiv, wrap_u64s, true_or, or_true, true_and, and_true, Option.isSome_none, Option.isSome_some, Nat.reduceLeDiff, Nat.reduceMul, Int.toNat_natCast, Int.cast_ofNat_Int, Int.natCast_zero, Int.natCast_one, List.isEmpty_nil, List.isEmpty_cons, List.replicate_zero, List.replicate_succ, T1, T2, T3, T4, T5, T6, T9, T10, T11, T12, T21, T22, T23, T24, T25, T26, T27, T28, T30, T31, T32, T33, T34, T35, T36, T37, T38, T39, T40, T41, T42, T44, T45, T46, T47, T48, T49, T50, T51, T52, T53, T55, T56, T57, T58, T59, T60, T61, T63, T64, T66, T67, T68, T69, T70, T71, T72, T73, T74, T75, T76, T77, T78, T79, T80, T81, T82, T83, T84, T86, T87, T88, T89, T91, T93, T94, T95, T98, T100, T106, T107, T108, T109, T110, T112, T113, l0, l1, l6, l7, hN, hMM, d1, d2, d3, d4, i1, i2, hA', hB', gA, gB, hdx, hdy, ha2, w1, sameLen_app, Iv.eta]
                  repeat' (first | with_reducible refine cnd_split (fun hc => ?_) (fun hc => ?_) | with_reducible refine Reqs.mk ?_ ?_)
                  all_goals first | trivial | skip
                  apply fin
                  · simp [look, l0]
                  · simp [look, l1]
                  · rfl
                  · rfl
                · have d3 : decide (K < M) = false := by simp only [decide_eq_false_iff_not]; omega
                  have d4 : decide (M ≤ K) = true := by simp only [decide_eq_true_eq]; omega
                  have hy : B[k]? = none := List.getElem?_eq_none (by omega)
                  rw [hx, hy, addG, Option.some.injEq] at hg
                  subst hg
                  simp (config := { maxSteps := 4000000, implicitDefEqProofs := false }) only [F_addI_eq, WK0, WK1, WK2, WK3, WK4, WK5, WK6, WK7, WK8, WK9, WK10, WK11, WK12, WK13, WK14, WK15, WK16, WK17, WK18, WK19, WK20, WK21, WK22, WK23, WK24, WK25, WK26, WK27, WK28, look_hit, look_miss, List.map_cons, List.map_nil, Nat.add_zero, max_v, min_v, ↓cnd_t, ↓cnd_f, ↓grd_b, ↓grd_u, startEnv, Option.map_some, List.length_nil, List.length_cons, List.nil_append, List.cons_append, List.getElem?_cons_zero, List.getElem?_cons_succ, List.set_cons_zero, List.set_cons_succ, Bool.not_true, Bool.not_false, reduceIte, Nat.reduceEqDiff, Nat.reduceAdd, Nat.reduceLT, blt_lit, beq_lit, Bool.or_true, Bool.true_or, Bool.or_false, Bool.false_or, Bool.and_true, Bool.true_and, Bool.and_self, cond_true, cond_false, List.append_nil, Iv.eta, Option.map_none, idxO_l0, idxO_l1, decide_true, decide_false, reqs_true, Int.zero_sub, wrap_lit, wrapu_lit, Int.reduceLE, Int.reduceLT, Int.reduceAdd, Int.reduceSub, Int.reduceMul, Int.reduceNeg, Int.reduceEq, Option.bind_some, bin_shr_u64, bin_shl_u64, bin_shr_i64, bin_shl_i64, and_m32', Int.reduceToNat, Int.reducePow, Int.reduceMod, Int.reduceDiv, wrap_u64s, true_or, or_true, true_and, and_true, Option.isSome_none, Option.isSome_some, Nat.reduceLeDiff, Nat.reduceMul, Int.toNat_natCast, Int.cast_ofNat_Int, Int.natCast_zero, Int.natCast_one, List.isEmpty_nil, List.isEmpty_cons, List.replicate_zero, List.replicate_succ, T1, T2, T3, T4, T5, T6, T9, T10, T11, T12, T21, T22, T23, T24, T25, T26, T27, T28, T30, T31, T32, T33, T34, T35, T36, T37, T38, T39, T40, T41, T42, T44, T45, T46, T47, T48, T49, T50, T51, T52, T53, T55, T56, T57, T58, T59, T60, T61, T63, T64, T66, T67, T68, T69, T70, T71, T72, T73, T74, T75, T76, T77, T78, T79, T80, T81, T82, T83, T84, T86, T87, T88, T89, T91, T93, T94, T95, T98, T100, T106, T107, T108, T109, T110, T112, T113, l0, l1, l6, l7, hN, hMM, d1, d2, d3, d4, i1, hA', hB', gA, gB, hdx, ha2, w1, sameLen_app, Iv.eta]
                  repeat' (first | with_reducible refine cnd_split (fun hc => ?_) (fun hc => ?_) | with_reducible refine Reqs.mk ?_ ?_)
                  all_goals first | trivial | skip
                  apply fin
                  · simp [look, l0]
                  · simp [look, l1]
                  · rfl
                  · rfl
              · have d1 : decide (K < N) = false := by simp only [decide_eq_false_iff_not]; omega
                have d2 : decide (N ≤ K) = true := by simp only [decide_eq_true_eq]; omega
                have hx : A[k]? = none := List.getElem?_eq_none (by omega)
                have cb : k < B.length := by omega
                have d3 : decide (K < M) = true := by simp only [decide_eq_true_eq]; omega
                have d4 : decide (M ≤ K) = false := by simp only [decide_eq_false_iff_not]; omega
                obtain ⟨y, hy⟩ : ∃ y, B[k]? = some y := ⟨_, List.getElem?_eq_getElem cb⟩
                have hdy := loadC_at hy
                have i2 := fun h => @row_iad h ib B.length K (by omega) (by omega)
                rw [hKn] at i2
                rw [hx, hy, addG, Option.some.injEq] at hg
                subst hg
                simp (config := { maxSteps := 4000000, implicitDefEqProofs := false }) only [F_addI_eq, WK0, WK1, WK2, WK3, WK4, WK5, WK6, WK7, WK8, WK9, WK10, WK11, WK12, WK13, WK14, WK15, WK16, WK17, WK18, WK19, WK20, WK21, WK22, WK23, WK24, WK25, WK26, WK27, WK28, look_hit, look_miss, List.map_cons, List.map_nil, Nat.add_zero, max_v, min_v, ↓cnd_t, ↓cnd_f, ↓grd_b, ↓grd_u, startEnv, Option.map_some, List.length_nil, List.length_cons, List.nil_append, List.cons_append, List.getElem?_cons_zero, List.getElem?_cons_succ, List.set_cons_zero, List.set_cons_succ, Bool.not_true, Bool.not_false, reduceIte, Nat.reduceEqDiff, Nat.reduceAdd, Nat.reduceLT, blt_lit, beq_lit, Bool.or_true, Bool.true_or, Bool.or_false, Bool.false_or, Bool.and_true, Bool.true_and, Bool.and_self, cond_true, cond_false, List.append_nil, Iv.eta, Option.map_none, idxO_l0, idxO_l1, decide_true, decide_false, reqs_true, Int.zero_sub, wrap_lit, wrapu_lit, Int.reduceLE, Int.reduceLT, Int.reduceAdd, Int.reduceSub, Int.reduceMul, Int.reduceNeg, Int.reduceEq, Option.bind_some, bin_shr_u64, bin_shl_u64, bin_shr_i64, bin_shl_i64, and_m32', Int.reduceToNat, Int.reducePow, Int.reduceMod, Int.reduceDiv, wrap_u64s, true_or, or_true, true_and, and_true, Option.isSome_none, Option.isSome_some, Nat.reduceLeDiff, Nat.reduceMul, Int.toNat_natCast, Int.cast_ofNat_Int, Int.natCast_zero, Int.natCast_one, List.isEmpty_nil, List.isEmpty_cons, List.replicate_zero, List.replicate_succ, T1, T2, T3, T4, T5, T6, T9, T10, T11, T12, T21, T22, T23, T24, T25, T26, T27, T28, T30, T31, T32, T33, T34, T35, T36, T37, T38, T39, T40, T41, T42, T44, T45, T46, T47, T48, T49, T50, T51, T52, T53, T55, T56, T57, T58, T59, T60, T61, T63, T64, T66, T67, T68, T69, T70, T71, T72, T73, T74, T75, T76, T77, T78, T79, T80, T81, T82, T83, T84, T86, T87, T88, T89, T91, T93, T94, T95, T98, T100, T106, T107, T108, T109, T110, T112, T113, l0, l1, l6, l7, hN, hMM, d1, d2, d3, d4, i2, hA', hB', gA, gB, hdy, ha2, w1, sameLen_app, Iv.eta]
                repeat' (first | with_reducible refine cnd_split (fun hc => ?_) (fun hc => ?_) | with_reducible refine Reqs.mk ?_ ?_)
                all_goals first | trivial | skip
                apply fin
                · simp [look, l0]
                · simp [look, l1]
                · rfl
                · rfl
            · have d1 : decide (K < N) = false := by simp only [decide_eq_false_iff_not]; omega
              have d3 : decide (K < M) = false := by simp only [decide_eq_false_iff_not]; omega
              have hkk : k = (addL A B).length := by omega
              rw [List.take_of_length_le (by omega)] at hR
              have hRA : RowAt hp.length h sl 2 k (cellsI (addL A B)) := by
                rcases hR with hR | ⟨h0, _⟩
                · exact hR
                · omega
              obtain ⟨i, rfl, hro⟩ := hRA.row (by omega) hkk.symm (by omega)
              have htk := take_of (h := h) (hp := hp) (by omega) hbx
              unfold knownL at hr hh
              cases hall : (addL A B).all okI with
              | true =>
                rw [if_pos hall] at hr hh
                rw [← hkk] at hr hh
                subst hr hh
                simp (config := { maxSteps := 4000000, implicitDefEqProofs := false }) only [F_addI_eq, WK0, WK1, WK2, WK3, WK4, WK5, WK6, WK7, WK8, WK9, WK10, WK11, WK12, WK13, WK14, WK15, WK16, WK17, WK18, WK19, WK20, WK21, WK22, WK23, WK24, WK25, WK26, WK27, WK28, look_hit, look_miss, List.map_cons, List.map_nil, Nat.add_zero, max_v, min_v, ↓cnd_t, ↓cnd_f, ↓grd_b, ↓grd_u, startEnv, Option.map_some, List.length_nil, List.length_cons, List.nil_append, List.cons_append, List.getElem?_cons_zero, List.getElem?_cons_succ, List.set_cons_zero, List.set_cons_succ, Bool.not_true, Bool.not_false, reduceIte, Nat.reduceEqDiff, Nat.reduceAdd, Nat.reduceLT, blt_lit, beq_lit, Bool.or_true, Bool.true_or, Bool.or_false, Bool.false_or, Bool.and_true, Bool.true_and, Bool.and_self, cond_true, cond_false, List.append_nil, Iv.eta, Option.map_none, idxO_l0, idxO_l1, decide_true, decide_false, reqs_true, Int.zero_sub, wrap_lit, wrapu_lit, Int.reduceLE, Int.reduceLT, Int.reduceAdd, Int.reduceSub, Int.reduceMul, Int.reduceNeg, Int.reduceEq, Option.bind_some, bin_shr_u64, bin_shl_u64, bin_shr_i64, bin_shl_i64, and_m32', Int.reduceToNat, Int.reducePow, Int.reduceMod, Int.reduceDiv, wrap_u64s, true_or, or_true, true_and, and_true, Option.isSome_none, Option.isSome_some, Nat.reduceLeDiff, Nat.reduceMul, Int.toNat_natCast, Int.cast_ofNat_Int, Int.natCast_zero, Int.natCast_one, List.isEmpty_nil, List.isEmpty_cons, List.replicate_zero, List.replicate_succ, T1, T2, T3, T4, T5, T6, T9, T10, T11, T12, T21, T22, T23, T24, T25, T26, T27, T28, T30, T31, T32, T33, T34, T35, T36, T37, T38, T39, T40, T41, T42, T44, T45, T46, T47, T48, T49, T50, T51, T52, T53, T55, T56, T57, T58, T59, T60, T61, T63, T64, T66, T67, T68, T69, T70, T71, T72, T73, T74, T75, T76, T77, T78, T79, T80, T81, T82, T83, T84, T86, T87, T88, T89, T91, T93, T94, T95, T98, T100, T106, T107, T108, T109, T110, T112, T113, l0, l1, l6, l7, hN, hMM, d1, d3, M_l09End_eq, hro, enO_some, hall]
                repeat' (first | with_reducible refine cnd_split (fun hc => ?_) (fun hc => ?_) | with_reducible refine Reqs.mk ?_ ?_)
                all_goals first | exact ⟨by omega, by omega⟩ | exact endM_rowT hRA (by omega) (by omega) htk
              | false =>
                rw [if_neg (by rw [hall]; decide)] at hr hh
                subst hr hh
                simp (config := { maxSteps := 4000000, implicitDefEqProofs := false }) only [F_addI_eq, WK0, WK1, WK2, WK3, WK4, WK5, WK6, WK7, WK8, WK9, WK10, WK11, WK12, WK13, WK14, WK15, WK16, WK17, WK18, WK19, WK20, WK21, WK22, WK23, WK24, WK25, WK26, WK27, WK28, look_hit, look_miss, List.map_cons, List.map_nil, Nat.add_zero, max_v, min_v, ↓cnd_t, ↓cnd_f, ↓grd_b, ↓grd_u, startEnv, Option.map_some, List.length_nil, List.length_cons, List.nil_append, List.cons_append, List.getElem?_cons_zero, List.getElem?_cons_succ, List.set_cons_zero, List.set_cons_succ, Bool.not_true, Bool.not_false, reduceIte, Nat.reduceEqDiff, Nat.reduceAdd, Nat.reduceLT, blt_lit, beq_lit, Bool.or_true, Bool.true_or, Bool.or_false, Bool.false_or, Bool.and_true, Bool.true_and, Bool.and_self, cond_true, cond_false, List.append_nil, Iv.eta, Option.map_none, idxO_l0, idxO_l1, decide_true, decide_false, reqs_true, Int.zero_sub, wrap_lit, wrapu_lit, Int.reduceLE, Int.reduceLT, Int.reduceAdd, Int.reduceSub, Int.reduceMul, Int.reduceNeg, Int.reduceEq, Option.bind_some, bin_shr_u64, bin_shl_u64, bin_shr_i64, bin_shl_i64, and_m32', Int.reduceToNat, Int.reducePow, Int.reduceMod, Int.reduceDiv, wrap_u64s, true_or, or_true, true_and, and_true, Option.isSome_none, Option.isSome_some, Nat.reduceLeDiff, Nat.reduceMul, Int.toNat_natCast, Int.cast_ofNat_Int, Int.natCast_zero, Int.natCast_one, List.isEmpty_nil, List.isEmpty_cons, List.replicate_zero, List.replicate_succ, T1, T2, T3, T4, T5, T6, T9, T10, T11, T12, T21, T22, T23, T24, T25, T26, T27, T28, T30, T31, T32, T33, T34, T35, T36, T37, T38, T39, T40, T41, T42, T44, T45, T46, T47, T48, T49, T50, T51, T52, T53, T55, T56, T57, T58, T59, T60, T61, T63, T64, T66, T67, T68, T69, T70, T71, T72, T73, T74, T75, T76, T77, T78, T79, T80, T81, T82, T83, T84, T86, T87, T88, T89, T91, T93, T94, T95, T98, T100, T106, T107, T108, T109, T110, T112, T113, l0, l1, l6, l7, hN, hMM, d1, d3, M_l09End_eq, hro, enO_some, hall]
                repeat' (first | with_reducible refine cnd_split (fun hc => ?_) (fun hc => ?_) | with_reducible refine Reqs.mk ?_ ?_)
                all_goals first | exact ⟨by omega, by omega⟩ | exact endM_rowT (L := hp.length) (sl := .p (.sl none 0 0)) (z := 2) (n := 0) (cs := []) (.inl ⟨rfl, rfl, rfl⟩) (by omega) (by omega) htk
  · cases hM

end Go.Proofs.Ytcnapkdccjibpaa.Eng
