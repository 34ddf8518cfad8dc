/- What functions of the program compute, and that the program computes it: part 15. -/
import Derived.Test.YtcnapkdccjibpaaTab
import Derived.Test.YtcnapkdccjibpaaEng16
import Derived.Laws.BitsLemmas
import Derived.Laws.Bits64
import Derived.Laws.Bits64b
import Derived.Lib.Mul64
import Derived.Lib.BitFns
import Derived.Laws.Externs
import Derived.Test.YtcnapkdccjibpaaL1
import Derived.Test.YtcnapkdccjibpaaL2
import Derived.Test.YtcnapkdccjibpaaL4
import Derived.Test.YtcnapkdccjibpaaL12
import Derived.Test.YtcnapkdccjibpaaL13
import Derived.Test.YtcnapkdccjibpaaL14
namespace Go.Proofs.Ytcnapkdccjibpaa.Eng
open Go Go.RowKit
set_option linter.unusedVariables false
set_option linter.unusedSimpArgs false
set_option maxRecDepth 100000
set_option maxHeartbeats 1000000
-- laws.toIntervalS
theorem laws_toIntervalS_toS_ok : Mn Try.prog 10 M_toS := by
  refine mn_of_go (O := orc [⟨18, F_toI, .inl laws_toInterval_toI_ok⟩]) mixed T_ok (orc_sound _) Try.func10 (by kernel_rfl) rfl Try.ntmps10 (by kernel_rfl) Try.results10 ?_
  intro m args hp pre r h' hM hpre
  unfold M_toS at hM
  split at hM
  · rename_i a n c
    simp only [Option.some.injEq, Prod.mk.injEq] at hM
    obtain ⟨rfl, hr, hh⟩ := hM
    subst hr hh
    obtain ⟨k1, k2⟩ := hpre
    refine ⟨by simp, ?_⟩
    by_cases hn : n = 0
    · subst hn
      have z0 : ((0 : Nat) : Int) = 0 := rfl
      simp (config := { maxSteps := 4000000, implicitDefEqProofs := false }) only [F_toI_eq, WK0, WK1, WK2, WK3, WK4, WK5, WK6, WK7, WK8, WK9, WK10, WK11, WK12, WK13, WK14, WK15, WK16, WK17, WK18, WK19, WK20, WK21, WK22, WK23, WK24, WK25, WK26, WK27, WK28, WK29, WK30, look_hit, look_miss, List.map_cons, List.map_nil, Nat.add_zero, max_v, min_v, ↓cnd_t, ↓cnd_f, ↓grd_b, ↓grd_u, startEnv, Option.map_some, List.length_nil, List.length_cons, List.nil_append, List.cons_append, List.getElem?_cons_zero, List.getElem?_cons_succ, List.set_cons_zero, List.set_cons_succ, Bool.not_true, Bool.not_false, reduceIte, Nat.reduceEqDiff, Nat.reduceAdd, Nat.reduceLT, blt_lit, beq_lit, Bool.or_true, Bool.true_or, Bool.or_false, Bool.false_or, Bool.and_true, Bool.true_and, Bool.and_self, cond_true, cond_false, List.append_nil, Iv.eta, Option.map_none, idxO_l0, idxO_l1, decide_true, decide_false, reqs_true, Int.zero_sub, wrap_lit, wrapu_lit, Int.reduceLE, Int.reduceLT, Int.reduceAdd, Int.reduceSub, Int.reduceMul, Int.reduceNeg, Int.reduceEq, Option.bind_some, bin_shr_u64, bin_shl_u64, bin_shr_i64, bin_shl_i64, and_m32', Int.reduceToNat, Int.reducePow, Int.reduceMod, Int.reduceDiv, wrap_u64s, true_or, or_true, true_and, and_true, Option.isSome_none, Option.isSome_some, Nat.reduceLeDiff, Nat.reduceMul, Int.toNat_natCast, Int.cast_ofNat_Int, Int.natCast_zero, Int.natCast_one, List.isEmpty_nil, List.isEmpty_cons, List.replicate_zero, List.replicate_succ, T1, T2, T3, T4, T5, T6, T9, T10, T11, T12, T21, T22, T23, T24, T25, T26, T27, T28, T30, T31, T32, T33, T34, T35, T36, T37, T38, T39, T40, T41, T42, T44, T45, T46, T47, T48, T49, T50, T51, T52, T53, T55, T56, T57, T58, T59, T60, T61, T63, T64, T66, T67, T68, T69, T70, T71, T72, T73, T74, T75, T76, T77, T78, T79, T80, T81, T82, T83, T84, T86, T87, T88, T89, T91, T93, T94, T95, T98, T100, T106, T107, T108, T109, T110, T112, T113, z0, mks_0, go_turn_eq, again_n, again_r, again_e]
      exact endM_rowE (l := []) (n := 0)
    · have e1 : mksO hp (some (tdRow [PC.int .i64 0, PC.int .i64 0])) (some (n : Int)) (some (n : Int)) = _ := mks_new (by omega) k2
      have er : rowE hp.length n = .row hp.length 0 n 2 := by unfold rowE; rw [if_neg hn]
      obtain ⟨N, hN⟩ : ∃ N : Int, (n : Int) = N := ⟨_, rfl⟩
      rw [hN] at e1
      simp (config := { maxSteps := 4000000, implicitDefEqProofs := false }) only [F_toI_eq, WK0, WK1, WK2, WK3, WK4, WK5, WK6, WK7, WK8, WK9, WK10, WK11, WK12, WK13, WK14, WK15, WK16, WK17, WK18, WK19, WK20, WK21, WK22, WK23, WK24, WK25, WK26, WK27, WK28, WK29, WK30, look_hit, look_miss, List.map_cons, List.map_nil, Nat.add_zero, max_v, min_v, ↓cnd_t, ↓cnd_f, ↓grd_b, ↓grd_u, startEnv, Option.map_some, List.length_nil, List.length_cons, List.nil_append, List.cons_append, List.getElem?_cons_zero, List.getElem?_cons_succ, List.set_cons_zero, List.set_cons_succ, Bool.not_true, Bool.not_false, reduceIte, Nat.reduceEqDiff, Nat.reduceAdd, Nat.reduceLT, blt_lit, beq_lit, Bool.or_true, Bool.true_or, Bool.or_false, Bool.false_or, Bool.and_true, Bool.true_and, Bool.and_self, cond_true, cond_false, List.append_nil, Iv.eta, Option.map_none, idxO_l0, idxO_l1, decide_true, decide_false, reqs_true, Int.zero_sub, wrap_lit, wrapu_lit, Int.reduceLE, Int.reduceLT, Int.reduceAdd, Int.reduceSub, Int.reduceMul, Int.reduceNeg, Int.reduceEq, Option.bind_some, bin_shr_u64, bin_shl_u64, bin_shr_i64, bin_shl_i64, and_m32', Int.reduceToNat, Int.reducePow, Int.reduceMod, Int.reduceDiv, wrap_u64s, true_or, or_true, true_and, and_true, Option.isSome_none, Option.isSome_some, Nat.reduceLeDiff, Nat.reduceMul, Int.toNat_natCast, Int.cast_ofNat_Int, Int.natCast_zero, Int.natCast_one, List.isEmpty_nil, List.isEmpty_cons, List.replicate_zero, List.replicate_succ, T1, T2, T3, T4, T5, T6, T9, T10, T11, T12, T21, T22, T23, T24, T25, T26, T27, T28, T30, T31, T32, T33, T34, T35, T36, T37, T38, T39, T40, T41, T42, T44, T45, T46, T47, T48, T49, T50, T51, T52, T53, T55, T56, T57, T58, T59, T60, T61, T63, T64, T66, T67, T68, T69, T70, T71, T72, T73, T74, T75, T76, T77, T78, T79, T80, T81, T82, T83, T84, T86, T87, T88, T89, T91, T93, T94, T95, T98, T100, T106, T107, T108, T109, T110, T112, T113, hN, e1]
      refine go_loop (α := Nat × List Iv) (fun s => n - s.1) (fun s e h => h = hp ++ [cellsI s.2] ∧ look e 0 = some (.v (.c (.p (.sl a n c)))) ∧ look e 3 = some (.v (.c (.row hp.length 0 n 2))) ∧ look e 4 = some (.v (.c (.p (.int .i64 (s.1 : Int))))) ∧ s.1 ≤ n ∧ s.2.length = n ∧ s.2.take s.1 = (ivsAt m a n).take s.1) (0, List.replicate n ⟨0, 0⟩) ⟨rfl, rfl, rfl, rfl, by simp, by simp, by simp⟩ ?_
      rintro X ⟨k, L⟩ e h ⟨rfl, l0, l3, l4, hk, hL, ht⟩ hX
      simp only at l4 hk hL ht hX
      obtain ⟨K, hK⟩ : ∃ K : Int, (k : Int) = K := ⟨_, rfl⟩
      rw [hK] at l4
      by_cases hkl : k < n
      · have c0 : decide (K < N) = true := by simp only [decide_eq_true_eq]; omega
        obtain ⟨b, rfl, hc⟩ := k1.cells hkl
        have hKn : K.toNat = k := by omega
        have i1 := fun h => @row_iad h hp.length n K (by omega) (by omega)
        rw [hKn] at i1
        have i2 : iadO (hp ++ [cellsI L]) (some (tdRow [PC.int .i64 0, PC.int .i64 0])) (some (.c (.p (.sl (some b) n c)))) (some (.int .i64 K)) = some (some (.v (.c (.ptr (.abs (b.add (k * 2)))))), hp ++ [cellsI L]) := by
          rw [iadO_sl (by simp only [Bool.and_eq_true, decide_eq_true_eq]; omega), hKn]; rfl
        have w1 : IntKind.i64.wrap (K + 1) = K + 1 := wrap_om (by omega) (by omega)
        have hs := fun h => @storeC_at h hp.length k L (ivAt m (some b) k).lo (ivAt m (some b) k).hi (by omega)
        simp (config := { maxSteps := 4000000, implicitDefEqProofs := false }) only [F_toI_eq, WK0, WK1, WK2, WK3, WK4, WK5, WK6, WK7, WK8, WK9, WK10, WK11, WK12, WK13, WK14, WK15, WK16, WK17, WK18, WK19, WK20, WK21, WK22, WK23, WK24, WK25, WK26, WK27, WK28, WK29, WK30, look_hit, look_miss, List.map_cons, List.map_nil, Nat.add_zero, max_v, min_v, ↓cnd_t, ↓cnd_f, ↓grd_b, ↓grd_u, startEnv, Option.map_some, List.length_nil, List.length_cons, List.nil_append, List.cons_append, List.getElem?_cons_zero, List.getElem?_cons_succ, List.set_cons_zero, List.set_cons_succ, Bool.not_true, Bool.not_false, reduceIte, Nat.reduceEqDiff, Nat.reduceAdd, Nat.reduceLT, blt_lit, beq_lit, Bool.or_true, Bool.true_or, Bool.or_false, Bool.false_or, Bool.and_true, Bool.true_and, Bool.and_self, cond_true, cond_false, List.append_nil, Iv.eta, Option.map_none, idxO_l0, idxO_l1, decide_true, decide_false, reqs_true, Int.zero_sub, wrap_lit, wrapu_lit, Int.reduceLE, Int.reduceLT, Int.reduceAdd, Int.reduceSub, Int.reduceMul, Int.reduceNeg, Int.reduceEq, Option.bind_some, bin_shr_u64, bin_shl_u64, bin_shr_i64, bin_shl_i64, and_m32', Int.reduceToNat, Int.reducePow, Int.reduceMod, Int.reduceDiv, wrap_u64s, true_or, or_true, true_and, and_true, Option.isSome_none, Option.isSome_some, Nat.reduceLeDiff, Nat.reduceMul, Int.toNat_natCast, Int.cast_ofNat_Int, Int.natCast_zero, Int.natCast_one, List.isEmpty_nil, List.isEmpty_cons, List.replicate_zero, List.replicate_succ, T1, T2, T3, T4, T5, T6, T9, T10, T11, T12, T21, T22, T23, T24, T25, T26, T27, T28, T30, T31, T32, T33, T34, T35, T36, T37, T38, T39, T40, T41, T42, T44, T45, T46, T47, T48, T49, T50, T51, T52, T53, T55, T56, T57, T58, T59, T60, T61, T63, T64, T66, T67, T68, T69, T70, T71, T72, T73, T74, T75, T76, T77, T78, T79, T80, T81, T82, T83, T84, T86, T87, T88, T89, T91, T93, T94, T95, T98, T100, T106, T107, T108, T109, T110, T112, T113, l0, l3, l4, hN, c0, i1, i2, hc, hs, bx_get0, bx_set0, w1]
        refine hX (k + 1, L.set k (ivAt m (some b) k)) _ _ (by simp only; omega) ⟨rfl, ?_, ?_, ?_, by simp only; omega, by simpa using hL, ?_⟩
        · simp [look, l0]
        · simp [look, l3]
        · rw [← hK]; rfl
        · have hg := @ivsAt_get m (some b) n k hkl
          simp only
          rw [List.take_add_one, List.take_add_one, List.take_set, ht, hg, List.getElem?_set_self (by omega), List.set_eq_of_length_le (by simp; omega)]
      · have c0 : decide (K < N) = false := by simp only [decide_eq_false_iff_not]; omega
        have hLe : L = ivsAt m a n := by
          have e1 : L.take k = L := List.take_of_length_le (by omega)
          have e2 : (ivsAt m a n).take k = ivsAt m a n := List.take_of_length_le (by rw [ivsAt_len]; omega)
          rw [e1, e2] at ht
          exact ht
        simp (config := { maxSteps := 4000000, implicitDefEqProofs := false }) only [F_toI_eq, WK0, WK1, WK2, WK3, WK4, WK5, WK6, WK7, WK8, WK9, WK10, WK11, WK12, WK13, WK14, WK15, WK16, WK17, WK18, WK19, WK20, WK21, WK22, WK23, WK24, WK25, WK26, WK27, WK28, WK29, WK30, look_hit, look_miss, List.map_cons, List.map_nil, Nat.add_zero, max_v, min_v, ↓cnd_t, ↓cnd_f, ↓grd_b, ↓grd_u, startEnv, Option.map_some, List.length_nil, List.length_cons, List.nil_append, List.cons_append, List.getElem?_cons_zero, List.getElem?_cons_succ, List.set_cons_zero, List.set_cons_succ, Bool.not_true, Bool.not_false, reduceIte, Nat.reduceEqDiff, Nat.reduceAdd, Nat.reduceLT, blt_lit, beq_lit, Bool.or_true, Bool.true_or, Bool.or_false, Bool.false_or, Bool.and_true, Bool.true_and, Bool.and_self, cond_true, cond_false, List.append_nil, Iv.eta, Option.map_none, idxO_l0, idxO_l1, decide_true, decide_false, reqs_true, Int.zero_sub, wrap_lit, wrapu_lit, Int.reduceLE, Int.reduceLT, Int.reduceAdd, Int.reduceSub, Int.reduceMul, Int.reduceNeg, Int.reduceEq, Option.bind_some, bin_shr_u64, bin_shl_u64, bin_shr_i64, bin_shl_i64, and_m32', Int.reduceToNat, Int.reducePow, Int.reduceMod, Int.reduceDiv, wrap_u64s, true_or, or_true, true_and, and_true, Option.isSome_none, Option.isSome_some, Nat.reduceLeDiff, Nat.reduceMul, Int.toNat_natCast, Int.cast_ofNat_Int, Int.natCast_zero, Int.natCast_one, List.isEmpty_nil, List.isEmpty_cons, List.replicate_zero, List.replicate_succ, T1, T2, T3, T4, T5, T6, T9, T10, T11, T12, T21, T22, T23, T24, T25, T26, T27, T28, T30, T31, T32, T33, T34, T35, T36, T37, T38, T39, T40, T41, T42, T44, T45, T46, T47, T48, T49, T50, T51, T52, T53, T55, T56, T57, T58, T59, T60, T61, T63, T64, T66, T67, T68, T69, T70, T71, T72, T73, T74, T75, T76, T77, T78, T79, T80, T81, T82, T83, T84, T86, T87, T88, T89, T91, T93, T94, T95, T98, T100, T106, T107, T108, T109, T110, T112, T113, l0, l3, l4, hN, c0]
        rw [← hLe, ← er]
        exact endM_rowE (l := [])
  · cases hM

-- def eqS
def eqL : List Iv → List Iv → Bool
  | [], [] => true
  | x :: a, y :: b => (decide (x.lo = y.lo) && decide (x.hi = y.hi)) && eqL a b
  | _, _ => false
theorem eqL_refl : ∀ (L : List Iv), eqL L L = true
  | [] => rfl
  | v :: r => by simp [eqL, eqL_refl r]
theorem eqL_len : ∀ {a b : List Iv}, a.length ≠ b.length → eqL a b = false
  | [], [], h => by simp at h
  | [], y :: b, h => rfl
  | x :: a, [], h => rfl
  | x :: a, y :: b, h => by
    rw [eqL, eqL_len (by simpa using h)]
    simp
def eqO (h : Heap) : Option (List Iv) → Option (List Iv) → Option (Prop × SV × Heap)
  | some A, some B => some (True, .v (.c (.p (.bool (eqL A B)))), h)
  | _, _ => none
theorem eqO_some {h : Heap} {A B : List Iv} : eqO h (some A) (some B) = some (True, .v (.c (.p (.bool (eqL A B)))), h) := rfl
def M_eqS : MT := fun m args h => match args with
  | [.c a, .c b] => eqO h (rowOf h a) (rowOf h b)
  | _ => none
theorem M_eqS_eq {m : Addr → Option PC} {h : Heap} {a b : Cl} : M_eqS m [.c a, .c b] h = eqO h (rowOf h a) (rowOf h b) := rfl
theorem drop_at {L : List Iv} {k : Nat} {v : Iv} (hv : L[k]? = some v) : L.drop k = v :: L.drop (k + 1) := by
  have hkl := (List.getElem?_eq_some_iff.1 hv).1
  rw [List.drop_eq_getElem_cons hkl]
  congr 1
  have := List.getElem?_eq_getElem hkl
  rw [hv] at this
  exact (Option.some.inj this).symm
theorem row_len {sl : Cl} {h : Heap} {L : List Iv} (hs : rowOf h sl = some L) : lenF (tdRow [PC.int .i64 0, PC.int .i64 0]) (.c sl) = some L.length := by
  rcases rowOf_out hs with ⟨i, rfl, _⟩ | ⟨rfl, i, o, rfl⟩ | ⟨rfl, rfl⟩ <;> rfl
theorem lenO_of {sl : Cl} {h : Heap} {L : List Iv} (hs : rowOf h sl = some L) : lenO (some [.c sl]) (some (tdRow [PC.int .i64 0, PC.int .i64 0])) = some (sp (.int .i64 (L.length : Int))) := by
  simp only [lenO]
  rw [row_len hs]
  rfl

-- laws.eqIntervalS
theorem laws_eqIntervalS_eqS_ok : Mn Try.prog 12 M_eqS := by
  refine mn_of_go (O := orc [⟨20, F_eqI, .inl laws_eqInterval_eqI_ok⟩]) mixed T_ok (orc_sound _) Try.func12 (by kernel_rfl) rfl Try.ntmps12 (by kernel_rfl) Try.results12 ?_
  intro m args hp pre r h' hM hpre
  unfold M_eqS at hM
  split at hM
  · rename_i sa sb
    cases ha : rowOf hp sa with
    | none => rw [ha] at hM; cases hM
    | some A =>
      cases hb : rowOf hp sb with
      | none => rw [ha, hb] at hM; cases hM
      | some B =>
        rw [ha, hb, eqO_some] at hM
        simp only [Option.some.injEq, Prod.mk.injEq] at hM
        obtain ⟨rfl, hr, hh⟩ := hM
        subst hr hh
        refine ⟨by simp, ?_⟩
        have la := lenO_of ha
        have lb := lenO_of hb
        obtain ⟨N, hN⟩ : ∃ N : Int, ((A.length : Nat) : Int) = N := ⟨_, rfl⟩
        obtain ⟨M, hMM⟩ : ∃ M : Int, ((B.length : Nat) : Int) = M := ⟨_, rfl⟩
        rw [hN] at la
        rw [hMM] at lb
        by_cases hl : N = M
        · have e0 : decide (N = M) = true := by simpa using hl
          have hl' : A.length = B.length := by omega
          simp (config := { maxSteps := 4000000, implicitDefEqProofs := false }) only [F_eqI_eq, WK0, WK1, WK2, WK3, WK4, WK5, WK6, WK7, WK8, WK9, WK10, WK11, WK12, WK13, WK14, WK15, WK16, WK17, WK18, WK19, WK20, WK21, WK22, WK23, WK24, WK25, WK26, WK27, WK28, WK29, WK30, look_hit, look_miss, List.map_cons, List.map_nil, Nat.add_zero, max_v, min_v, ↓cnd_t, ↓cnd_f, ↓grd_b, ↓grd_u, startEnv, Option.map_some, List.length_nil, List.length_cons, List.nil_append, List.cons_append, List.getElem?_cons_zero, List.getElem?_cons_succ, List.set_cons_zero, List.set_cons_succ, Bool.not_true, Bool.not_false, reduceIte, Nat.reduceEqDiff, Nat.reduceAdd, Nat.reduceLT, blt_lit, beq_lit, Bool.or_true, Bool.true_or, Bool.or_false, Bool.false_or, Bool.and_true, Bool.true_and, Bool.and_self, cond_true, cond_false, List.append_nil, Iv.eta, Option.map_none, idxO_l0, idxO_l1, decide_true, decide_false, reqs_true, Int.zero_sub, wrap_lit, wrapu_lit, Int.reduceLE, Int.reduceLT, Int.reduceAdd, Int.reduceSub, Int.reduceMul, Int.reduceNeg, Int.reduceEq, Option.bind_some, bin_shr_u64, bin_shl_u64, bin_shr_i64, bin_shl_i64, and_m32', Int.reduceToNat, Int.reducePow, Int.reduceMod, Int.reduceDiv, wrap_u64s, true_or, or_true, true_and, and_true, Option.isSome_none, Option.isSome_some, Nat.reduceLeDiff, Nat.reduceMul, Int.toNat_natCast, Int.cast_ofNat_Int, Int.natCast_zero, Int.natCast_one, List.isEmpty_nil, List.isEmpty_cons, List.replicate_zero, List.replicate_succ, T1, T2, T3, T4, T5, T6, T9, T10, T11, T12, T21, T22, T23, T24, T25, T26, T27, T28, T30, T31, T32, T33, T34, T35, T36, T37, T38, T39, T40, T41, T42, T44, T45, T46, T47, T48, T49, T50, T51, T52, T53, T55, T56, T57, T58, T59, T60, T61, T63, T64, T66, T67, T68, T69, T70, T71, T72, T73, T74, T75, T76, T77, T78, T79, T80, T81, T82, T83, T84, T86, T87, T88, T89, T91, T93, T94, T95, T98, T100, T106, T107, T108, T109, T110, T112, T113, la, lb, e0]
          refine go_loop (α := Nat) (fun s => A.length - s) (fun s e h => h = hp ∧ look e 0 = some (.v (.c sa)) ∧ look e 1 = some (.v (.c sb)) ∧ look e 5 = some (.v (.c (.p (.int .i64 (s : Int))))) ∧ s ≤ A.length ∧ eqL (A.drop s) (B.drop s) = eqL A B) 0 ⟨rfl, rfl, rfl, rfl, by omega, rfl⟩ ?_
          rintro X k e h ⟨rfl, l0, l1, l5, hk, hF⟩ hX
          obtain ⟨K, hK⟩ : ∃ K : Int, (k : Int) = K := ⟨_, rfl⟩
          rw [hK] at l5
          by_cases hkl : k < A.length
          · have c0 : decide (K < N) = true := by simp only [decide_eq_true_eq]; omega
            obtain ⟨v, hv⟩ : ∃ v, A[k]? = some v := ⟨_, List.getElem?_eq_getElem hkl⟩
            obtain ⟨u, hu⟩ : ∃ u, B[k]? = some u := ⟨_, List.getElem?_eq_getElem (by omega)⟩
            have hda := loadC_at hv
            have hdb := loadC_at hu
            rw [drop_at hv, drop_at hu, eqL] at hF
            have hKn : K.toNat = k := by omega
            rcases rowOf_out ha with ⟨i, rfl, hi, _, hA1⟩ | ⟨rfl, _⟩ | ⟨rfl, _⟩
            · rcases rowOf_out hb with ⟨j, rfl, hj, _, _⟩ | ⟨rfl, _⟩ | ⟨rfl, _⟩
              · have i1 := fun h => @row_iad h i A.length K (by omega) (by omega)
                have i2 := fun h => @row_iad h j B.length K (by omega) (by omega)
                rw [hKn] at i1 i2
                have w1 : IntKind.i64.wrap (K + 1) = K + 1 := wrap_om (by omega) (by omega)
                cases hc : (decide (v.lo = u.lo) && decide (v.hi = u.hi)) with
                | true =>
                  rw [hc, Bool.true_and] at hF
                  simp (config := { maxSteps := 4000000, implicitDefEqProofs := false }) only [F_eqI_eq, WK0, WK1, WK2, WK3, WK4, WK5, WK6, WK7, WK8, WK9, WK10, WK11, WK12, WK13, WK14, WK15, WK16, WK17, WK18, WK19, WK20, WK21, WK22, WK23, WK24, WK25, WK26, WK27, WK28, WK29, WK30, look_hit, look_miss, List.map_cons, List.map_nil, Nat.add_zero, max_v, min_v, ↓cnd_t, ↓cnd_f, ↓grd_b, ↓grd_u, startEnv, Option.map_some, List.length_nil, List.length_cons, List.nil_append, List.cons_append, List.getElem?_cons_zero, List.getElem?_cons_succ, List.set_cons_zero, List.set_cons_succ, Bool.not_true, Bool.not_false, reduceIte, Nat.reduceEqDiff, Nat.reduceAdd, Nat.reduceLT, blt_lit, beq_lit, Bool.or_true, Bool.true_or, Bool.or_false, Bool.false_or, Bool.and_true, Bool.true_and, Bool.and_self, cond_true, cond_false, List.append_nil, Iv.eta, Option.map_none, idxO_l0, idxO_l1, decide_true, decide_false, reqs_true, Int.zero_sub, wrap_lit, wrapu_lit, Int.reduceLE, Int.reduceLT, Int.reduceAdd, Int.reduceSub, Int.reduceMul, Int.reduceNeg, Int.reduceEq, Option.bind_some, bin_shr_u64, bin_shl_u64, bin_shr_i64, bin_shl_i64, and_m32', Int.reduceToNat, Int.reducePow, Int.reduceMod, Int.reduceDiv, wrap_u64s, true_or, or_true, true_and, and_true, Option.isSome_none, Option.isSome_some, Nat.reduceLeDiff, Nat.reduceMul, Int.toNat_natCast, Int.cast_ofNat_Int, Int.natCast_zero, Int.natCast_one, List.isEmpty_nil, List.isEmpty_cons, List.replicate_zero, List.replicate_succ, T1, T2, T3, T4, T5, T6, T9, T10, T11, T12, T21, T22, T23, T24, T25, T26, T27, T28, T30, T31, T32, T33, T34, T35, T36, T37, T38, T39, T40, T41, T42, T44, T45, T46, T47, T48, T49, T50, T51, T52, T53, T55, T56, T57, T58, T59, T60, T61, T63, T64, T66, T67, T68, T69, T70, T71, T72, T73, T74, T75, T76, T77, T78, T79, T80, T81, T82, T83, T84, T86, T87, T88, T89, T91, T93, T94, T95, T98, T100, T106, T107, T108, T109, T110, T112, T113, l0, l1, l5, hN, hMM, la, lb, c0, i1, i2, hi, hj, hda, hdb, hc, w1]
                  refine hX (k + 1) _ _ (by omega) ⟨rfl, ?_, ?_, ?_, by omega, hF⟩
                  · simp [look, l0]
                  · simp [look, l1]
                  · rw [← hK]; rfl
                | false =>
                  rw [hc, Bool.false_and] at hF
                  simp (config := { maxSteps := 4000000, implicitDefEqProofs := false }) only [F_eqI_eq, WK0, WK1, WK2, WK3, WK4, WK5, WK6, WK7, WK8, WK9, WK10, WK11, WK12, WK13, WK14, WK15, WK16, WK17, WK18, WK19, WK20, WK21, WK22, WK23, WK24, WK25, WK26, WK27, WK28, WK29, WK30, look_hit, look_miss, List.map_cons, List.map_nil, Nat.add_zero, max_v, min_v, ↓cnd_t, ↓cnd_f, ↓grd_b, ↓grd_u, startEnv, Option.map_some, List.length_nil, List.length_cons, List.nil_append, List.cons_append, List.getElem?_cons_zero, List.getElem?_cons_succ, List.set_cons_zero, List.set_cons_succ, Bool.not_true, Bool.not_false, reduceIte, Nat.reduceEqDiff, Nat.reduceAdd, Nat.reduceLT, blt_lit, beq_lit, Bool.or_true, Bool.true_or, Bool.or_false, Bool.false_or, Bool.and_true, Bool.true_and, Bool.and_self, cond_true, cond_false, List.append_nil, Iv.eta, Option.map_none, idxO_l0, idxO_l1, decide_true, decide_false, reqs_true, Int.zero_sub, wrap_lit, wrapu_lit, Int.reduceLE, Int.reduceLT, Int.reduceAdd, Int.reduceSub, Int.reduceMul, Int.reduceNeg, Int.reduceEq, Option.bind_some, bin_shr_u64, bin_shl_u64, bin_shr_i64, bin_shl_i64, and_m32', Int.reduceToNat, Int.reducePow, Int.reduceMod, Int.reduceDiv, wrap_u64s, true_or, or_true, true_and, and_true, Option.isSome_none, Option.isSome_some, Nat.reduceLeDiff, Nat.reduceMul, Int.toNat_natCast, Int.cast_ofNat_Int, Int.natCast_zero, Int.natCast_one, List.isEmpty_nil, List.isEmpty_cons, List.replicate_zero, List.replicate_succ, T1, T2, T3, T4, T5, T6, T9, T10, T11, T12, T21, T22, T23, T24, T25, T26, T27, T28, T30, T31, T32, T33, T34, T35, T36, T37, T38, T39, T40, T41, T42, T44, T45, T46, T47, T48, T49, T50, T51, T52, T53, T55, T56, T57, T58, T59, T60, T61, T63, T64, T66, T67, T68, T69, T70, T71, T72, T73, T74, T75, T76, T77, T78, T79, T80, T81, T82, T83, T84, T86, T87, T88, T89, T91, T93, T94, T95, T98, T100, T106, T107, T108, T109, T110, T112, T113, l0, l1, l5, hN, hMM, la, lb, c0, i1, i2, hi, hj, hda, hdb, hc, w1]
                  rw [← hF]
                  exact endM_pl
              · exact absurd hkl (by rw [hl']; simp)
              · exact absurd hkl (by rw [hl']; simp)
            · simp at hkl
            · simp at hkl
          · have c0 : decide (K < N) = false := by simp only [decide_eq_false_iff_not]; omega
            simp (config := { maxSteps := 4000000, implicitDefEqProofs := false }) only [F_eqI_eq, WK0, WK1, WK2, WK3, WK4, WK5, WK6, WK7, WK8, WK9, WK10, WK11, WK12, WK13, WK14, WK15, WK16, WK17, WK18, WK19, WK20, WK21, WK22, WK23, WK24, WK25, WK26, WK27, WK28, WK29, WK30, look_hit, look_miss, List.map_cons, List.map_nil, Nat.add_zero, max_v, min_v, ↓cnd_t, ↓cnd_f, ↓grd_b, ↓grd_u, startEnv, Option.map_some, List.length_nil, List.length_cons, List.nil_append, List.cons_append, List.getElem?_cons_zero, List.getElem?_cons_succ, List.set_cons_zero, List.set_cons_succ, Bool.not_true, Bool.not_false, reduceIte, Nat.reduceEqDiff, Nat.reduceAdd, Nat.reduceLT, blt_lit, beq_lit, Bool.or_true, Bool.true_or, Bool.or_false, Bool.false_or, Bool.and_true, Bool.true_and, Bool.and_self, cond_true, cond_false, List.append_nil, Iv.eta, Option.map_none, idxO_l0, idxO_l1, decide_true, decide_false, reqs_true, Int.zero_sub, wrap_lit, wrapu_lit, Int.reduceLE, Int.reduceLT, Int.reduceAdd, Int.reduceSub, Int.reduceMul, Int.reduceNeg, Int.reduceEq, Option.bind_some, bin_shr_u64, bin_shl_u64, bin_shr_i64, bin_shl_i64, and_m32', Int.reduceToNat, Int.reducePow, Int.reduceMod, Int.reduceDiv, wrap_u64s, true_or, or_true, true_and, and_true, Option.isSome_none, Option.isSome_some, Nat.reduceLeDiff, Nat.reduceMul, Int.toNat_natCast, Int.cast_ofNat_Int, Int.natCast_zero, Int.natCast_one, List.isEmpty_nil, List.isEmpty_cons, List.replicate_zero, List.replicate_succ, T1, T2, T3, T4, T5, T6, T9, T10, T11, T12, T21, T22, T23, T24, T25, T26, T27, T28, T30, T31, T32, T33, T34, T35, T36, T37, T38, T39, T40, T41, T42, T44, T45, T46, T47, T48, T49, T50, T51, T52, T53, T55, T56, T57, T58, T59, T60, T61, T63, T64, T66, T67, T68, T69, T70, T71, T72, T73, T74, T75, T76, T77, T78, T79, T80, T81, T82, T83, T84, T86, T87, T88, T89, T91, T93, T94, T95, T98, T100, T106, T107, T108, T109, T110, T112, T113, l0, l1, l5, la, lb, c0]
            rw [List.drop_of_length_le (by omega), List.drop_of_length_le (by omega), eqL] at hF
            rw [← hF]
            exact endM_pl
        · have e0 : decide (N = M) = false := by simpa using hl
          simp (config := { maxSteps := 4000000, implicitDefEqProofs := false }) only [F_eqI_eq, WK0, WK1, WK2, WK3, WK4, WK5, WK6, WK7, WK8, WK9, WK10, WK11, WK12, WK13, WK14, WK15, WK16, WK17, WK18, WK19, WK20, WK21, WK22, WK23, WK24, WK25, WK26, WK27, WK28, WK29, WK30, look_hit, look_miss, List.map_cons, List.map_nil, Nat.add_zero, max_v, min_v, ↓cnd_t, ↓cnd_f, ↓grd_b, ↓grd_u, startEnv, Option.map_some, List.length_nil, List.length_cons, List.nil_append, List.cons_append, List.getElem?_cons_zero, List.getElem?_cons_succ, List.set_cons_zero, List.set_cons_succ, Bool.not_true, Bool.not_false, reduceIte, Nat.reduceEqDiff, Nat.reduceAdd, Nat.reduceLT, blt_lit, beq_lit, Bool.or_true, Bool.true_or, Bool.or_false, Bool.false_or, Bool.and_true, Bool.true_and, Bool.and_self, cond_true, cond_false, List.append_nil, Iv.eta, Option.map_none, idxO_l0, idxO_l1, decide_true, decide_false, reqs_true, Int.zero_sub, wrap_lit, wrapu_lit, Int.reduceLE, Int.reduceLT, Int.reduceAdd, Int.reduceSub, Int.reduceMul, Int.reduceNeg, Int.reduceEq, Option.bind_some, bin_shr_u64, bin_shl_u64, bin_shr_i64, bin_shl_i64, and_m32', Int.reduceToNat, Int.reducePow, Int.reduceMod, Int.reduceDiv, wrap_u64s, true_or, or_true, true_and, and_true, Option.isSome_none, Option.isSome_some, Nat.reduceLeDiff, Nat.reduceMul, Int.toNat_natCast, Int.cast_ofNat_Int, Int.natCast_zero, Int.natCast_one, List.isEmpty_nil, List.isEmpty_cons, List.replicate_zero, List.replicate_succ, T1, T2, T3, T4, T5, T6, T9, T10, T11, T12, T21, T22, T23, T24, T25, T26, T27, T28, T30, T31, T32, T33, T34, T35, T36, T37, T38, T39, T40, T41, T42, T44, T45, T46, T47, T48, T49, T50, T51, T52, T53, T55, T56, T57, T58, T59, T60, T61, T63, T64, T66, T67, T68, T69, T70, T71, T72, T73, T74, T75, T76, T77, T78, T79, T80, T81, T82, T83, T84, T86, T87, T88, T89, T91, T93, T94, T95, T98, T100, T106, T107, T108, T109, T110, T112, T113, la, lb, e0]
          rw [eqL_len (by omega)]
          exact endM_pl
  · cases hM

-- laws.szIntervalS
def M_szS : MT := fun m args h => match args with
  | [.c (.p (.sl a n c)), .c (.p (.int .i64 k))] => some (0 ≤ k ∧ k ≤ 1048576 ∧ (n : Int) ≤ 9223372036854775807, .v (.c (.p (.int .i64 (if k - n < 0 then -1 else k - n)))), h)
  | _ => none
theorem M_szS_eq {m : Addr → Option PC} {h : Heap} {a : Option Addr} {n c : Nat} {k : Int} : M_szS m [.c (.p (.sl a n c)), .c (.p (.int .i64 k))] h = some (0 ≤ k ∧ k ≤ 1048576 ∧ (n : Int) ≤ 9223372036854775807, .v (.c (.p (.int .i64 (if k - n < 0 then -1 else k - n)))), h) := rfl
theorem laws_szIntervalS_szS_ok : Mn Try.prog 8 M_szS := by
  refine mn_of_go (O := orc []) mixed T_ok (orc_sound _) Try.func8 (by kernel_rfl) rfl Try.ntmps8 (by kernel_rfl) Try.results8 ?_
  intro m args hp pre r h' hM hpre
  unfold M_szS at hM
  split at hM
  · rename_i a n c k
    simp only [Option.some.injEq, Prod.mk.injEq] at hM
    obtain ⟨rfl, hr, hh⟩ := hM
    subst hr hh
    refine ⟨by simp, ?_⟩
    obtain ⟨D, hD⟩ : ∃ D : Int, k - (n : Int) = D := ⟨_, rfl⟩
    have w1 : IntKind.i64.wrap (k - (n : Int)) = D := by rw [wrap_om (by omega) (by omega)]; exact hD
    by_cases c1 : D < 0
    · have e1 : decide (D < 0) = true := by simpa using c1
      simp (config := { maxSteps := 4000000, implicitDefEqProofs := false }) only [WK0, WK1, WK2, WK3, WK4, WK5, WK6, WK7, WK8, WK9, WK10, WK11, WK12, WK13, WK14, WK15, WK16, WK17, WK18, WK19, WK20, WK21, WK22, WK23, WK24, WK25, WK26, WK27, WK28, WK29, WK30, look_hit, look_miss, List.map_cons, List.map_nil, Nat.add_zero, max_v, min_v, ↓cnd_t, ↓cnd_f, ↓grd_b, ↓grd_u, startEnv, Option.map_some, List.length_nil, List.length_cons, List.nil_append, List.cons_append, List.getElem?_cons_zero, List.getElem?_cons_succ, List.set_cons_zero, List.set_cons_succ, Bool.not_true, Bool.not_false, reduceIte, Nat.reduceEqDiff, Nat.reduceAdd, Nat.reduceLT, blt_lit, beq_lit, Bool.or_true, Bool.true_or, Bool.or_false, Bool.false_or, Bool.and_true, Bool.true_and, Bool.and_self, cond_true, cond_false, List.append_nil, Iv.eta, Option.map_none, idxO_l0, idxO_l1, decide_true, decide_false, reqs_true, Int.zero_sub, wrap_lit, wrapu_lit, Int.reduceLE, Int.reduceLT, Int.reduceAdd, Int.reduceSub, Int.reduceMul, Int.reduceNeg, Int.reduceEq, Option.bind_some, bin_shr_u64, bin_shl_u64, bin_shr_i64, bin_shl_i64, and_m32', Int.reduceToNat, Int.reducePow, Int.reduceMod, Int.reduceDiv, wrap_u64s, true_or, or_true, true_and, and_true, Option.isSome_none, Option.isSome_some, Nat.reduceLeDiff, Nat.reduceMul, Int.toNat_natCast, Int.cast_ofNat_Int, Int.natCast_zero, Int.natCast_one, List.isEmpty_nil, List.isEmpty_cons, List.replicate_zero, List.replicate_succ, T1, T2, T3, T4, T5, T6, T9, T10, T11, T12, T21, T22, T23, T24, T25, T26, T27, T28, T30, T31, T32, T33, T34, T35, T36, T37, T38, T39, T40, T41, T42, T44, T45, T46, T47, T48, T49, T50, T51, T52, T53, T55, T56, T57, T58, T59, T60, T61, T63, T64, T66, T67, T68, T69, T70, T71, T72, T73, T74, T75, T76, T77, T78, T79, T80, T81, T82, T83, T84, T86, T87, T88, T89, T91, T93, T94, T95, T98, T100, T106, T107, T108, T109, T110, T112, T113, w1, e1]
      rw [hD, if_pos c1]
      exact endM_pl
    · have e1 : decide (D < 0) = false := by simpa using c1
      simp (config := { maxSteps := 4000000, implicitDefEqProofs := false }) only [WK0, WK1, WK2, WK3, WK4, WK5, WK6, WK7, WK8, WK9, WK10, WK11, WK12, WK13, WK14, WK15, WK16, WK17, WK18, WK19, WK20, WK21, WK22, WK23, WK24, WK25, WK26, WK27, WK28, WK29, WK30, look_hit, look_miss, List.map_cons, List.map_nil, Nat.add_zero, max_v, min_v, ↓cnd_t, ↓cnd_f, ↓grd_b, ↓grd_u, startEnv, Option.map_some, List.length_nil, List.length_cons, List.nil_append, List.cons_append, List.getElem?_cons_zero, List.getElem?_cons_succ, List.set_cons_zero, List.set_cons_succ, Bool.not_true, Bool.not_false, reduceIte, Nat.reduceEqDiff, Nat.reduceAdd, Nat.reduceLT, blt_lit, beq_lit, Bool.or_true, Bool.true_or, Bool.or_false, Bool.false_or, Bool.and_true, Bool.true_and, Bool.and_self, cond_true, cond_false, List.append_nil, Iv.eta, Option.map_none, idxO_l0, idxO_l1, decide_true, decide_false, reqs_true, Int.zero_sub, wrap_lit, wrapu_lit, Int.reduceLE, Int.reduceLT, Int.reduceAdd, Int.reduceSub, Int.reduceMul, Int.reduceNeg, Int.reduceEq, Option.bind_some, bin_shr_u64, bin_shl_u64, bin_shr_i64, bin_shl_i64, and_m32', Int.reduceToNat, Int.reducePow, Int.reduceMod, Int.reduceDiv, wrap_u64s, true_or, or_true, true_and, and_true, Option.isSome_none, Option.isSome_some, Nat.reduceLeDiff, Nat.reduceMul, Int.toNat_natCast, Int.cast_ofNat_Int, Int.natCast_zero, Int.natCast_one, List.isEmpty_nil, List.isEmpty_cons, List.replicate_zero, List.replicate_succ, T1, T2, T3, T4, T5, T6, T9, T10, T11, T12, T21, T22, T23, T24, T25, T26, T27, T28, T30, T31, T32, T33, T34, T35, T36, T37, T38, T39, T40, T41, T42, T44, T45, T46, T47, T48, T49, T50, T51, T52, T53, T55, T56, T57, T58, T59, T60, T61, T63, T64, T66, T67, T68, T69, T70, T71, T72, T73, T74, T75, T76, T77, T78, T79, T80, T81, T82, T83, T84, T86, T87, T88, T89, T91, T93, T94, T95, T98, T100, T106, T107, T108, T109, T110, T112, T113, w1, e1]
      rw [hD, if_neg c1]
      exact endM_pl
  · cases hM

-- spec.l09At
/-- The values of a polynomial, from the last coefficient on. -/
def polyH : List Iv → Iv → Iv
  | [], _ => whole
  | [v], _ => v
  | v :: w :: r, x => addI (mulI (polyH (w :: r) x) x) v
theorem polyH_last {L : List Iv} {k : Nat} {v x : Iv} (hv : L[k]? = some v) (hk : k + 1 = L.length) : polyH (L.drop k) x = v := by
  rw [drop_at hv, List.drop_of_length_le (by omega)]; rfl
theorem polyH_step {L : List Iv} {k : Nat} {v x : Iv} (hv : L[k]? = some v) (hk : k + 1 < L.length) : polyH (L.drop k) x = addI (mulI (polyH (L.drop (k + 1)) x) x) v := by
  obtain ⟨w, hw⟩ : ∃ w, L[k + 1]? = some w := ⟨_, List.getElem?_eq_getElem hk⟩
  rw [drop_at hv, drop_at hw]; rfl
def patO (h : Heap) (x : Iv) : Option (List Iv) → Option (Prop × SV × Heap)
  | some L => some (0 < L.length, .v (.agg [.int .i64 (polyH L x).lo, .int .i64 (polyH L x).hi]), h)
  | none => none
theorem patO_some {h : Heap} {x : Iv} {L : List Iv} : patO h x (some L) = some (0 < L.length, .v (.agg [.int .i64 (polyH L x).lo, .int .i64 (polyH L x).hi]), h) := rfl
def M_pat : MT := fun m args h => match args with
  | [.c sl, .agg [.int .i64 a, .int .i64 b]] => patO h ⟨a, b⟩ (rowOf h sl)
  | _ => none
theorem M_pat_eq {m : Addr → Option PC} {h : Heap} {sl : Cl} {a b : Int} : M_pat m [.c sl, .agg [.int .i64 a, .int .i64 b]] h = patO h ⟨a, b⟩ (rowOf h sl) := rfl
theorem nsub {n : Nat} (h : 0 < n) : ((n : Int) - 1).toNat = n - 1 := by omega
theorem spec_l09At_pat_ok : Mn Try.prog 43 M_pat := by
  refine mn_of_go (O := orc [⟨27, F_addI, .inl spec_AddI_addI_ok⟩, ⟨28, F_mulI, .inl spec_MulI_mulI_ok⟩]) mixed T_ok (orc_sound _) Try.func43 (by kernel_rfl) rfl Try.ntmps43 (by kernel_rfl) Try.results43 ?_
  intro m args hp pre r h' hM hpre
  unfold M_pat at hM
  split at hM
  · rename_i sl a b
    cases hs : rowOf hp sl with
    | none => rw [hs] at hM; cases hM
    | some L =>
      rw [hs, patO_some] at hM
      simp only [Option.some.injEq, Prod.mk.injEq] at hM
      obtain ⟨rfl, hr, hh⟩ := hM
      subst hr hh
      refine ⟨by simp, ?_⟩
      rcases rowOf_out hs with ⟨i, rfl, hi, hL0, hL1⟩ | ⟨rfl, i, o, rfl⟩ | ⟨rfl, rfl⟩
      · obtain ⟨N, hN⟩ : ∃ N : Int, ((L.length : Nat) : Int) = N := ⟨_, rfl⟩
        have w1 : IntKind.i64.wrap (N - 1) = N - 1 := wrap_om (by omega) (by omega)
        have w2 : IntKind.i64.wrap (N - 2) = N - 2 := wrap_om (by omega) (by omega)
        obtain ⟨v, hv⟩ : ∃ v, L[L.length - 1]? = some v := ⟨_, List.getElem?_eq_getElem (by omega)⟩
        have i1 := fun h => @row_iad h i L.length (N - 1) (by omega) (by omega)
        have hNn : (N - 1).toNat = L.length - 1 := by omega
        rw [hNn] at i1
        have hd := loadC_at hv
        have hgB := setB_get hi
        have hlt := get_lt hi
        obtain ⟨q1, q2, q3, q4⟩ := bq_i hlt
        simp (config := { maxSteps := 4000000, implicitDefEqProofs := false }) only [F_addI_eq, F_mulI_eq, WK0, WK1, WK2, WK3, WK4, WK5, WK6, WK7, WK8, WK9, WK10, WK11, WK12, WK13, WK14, WK15, WK16, WK17, WK18, WK19, WK20, WK21, WK22, WK23, WK24, WK25, WK26, WK27, WK28, WK29, WK30, look_hit, look_miss, List.map_cons, List.map_nil, Nat.add_zero, max_v, min_v, ↓cnd_t, ↓cnd_f, ↓grd_b, ↓grd_u, startEnv, Option.map_some, List.length_nil, List.length_cons, List.nil_append, List.cons_append, List.getElem?_cons_zero, List.getElem?_cons_succ, List.set_cons_zero, List.set_cons_succ, Bool.not_true, Bool.not_false, reduceIte, Nat.reduceEqDiff, Nat.reduceAdd, Nat.reduceLT, blt_lit, beq_lit, Bool.or_true, Bool.true_or, Bool.or_false, Bool.false_or, Bool.and_true, Bool.true_and, Bool.and_self, cond_true, cond_false, List.append_nil, Iv.eta, Option.map_none, idxO_l0, idxO_l1, decide_true, decide_false, reqs_true, Int.zero_sub, wrap_lit, wrapu_lit, Int.reduceLE, Int.reduceLT, Int.reduceAdd, Int.reduceSub, Int.reduceMul, Int.reduceNeg, Int.reduceEq, Option.bind_some, bin_shr_u64, bin_shl_u64, bin_shr_i64, bin_shl_i64, and_m32', Int.reduceToNat, Int.reducePow, Int.reduceMod, Int.reduceDiv, wrap_u64s, true_or, or_true, true_and, and_true, Option.isSome_none, Option.isSome_some, Nat.reduceLeDiff, Nat.reduceMul, Int.toNat_natCast, Int.cast_ofNat_Int, Int.natCast_zero, Int.natCast_one, List.isEmpty_nil, List.isEmpty_cons, List.replicate_zero, List.replicate_succ, T1, T2, T3, T4, T5, T6, T9, T10, T11, T12, T21, T22, T23, T24, T25, T26, T27, T28, T30, T31, T32, T33, T34, T35, T36, T37, T38, T39, T40, T41, T42, T44, T45, T46, T47, T48, T49, T50, T51, T52, T53, T55, T56, T57, T58, T59, T60, T61, T63, T64, T66, T67, T68, T69, T70, T71, T72, T73, T74, T75, T76, T77, T78, T79, T80, T81, T82, T83, T84, T86, T87, T88, T89, T91, T93, T94, T95, T98, T100, T106, T107, T108, T109, T110, T112, T113, hN, w1, w2, i1, hi, hd, hgB, bx_get, bx_get0, bx_set, bx_set0, List.append_assoc, List.length_append, q1, q2, q3, q4, bq_aa, bq_0l, bq_0r, Iv.eta]
        refine go_loop (α := Nat) (fun s => s) (fun s e h => h = hp ++ [[.int .i64 a, .int .i64 b], [.int .i64 0, .int .i64 0], [.int .i64 (polyH (L.drop s) ⟨a, b⟩).lo, .int .i64 (polyH (L.drop s) ⟨a, b⟩).hi]] ∧ look e 0 = some (.v (.c (.row i 0 L.length 2))) ∧ look e 3 = some (.v (.c (.ptr (.own hp.length 0)))) ∧ look e 4 = some (.v (.c (.ptr (.own (hp.length + 1) 0)))) ∧ look e 5 = some (.v (.c (.ptr (.own (hp.length + 2) 0)))) ∧ look e 6 = some (.v (.c (.p (.int .i64 ((s : Int) - 1))))) ∧ s < L.length) (L.length - 1) ⟨?_, rfl, rfl, rfl, rfl, ?_, by omega⟩ ?_
        · rw [polyH_last hv (by omega)]
        · have : ((L.length - 1 : Nat) : Int) - 1 = N - 2 := by omega
          rw [this]; rfl
        rintro X k e h ⟨rfl, l0, l3, l4, l5, l6, hk⟩ hX
        cases k with
        | zero =>
          have e6 : ((0 : Nat) : Int) - 1 = -1 := rfl
          rw [e6] at l6
          have c0 : decide ((0 : Int) ≤ -1) = false := by decide
          rw [List.drop_zero]
          simp (config := { maxSteps := 4000000, implicitDefEqProofs := false }) only [F_addI_eq, F_mulI_eq, WK0, WK1, WK2, WK3, WK4, WK5, WK6, WK7, WK8, WK9, WK10, WK11, WK12, WK13, WK14, WK15, WK16, WK17, WK18, WK19, WK20, WK21, WK22, WK23, WK24, WK25, WK26, WK27, WK28, WK29, WK30, look_hit, look_miss, List.map_cons, List.map_nil, Nat.add_zero, max_v, min_v, ↓cnd_t, ↓cnd_f, ↓grd_b, ↓grd_u, startEnv, Option.map_some, List.length_nil, List.length_cons, List.nil_append, List.cons_append, List.getElem?_cons_zero, List.getElem?_cons_succ, List.set_cons_zero, List.set_cons_succ, Bool.not_true, Bool.not_false, reduceIte, Nat.reduceEqDiff, Nat.reduceAdd, Nat.reduceLT, blt_lit, beq_lit, Bool.or_true, Bool.true_or, Bool.or_false, Bool.false_or, Bool.and_true, Bool.true_and, Bool.and_self, cond_true, cond_false, List.append_nil, Iv.eta, Option.map_none, idxO_l0, idxO_l1, decide_true, decide_false, reqs_true, Int.zero_sub, wrap_lit, wrapu_lit, Int.reduceLE, Int.reduceLT, Int.reduceAdd, Int.reduceSub, Int.reduceMul, Int.reduceNeg, Int.reduceEq, Option.bind_some, bin_shr_u64, bin_shl_u64, bin_shr_i64, bin_shl_i64, and_m32', Int.reduceToNat, Int.reducePow, Int.reduceMod, Int.reduceDiv, wrap_u64s, true_or, or_true, true_and, and_true, Option.isSome_none, Option.isSome_some, Nat.reduceLeDiff, Nat.reduceMul, Int.toNat_natCast, Int.cast_ofNat_Int, Int.natCast_zero, Int.natCast_one, List.isEmpty_nil, List.isEmpty_cons, List.replicate_zero, List.replicate_succ, T1, T2, T3, T4, T5, T6, T9, T10, T11, T12, T21, T22, T23, T24, T25, T26, T27, T28, T30, T31, T32, T33, T34, T35, T36, T37, T38, T39, T40, T41, T42, T44, T45, T46, T47, T48, T49, T50, T51, T52, T53, T55, T56, T57, T58, T59, T60, T61, T63, T64, T66, T67, T68, T69, T70, T71, T72, T73, T74, T75, T76, T77, T78, T79, T80, T81, T82, T83, T84, T86, T87, T88, T89, T91, T93, T94, T95, T98, T100, T106, T107, T108, T109, T110, T112, T113, l0, l3, l4, l5, l6, c0, bx_get, bx_get0, bx_set, bx_set0, q1, q2, q3, q4, bq_aa, bq_0l, bq_0r]
          exact endM_ak
        | succ k =>
          have e6 : ((k + 1 : Nat) : Int) - 1 = (k : Int) := by omega
          rw [e6] at l6
          obtain ⟨K, hK⟩ : ∃ K : Int, (k : Int) = K := ⟨_, rfl⟩
          rw [hK] at l6
          have c0 : decide (0 ≤ K) = true := by simp only [decide_eq_true_eq]; omega
          obtain ⟨u, hu⟩ : ∃ u, L[k]? = some u := ⟨_, List.getElem?_eq_getElem (by omega)⟩
          have i2 := fun h => @row_iad h i L.length K (by omega) (by omega)
          have hKn : K.toNat = k := by omega
          rw [hKn] at i2
          have hd2 := loadC_at hu
          have w3 : IntKind.i64.wrap (K - 1) = K - 1 := wrap_om (by omega) (by omega)
          have hst := polyH_step (x := ⟨a, b⟩) hu hk
          simp (config := { maxSteps := 4000000, implicitDefEqProofs := false }) only [F_addI_eq, F_mulI_eq, WK0, WK1, WK2, WK3, WK4, WK5, WK6, WK7, WK8, WK9, WK10, WK11, WK12, WK13, WK14, WK15, WK16, WK17, WK18, WK19, WK20, WK21, WK22, WK23, WK24, WK25, WK26, WK27, WK28, WK29, WK30, look_hit, look_miss, List.map_cons, List.map_nil, Nat.add_zero, max_v, min_v, ↓cnd_t, ↓cnd_f, ↓grd_b, ↓grd_u, startEnv, Option.map_some, List.length_nil, List.length_cons, List.nil_append, List.cons_append, List.getElem?_cons_zero, List.getElem?_cons_succ, List.set_cons_zero, List.set_cons_succ, Bool.not_true, Bool.not_false, reduceIte, Nat.reduceEqDiff, Nat.reduceAdd, Nat.reduceLT, blt_lit, beq_lit, Bool.or_true, Bool.true_or, Bool.or_false, Bool.false_or, Bool.and_true, Bool.true_and, Bool.and_self, cond_true, cond_false, List.append_nil, Iv.eta, Option.map_none, idxO_l0, idxO_l1, decide_true, decide_false, reqs_true, Int.zero_sub, wrap_lit, wrapu_lit, Int.reduceLE, Int.reduceLT, Int.reduceAdd, Int.reduceSub, Int.reduceMul, Int.reduceNeg, Int.reduceEq, Option.bind_some, bin_shr_u64, bin_shl_u64, bin_shr_i64, bin_shl_i64, and_m32', Int.reduceToNat, Int.reducePow, Int.reduceMod, Int.reduceDiv, wrap_u64s, true_or, or_true, true_and, and_true, Option.isSome_none, Option.isSome_some, Nat.reduceLeDiff, Nat.reduceMul, Int.toNat_natCast, Int.cast_ofNat_Int, Int.natCast_zero, Int.natCast_one, List.isEmpty_nil, List.isEmpty_cons, List.replicate_zero, List.replicate_succ, T1, T2, T3, T4, T5, T6, T9, T10, T11, T12, T21, T22, T23, T24, T25, T26, T27, T28, T30, T31, T32, T33, T34, T35, T36, T37, T38, T39, T40, T41, T42, T44, T45, T46, T47, T48, T49, T50, T51, T52, T53, T55, T56, T57, T58, T59, T60, T61, T63, T64, T66, T67, T68, T69, T70, T71, T72, T73, T74, T75, T76, T77, T78, T79, T80, T81, T82, T83, T84, T86, T87, T88, T89, T91, T93, T94, T95, T98, T100, T106, T107, T108, T109, T110, T112, T113, l0, l3, l4, l5, l6, c0, i2, hd2, hgB, w3, bx_get, bx_get0, bx_set, bx_set0, q1, q2, q3, q4, bq_aa, bq_0l, bq_0r, Iv.eta]
          refine hX k _ _ (Nat.lt_succ_self _) ⟨?_, ?_, ?_, ?_, ?_, ?_, by omega⟩
          · rw [hst]
          · simp [look, l0]
          · simp [look, l3]
          · simp [look, l4]
          · simp [look, l5]
          · rw [← hK]; rfl
      · simp at hpre
      · simp at hpre
  · cases hM

-- spec.PolyAt
theorem rowOf_app {h : Heap} {sl : Cl} {L : List Iv} (hs : rowOf h sl = some L) (l : Heap) : rowOf (h ++ l) sl = some L := by
  rcases rowOf_out hs with ⟨i, rfl, hi, h0, h1⟩ | ⟨rfl, i, o, rfl⟩ | ⟨rfl, rfl⟩
  · rw [rowOf_row, setB_get hi]
    simp only [Option.bind_some, ivsC_cells]
    exact rowQ_of rfl h0 h1
  · rfl
  · rfl
def polyV (L : List Iv) (x : Iv) : Iv := if pok L && okI x then polyH L x else whole
theorem pok_pos {L : List Iv} (h : pok L = true) : 0 < L.length ∧ L.length ≤ 17 := by
  unfold pok at h
  rw [Bool.and_eq_true, within_iff] at h
  omega
def pvO (h : Heap) (x : Iv) : Option (List Iv) → Option (Prop × SV × Heap)
  | some L => some (True, .v (.agg [.int .i64 (polyV L x).lo, .int .i64 (polyV L x).hi]), h)
  | none => none
theorem pvO_some {h : Heap} {x : Iv} {L : List Iv} : pvO h x (some L) = some (True, .v (.agg [.int .i64 (polyV L x).lo, .int .i64 (polyV L x).hi]), h) := rfl
def M_pv : MT := fun m args h => match args with
  | [.c sl, .agg [.int .i64 a, .int .i64 b]] => pvO h ⟨a, b⟩ (rowOf h sl)
  | _ => none
theorem M_pv_eq {m : Addr → Option PC} {h : Heap} {sl : Cl} {a b : Int} : M_pv m [.c sl, .agg [.int .i64 a, .int .i64 b]] h = pvO h ⟨a, b⟩ (rowOf h sl) := rfl
theorem spec_PolyAt_pv_ok : Mn Try.prog 17 M_pv := by
  refine mn_of_go (O := orcM [⟨41, F_okI, .inl spec_l04Ok_okI_ok⟩, ⟨42, F_whole, .inl spec_l04Whole_whole_ok⟩] [⟨32, M_pok, true, fun _ => one_pok, spec_l09Ok_pok_ok⟩, ⟨43, M_pat, false, no_one, spec_l09At_pat_ok⟩]) mixed T_ok (orcM_sound _ _) Try.func17 (by kernel_rfl) rfl Try.ntmps17 (by kernel_rfl) Try.results17 ?_
  intro m args hp pre r h' hM hpre
  unfold M_pv at hM
  split at hM
  · rename_i sl a b
    cases hs : rowOf hp sl with
    | none => rw [hs] at hM; cases hM
    | some L =>
      rw [hs, pvO_some] at hM
      simp only [Option.some.injEq, Prod.mk.injEq] at hM
      obtain ⟨rfl, hr, hh⟩ := hM
      subst hr hh
      refine ⟨by simp, ?_⟩
      cases hp1 : pok L with
      | false =>
        have hv : polyV L ⟨a, b⟩ = whole := by unfold polyV; rw [hp1]; rfl
        rw [hv]
        simp (config := { maxSteps := 4000000, implicitDefEqProofs := false }) only [F_okI_eq, F_whole_eq, WK0, WK1, WK2, WK3, WK4, WK5, WK6, WK7, WK8, WK9, WK10, WK11, WK12, WK13, WK14, WK15, WK16, WK17, WK18, WK19, WK20, WK21, WK22, WK23, WK24, WK25, WK26, WK27, WK28, WK29, WK30, look_hit, look_miss, List.map_cons, List.map_nil, Nat.add_zero, max_v, min_v, ↓cnd_t, ↓cnd_f, ↓grd_b, ↓grd_u, startEnv, Option.map_some, List.length_nil, List.length_cons, List.nil_append, List.cons_append, List.getElem?_cons_zero, List.getElem?_cons_succ, List.set_cons_zero, List.set_cons_succ, Bool.not_true, Bool.not_false, reduceIte, Nat.reduceEqDiff, Nat.reduceAdd, Nat.reduceLT, blt_lit, beq_lit, Bool.or_true, Bool.true_or, Bool.or_false, Bool.false_or, Bool.and_true, Bool.true_and, Bool.and_self, cond_true, cond_false, List.append_nil, Iv.eta, Option.map_none, idxO_l0, idxO_l1, decide_true, decide_false, reqs_true, Int.zero_sub, wrap_lit, wrapu_lit, Int.reduceLE, Int.reduceLT, Int.reduceAdd, Int.reduceSub, Int.reduceMul, Int.reduceNeg, Int.reduceEq, Option.bind_some, bin_shr_u64, bin_shl_u64, bin_shr_i64, bin_shl_i64, and_m32', Int.reduceToNat, Int.reducePow, Int.reduceMod, Int.reduceDiv, wrap_u64s, true_or, or_true, true_and, and_true, Option.isSome_none, Option.isSome_some, Nat.reduceLeDiff, Nat.reduceMul, Int.toNat_natCast, Int.cast_ofNat_Int, Int.natCast_zero, Int.natCast_one, List.isEmpty_nil, List.isEmpty_cons, List.replicate_zero, List.replicate_succ, T1, T2, T3, T4, T5, T6, T9, T10, T11, T12, T21, T22, T23, T24, T25, T26, T27, T28, T30, T31, T32, T33, T34, T35, T36, T37, T38, T39, T40, T41, T42, T44, T45, T46, T47, T48, T49, T50, T51, T52, T53, T55, T56, T57, T58, T59, T60, T61, T63, T64, T66, T67, T68, T69, T70, T71, T72, T73, T74, T75, T76, T77, T78, T79, T80, T81, T82, T83, T84, T86, T87, T88, T89, T91, T93, T94, T95, T98, T100, T106, T107, T108, T109, T110, T112, T113, M_pok_eq, hs, boolO_some, rowOf_app hs, hp1, bx_get, bx_get0, bx_set, bx_set0, List.append_assoc, List.length_append, bq_aa, bq_0l, bq_0r, Iv.eta]
        repeat' (first | with_reducible refine cnd_split (fun hc => ?_) (fun hc => ?_) | with_reducible refine Reqs.mk ?_ ?_)
        all_goals first | trivial | exact endM_ak
      | true =>
        have h0 := pok_pos hp1
        cases ho : okI ⟨a, b⟩ with
        | false =>
          have hv : polyV L ⟨a, b⟩ = whole := by unfold polyV; rw [hp1, ho]; rfl
          rw [hv]
          simp (config := { maxSteps := 4000000, implicitDefEqProofs := false }) only [F_okI_eq, F_whole_eq, WK0, WK1, WK2, WK3, WK4, WK5, WK6, WK7, WK8, WK9, WK10, WK11, WK12, WK13, WK14, WK15, WK16, WK17, WK18, WK19, WK20, WK21, WK22, WK23, WK24, WK25, WK26, WK27, WK28, WK29, WK30, look_hit, look_miss, List.map_cons, List.map_nil, Nat.add_zero, max_v, min_v, ↓cnd_t, ↓cnd_f, ↓grd_b, ↓grd_u, startEnv, Option.map_some, List.length_nil, List.length_cons, List.nil_append, List.cons_append, List.getElem?_cons_zero, List.getElem?_cons_succ, List.set_cons_zero, List.set_cons_succ, Bool.not_true, Bool.not_false, reduceIte, Nat.reduceEqDiff, Nat.reduceAdd, Nat.reduceLT, blt_lit, beq_lit, Bool.or_true, Bool.true_or, Bool.or_false, Bool.false_or, Bool.and_true, Bool.true_and, Bool.and_self, cond_true, cond_false, List.append_nil, Iv.eta, Option.map_none, idxO_l0, idxO_l1, decide_true, decide_false, reqs_true, Int.zero_sub, wrap_lit, wrapu_lit, Int.reduceLE, Int.reduceLT, Int.reduceAdd, Int.reduceSub, Int.reduceMul, Int.reduceNeg, Int.reduceEq, Option.bind_some, bin_shr_u64, bin_shl_u64, bin_shr_i64, bin_shl_i64, and_m32', Int.reduceToNat, Int.reducePow, Int.reduceMod, Int.reduceDiv, wrap_u64s, true_or, or_true, true_and, and_true, Option.isSome_none, Option.isSome_some, Nat.reduceLeDiff, Nat.reduceMul, Int.toNat_natCast, Int.cast_ofNat_Int, Int.natCast_zero, Int.natCast_one, List.isEmpty_nil, List.isEmpty_cons, List.replicate_zero, List.replicate_succ, T1, T2, T3, T4, T5, T6, T9, T10, T11, T12, T21, T22, T23, T24, T25, T26, T27, T28, T30, T31, T32, T33, T34, T35, T36, T37, T38, T39, T40, T41, T42, T44, T45, T46, T47, T48, T49, T50, T51, T52, T53, T55, T56, T57, T58, T59, T60, T61, T63, T64, T66, T67, T68, T69, T70, T71, T72, T73, T74, T75, T76, T77, T78, T79, T80, T81, T82, T83, T84, T86, T87, T88, T89, T91, T93, T94, T95, T98, T100, T106, T107, T108, T109, T110, T112, T113, M_pok_eq, M_pat_eq, hs, boolO_some, patO_some, rowOf_app hs, hp1, ho, bx_get, bx_get0, bx_set, bx_set0, List.append_assoc, List.length_append, bq_aa, bq_0l, bq_0r, Iv.eta]
          repeat' (first | with_reducible refine cnd_split (fun hc => ?_) (fun hc => ?_) | with_reducible refine Reqs.mk ?_ ?_)
          all_goals first | trivial | exact endM_ak
        | true =>
          have hv : polyV L ⟨a, b⟩ = polyH L ⟨a, b⟩ := by unfold polyV; rw [hp1, ho]; rfl
          rw [hv]
          simp (config := { maxSteps := 4000000, implicitDefEqProofs := false }) only [F_okI_eq, F_whole_eq, WK0, WK1, WK2, WK3, WK4, WK5, WK6, WK7, WK8, WK9, WK10, WK11, WK12, WK13, WK14, WK15, WK16, WK17, WK18, WK19, WK20, WK21, WK22, WK23, WK24, WK25, WK26, WK27, WK28, WK29, WK30, look_hit, look_miss, List.map_cons, List.map_nil, Nat.add_zero, max_v, min_v, ↓cnd_t, ↓cnd_f, ↓grd_b, ↓grd_u, startEnv, Option.map_some, List.length_nil, List.length_cons, List.nil_append, List.cons_append, List.getElem?_cons_zero, List.getElem?_cons_succ, List.set_cons_zero, List.set_cons_succ, Bool.not_true, Bool.not_false, reduceIte, Nat.reduceEqDiff, Nat.reduceAdd, Nat.reduceLT, blt_lit, beq_lit, Bool.or_true, Bool.true_or, Bool.or_false, Bool.false_or, Bool.and_true, Bool.true_and, Bool.and_self, cond_true, cond_false, List.append_nil, Iv.eta, Option.map_none, idxO_l0, idxO_l1, decide_true, decide_false, reqs_true, Int.zero_sub, wrap_lit, wrapu_lit, Int.reduceLE, Int.reduceLT, Int.reduceAdd, Int.reduceSub, Int.reduceMul, Int.reduceNeg, Int.reduceEq, Option.bind_some, bin_shr_u64, bin_shl_u64, bin_shr_i64, bin_shl_i64, and_m32', Int.reduceToNat, Int.reducePow, Int.reduceMod, Int.reduceDiv, wrap_u64s, true_or, or_true, true_and, and_true, Option.isSome_none, Option.isSome_some, Nat.reduceLeDiff, Nat.reduceMul, Int.toNat_natCast, Int.cast_ofNat_Int, Int.natCast_zero, Int.natCast_one, List.isEmpty_nil, List.isEmpty_cons, List.replicate_zero, List.replicate_succ, T1, T2, T3, T4, T5, T6, T9, T10, T11, T12, T21, T22, T23, T24, T25, T26, T27, T28, T30, T31, T32, T33, T34, T35, T36, T37, T38, T39, T40, T41, T42, T44, T45, T46, T47, T48, T49, T50, T51, T52, T53, T55, T56, T57, T58, T59, T60, T61, T63, T64, T66, T67, T68, T69, T70, T71, T72, T73, T74, T75, T76, T77, T78, T79, T80, T81, T82, T83, T84, T86, T87, T88, T89, T91, T93, T94, T95, T98, T100, T106, T107, T108, T109, T110, T112, T113, M_pok_eq, M_pat_eq, hs, boolO_some, patO_some, rowOf_app hs, hp1, ho, bx_get, bx_get0, bx_set, bx_set0, List.append_assoc, List.length_append, bq_aa, bq_0l, bq_0r, Iv.eta]
          repeat' (first | with_reducible refine cnd_split (fun hc => ?_) (fun hc => ?_) | with_reducible refine Reqs.mk ?_ ?_)
          all_goals first | trivial | exact endM_ak | exact h0.1
  · cases hM

end Go.Proofs.Ytcnapkdccjibpaa.Eng
