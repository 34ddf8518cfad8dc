/- What functions of the program compute, and that the program computes it: part 27. -/
import Derived.Test.YtcnapkdccjibpaaTab
import Derived.Test.YtcnapkdccjibpaaEng16
import Derived.Laws.BitsLemmas
import Derived.Laws.Bits64
import Derived.Laws.Bits64b
import Derived.Lib.Mul64
import Derived.Lib.BitFns
import Derived.Laws.Externs
import Derived.Test.YtcnapkdccjibpaaL1
import Derived.Test.YtcnapkdccjibpaaL25
import Derived.Test.YtcnapkdccjibpaaL26
namespace Go.Proofs.Ytcnapkdccjibpaa.Eng
open Go Go.RowKit
set_option linter.unusedVariables false
set_option linter.unusedSimpArgs false
set_option maxRecDepth 100000
set_option maxHeartbeats 1000000
-- laws.toIntervalS
theorem laws_toIntervalS_toS_ok : Mn Try.prog 10 M_toS := by
  refine mn_of_go (O := orc [⟨18, F_toI, .inl laws_toInterval_toI_ok⟩]) mixed T_ok (orc_sound _) Try.func10 (by kernel_rfl) rfl Try.ntmps10 (by kernel_rfl) Try.results10 ?_
  intro m args hp pre r h' hM hpre
  unfold M_toS at hM
  split at hM
  · rename_i a n c
    simp only [Option.some.injEq, Prod.mk.injEq] at hM
    obtain ⟨rfl, hr, hh⟩ := hM
    subst hr hh
    obtain ⟨k1, k2⟩ := hpre
    refine ⟨by simp, ?_⟩
    by_cases hn : n = 0
    · subst hn
      have z0 : ((0 : Nat) : Int) = 0 := rfl
      simp (config := { maxSteps := 4000000, implicitDefEqProofs := false }) only [F_toI_eq, WK0, WK1, WK2, WK3, WK4, WK5, WK6, WK7, WK8, WK9, WK10, WK11, WK12, WK13, WK14, WK15, WK16, WK17, WK18, WK19, WK20, WK21, WK22, WK23, WK24, WK25, WK26, WK27, WK28, look_hit, look_miss, List.map_cons, List.map_nil, Nat.add_zero, max_v, min_v, ↓cnd_t, ↓cnd_f, ↓grd_b, ↓grd_u, startEnv, Option.map_some, List.length_nil, List.length_cons, List.nil_append, List.cons_append, List.getElem?_cons_zero, List.getElem?_cons_succ, List.set_cons_zero, List.set_cons_succ, Bool.not_true, Bool.not_false, reduceIte, Nat.reduceEqDiff, Nat.reduceAdd, Nat.reduceLT, blt_lit, beq_lit, Bool.or_true, Bool.true_or, Bool.or_false, Bool.false_or, Bool.and_true, Bool.true_and, Bool.and_self, cond_true, cond_false, List.append_nil, Iv.eta, Option.map_none, idxO_l0, idxO_l1, decide_true, decide_false, reqs_true, Int.zero_sub, wrap_lit, wrapu_lit, Int.reduceLE, Int.reduceLT, Int.reduceAdd, Int.reduceSub, Int.reduceMul, Int.reduceNeg, Int.reduceEq, Option.bind_some, bin_shr_u64, bin_shl_u64, bin_shr_i64, bin_shl_i64, and_m32', Int.reduceToNat, Int.reducePow, Int.reduceMod, Int.reduceDiv, wrap_u64s, true_or, or_true, true_and, and_true, Option.isSome_none, Option.isSome_some, Nat.reduceLeDiff, Nat.reduceMul, Int.toNat_natCast, Int.cast_ofNat_Int, Int.natCast_zero, Int.natCast_one, List.isEmpty_nil, List.isEmpty_cons, List.replicate_zero, List.replicate_succ, T1, T2, T3, T4, T5, T6, T9, T10, T11, T12, T21, T22, T23, T24, T25, T26, T27, T28, T30, T31, T32, T33, T34, T35, T36, T37, T38, T39, T40, T41, T42, T44, T45, T46, T47, T48, T49, T50, T51, T52, T53, T55, T56, T57, T58, T59, T60, T61, T63, T64, T66, T67, T68, T69, T70, T71, T72, T73, T74, T75, T76, T77, T78, T79, T80, T81, T82, T83, T84, T86, T87, T88, T89, T91, T93, T94, T95, T98, T100, T106, T107, T108, T109, T110, T112, T113, z0, mks_0, go_turn_eq, again_n, again_r, again_e]
      exact endM_rowE (l := []) (n := 0)
    · have e1 : mksO hp (some (tdRow [PC.int .i64 0, PC.int .i64 0])) (some (n : Int)) (some (n : Int)) = _ := mks_new (by omega) k2
      have er : rowE hp.length n = .row hp.length 0 n 2 := by unfold rowE; rw [if_neg hn]
      obtain ⟨N, hN⟩ : ∃ N : Int, (n : Int) = N := ⟨_, rfl⟩
      rw [hN] at e1
      simp (config := { maxSteps := 4000000, implicitDefEqProofs := false }) only [F_toI_eq, WK0, WK1, WK2, WK3, WK4, WK5, WK6, WK7, WK8, WK9, WK10, WK11, WK12, WK13, WK14, WK15, WK16, WK17, WK18, WK19, WK20, WK21, WK22, WK23, WK24, WK25, WK26, WK27, WK28, look_hit, look_miss, List.map_cons, List.map_nil, Nat.add_zero, max_v, min_v, ↓cnd_t, ↓cnd_f, ↓grd_b, ↓grd_u, startEnv, Option.map_some, List.length_nil, List.length_cons, List.nil_append, List.cons_append, List.getElem?_cons_zero, List.getElem?_cons_succ, List.set_cons_zero, List.set_cons_succ, Bool.not_true, Bool.not_false, reduceIte, Nat.reduceEqDiff, Nat.reduceAdd, Nat.reduceLT, blt_lit, beq_lit, Bool.or_true, Bool.true_or, Bool.or_false, Bool.false_or, Bool.and_true, Bool.true_and, Bool.and_self, cond_true, cond_false, List.append_nil, Iv.eta, Option.map_none, idxO_l0, idxO_l1, decide_true, decide_false, reqs_true, Int.zero_sub, wrap_lit, wrapu_lit, Int.reduceLE, Int.reduceLT, Int.reduceAdd, Int.reduceSub, Int.reduceMul, Int.reduceNeg, Int.reduceEq, Option.bind_some, bin_shr_u64, bin_shl_u64, bin_shr_i64, bin_shl_i64, and_m32', Int.reduceToNat, Int.reducePow, Int.reduceMod, Int.reduceDiv, wrap_u64s, true_or, or_true, true_and, and_true, Option.isSome_none, Option.isSome_some, Nat.reduceLeDiff, Nat.reduceMul, Int.toNat_natCast, Int.cast_ofNat_Int, Int.natCast_zero, Int.natCast_one, List.isEmpty_nil, List.isEmpty_cons, List.replicate_zero, List.replicate_succ, T1, T2, T3, T4, T5, T6, T9, T10, T11, T12, T21, T22, T23, T24, T25, T26, T27, T28, T30, T31, T32, T33, T34, T35, T36, T37, T38, T39, T40, T41, T42, T44, T45, T46, T47, T48, T49, T50, T51, T52, T53, T55, T56, T57, T58, T59, T60, T61, T63, T64, T66, T67, T68, T69, T70, T71, T72, T73, T74, T75, T76, T77, T78, T79, T80, T81, T82, T83, T84, T86, T87, T88, T89, T91, T93, T94, T95, T98, T100, T106, T107, T108, T109, T110, T112, T113, hN, e1]
      refine go_loop (α := Nat × List Iv) (fun s => n - s.1) (fun s e h => h = hp ++ [cellsI s.2] ∧ look e 0 = some (.v (.c (.p (.sl a n c)))) ∧ look e 3 = some (.v (.c (.row hp.length 0 n 2))) ∧ look e 4 = some (.v (.c (.p (.int .i64 (s.1 : Int))))) ∧ s.1 ≤ n ∧ s.2.length = n ∧ s.2.take s.1 = (ivsAt m a n).take s.1) (0, List.replicate n ⟨0, 0⟩) ⟨rfl, rfl, rfl, rfl, by simp, by simp, by simp⟩ ?_
      rintro X ⟨k, L⟩ e h ⟨rfl, l0, l3, l4, hk, hL, ht⟩ hX
      simp only at l4 hk hL ht hX
      obtain ⟨K, hK⟩ : ∃ K : Int, (k : Int) = K := ⟨_, rfl⟩
      rw [hK] at l4
      by_cases hkl : k < n
      · have c0 : decide (K < N) = true := by simp only [decide_eq_true_eq]; omega
        obtain ⟨b, rfl, hc⟩ := k1.cells hkl
        have hKn : K.toNat = k := by omega
        have i1 := fun h => @row_iad h hp.length n K (by omega) (by omega)
        rw [hKn] at i1
        have i2 : iadO (hp ++ [cellsI L]) (some (tdRow [PC.int .i64 0, PC.int .i64 0])) (some (.c (.p (.sl (some b) n c)))) (some (.int .i64 K)) = some (some (.v (.c (.ptr (.abs (b.add (k * 2)))))), hp ++ [cellsI L]) := by
          rw [iadO_sl (by simp only [Bool.and_eq_true, decide_eq_true_eq]; omega), hKn]; rfl
        have w1 : IntKind.i64.wrap (K + 1) = K + 1 := wrap_om (by omega) (by omega)
        have hs := fun h => @storeC_at h hp.length k L (ivAt m (some b) k).lo (ivAt m (some b) k).hi (by omega)
        simp (config := { maxSteps := 4000000, implicitDefEqProofs := false }) only [F_toI_eq, WK0, WK1, WK2, WK3, WK4, WK5, WK6, WK7, WK8, WK9, WK10, WK11, WK12, WK13, WK14, WK15, WK16, WK17, WK18, WK19, WK20, WK21, WK22, WK23, WK24, WK25, WK26, WK27, WK28, look_hit, look_miss, List.map_cons, List.map_nil, Nat.add_zero, max_v, min_v, ↓cnd_t, ↓cnd_f, ↓grd_b, ↓grd_u, startEnv, Option.map_some, List.length_nil, List.length_cons, List.nil_append, List.cons_append, List.getElem?_cons_zero, List.getElem?_cons_succ, List.set_cons_zero, List.set_cons_succ, Bool.not_true, Bool.not_false, reduceIte, Nat.reduceEqDiff, Nat.reduceAdd, Nat.reduceLT, blt_lit, beq_lit, Bool.or_true, Bool.true_or, Bool.or_false, Bool.false_or, Bool.and_true, Bool.true_and, Bool.and_self, cond_true, cond_false, List.append_nil, Iv.eta, Option.map_none, idxO_l0, idxO_l1, decide_true, decide_false, reqs_true, Int.zero_sub, wrap_lit, wrapu_lit, Int.reduceLE, Int.reduceLT, Int.reduceAdd, Int.reduceSub, Int.reduceMul, Int.reduceNeg, Int.reduceEq, Option.bind_some, bin_shr_u64, bin_shl_u64, bin_shr_i64, bin_shl_i64, and_m32', Int.reduceToNat, Int.reducePow, Int.reduceMod, Int.reduceDiv, wrap_u64s, true_or, or_true, true_and, and_true, Option.isSome_none, Option.isSome_some, Nat.reduceLeDiff, Nat.reduceMul, Int.toNat_natCast, Int.cast_ofNat_Int, Int.natCast_zero, Int.natCast_one, List.isEmpty_nil, List.isEmpty_cons, List.replicate_zero, List.replicate_succ, T1, T2, T3, T4, T5, T6, T9, T10, T11, T12, T21, T22, T23, T24, T25, T26, T27, T28, T30, T31, T32, T33, T34, T35, T36, T37, T38, T39, T40, T41, T42, T44, T45, T46, T47, T48, T49, T50, T51, T52, T53, T55, T56, T57, T58, T59, T60, T61, T63, T64, T66, T67, T68, T69, T70, T71, T72, T73, T74, T75, T76, T77, T78, T79, T80, T81, T82, T83, T84, T86, T87, T88, T89, T91, T93, T94, T95, T98, T100, T106, T107, T108, T109, T110, T112, T113, l0, l3, l4, hN, c0, i1, i2, hc, hs, bx_get0, bx_set0, w1]
        refine hX (k + 1, L.set k (ivAt m (some b) k)) _ _ (by simp only; omega) ⟨rfl, ?_, ?_, ?_, by simp only; omega, by simpa using hL, ?_⟩
        · simp [look, l0]
        · simp [look, l3]
        · rw [← hK]; rfl
        · have hg := @ivsAt_get m (some b) n k hkl
          simp only
          rw [List.take_add_one, List.take_add_one, List.take_set, ht, hg, List.getElem?_set_self (by omega), List.set_eq_of_length_le (by simp; omega)]
      · have c0 : decide (K < N) = false := by simp only [decide_eq_false_iff_not]; omega
        have hLe : L = ivsAt m a n := by
          have e1 : L.take k = L := List.take_of_length_le (by omega)
          have e2 : (ivsAt m a n).take k = ivsAt m a n := List.take_of_length_le (by rw [ivsAt_len]; omega)
          rw [e1, e2] at ht
          exact ht
        simp (config := { maxSteps := 4000000, implicitDefEqProofs := false }) only [F_toI_eq, WK0, WK1, WK2, WK3, WK4, WK5, WK6, WK7, WK8, WK9, WK10, WK11, WK12, WK13, WK14, WK15, WK16, WK17, WK18, WK19, WK20, WK21, WK22, WK23, WK24, WK25, WK26, WK27, WK28, look_hit, look_miss, List.map_cons, List.map_nil, Nat.add_zero, max_v, min_v, ↓cnd_t, ↓cnd_f, ↓grd_b, ↓grd_u, startEnv, Option.map_some, List.length_nil, List.length_cons, List.nil_append, List.cons_append, List.getElem?_cons_zero, List.getElem?_cons_succ, List.set_cons_zero, List.set_cons_succ, Bool.not_true, Bool.not_false, reduceIte, Nat.reduceEqDiff, Nat.reduceAdd, Nat.reduceLT, blt_lit, beq_lit, Bool.or_true, Bool.true_or, Bool.or_false, Bool.false_or, Bool.and_true, Bool.true_and, Bool.and_self, cond_true, cond_false, List.append_nil, Iv.eta, Option.map_none, idxO_l0, idxO_l1, decide_true, decide_false, reqs_true, Int.zero_sub, wrap_lit, wrapu_lit, Int.reduceLE, Int.reduceLT, Int.reduceAdd, Int.reduceSub, Int.reduceMul, Int.reduceNeg, Int.reduceEq, Option.bind_some, bin_shr_u64, bin_shl_u64, bin_shr_i64, bin_shl_i64, and_m32', Int.reduceToNat, Int.reducePow, Int.reduceMod, Int.reduceDiv, wrap_u64s, true_or, or_true, true_and, and_true, Option.isSome_none, Option.isSome_some, Nat.reduceLeDiff, Nat.reduceMul, Int.toNat_natCast, Int.cast_ofNat_Int, Int.natCast_zero, Int.natCast_one, List.isEmpty_nil, List.isEmpty_cons, List.replicate_zero, List.replicate_succ, T1, T2, T3, T4, T5, T6, T9, T10, T11, T12, T21, T22, T23, T24, T25, T26, T27, T28, T30, T31, T32, T33, T34, T35, T36, T37, T38, T39, T40, T41, T42, T44, T45, T46, T47, T48, T49, T50, T51, T52, T53, T55, T56, T57, T58, T59, T60, T61, T63, T64, T66, T67, T68, T69, T70, T71, T72, T73, T74, T75, T76, T77, T78, T79, T80, T81, T82, T83, T84, T86, T87, T88, T89, T91, T93, T94, T95, T98, T100, T106, T107, T108, T109, T110, T112, T113, l0, l3, l4, hN, c0]
        rw [← hLe, ← er]
        exact endM_rowE (l := [])
  · cases hM

-- def eqS
def eqL : List Iv → List Iv → Bool
  | [], [] => true
  | x :: a, y :: b => (decide (x.lo = y.lo) && decide (x.hi = y.hi)) && eqL a b
  | _, _ => false
theorem eqL_refl : ∀ (L : List Iv), eqL L L = true
  | [] => rfl
  | v :: r => by simp [eqL, eqL_refl r]
theorem eqL_len : ∀ {a b : List Iv}, a.length ≠ b.length → eqL a b = false
  | [], [], h => by simp at h
  | [], y :: b, h => rfl
  | x :: a, [], h => rfl
  | x :: a, y :: b, h => by
    rw [eqL, eqL_len (by simpa using h)]
    simp
def eqO (h : Heap) : Option (List Iv) → Option (List Iv) → Option (Prop × SV × Heap)
  | some A, some B => some (True, .v (.c (.p (.bool (eqL A B)))), h)
  | _, _ => none
theorem eqO_some {h : Heap} {A B : List Iv} : eqO h (some A) (some B) = some (True, .v (.c (.p (.bool (eqL A B)))), h) := rfl
def M_eqS : MT := fun m args h => match args with
  | [.c a, .c b] => eqO h (rowOf h a) (rowOf h b)
  | _ => none
theorem M_eqS_eq {m : Addr → Option PC} {h : Heap} {a b : Cl} : M_eqS m [.c a, .c b] h = eqO h (rowOf h a) (rowOf h b) := rfl
theorem drop_at {L : List Iv} {k : Nat} {v : Iv} (hv : L[k]? = some v) : L.drop k = v :: L.drop (k + 1) := by
  have hkl := (List.getElem?_eq_some_iff.1 hv).1
  rw [List.drop_eq_getElem_cons hkl]
  congr 1
  have := List.getElem?_eq_getElem hkl
  rw [hv] at this
  exact (Option.some.inj this).symm
theorem row_len {sl : Cl} {h : Heap} {L : List Iv} (hs : rowOf h sl = some L) : lenF (tdRow [PC.int .i64 0, PC.int .i64 0]) (.c sl) = some L.length := by
  rcases rowOf_out hs with ⟨i, rfl, _⟩ | ⟨rfl, i, o, rfl⟩ | ⟨rfl, rfl⟩ <;> rfl
theorem lenO_of {sl : Cl} {h : Heap} {L : List Iv} (hs : rowOf h sl = some L) : lenO (some [.c sl]) (some (tdRow [PC.int .i64 0, PC.int .i64 0])) = some (sp (.int .i64 (L.length : Int))) := by
  simp only [lenO]
  rw [row_len hs]
  rfl

-- laws.eqIntervalS
theorem laws_eqIntervalS_eqS_ok : Mn Try.prog 12 M_eqS := by
  refine mn_of_go (O := orc [⟨20, F_eqI, .inl laws_eqInterval_eqI_ok⟩]) mixed T_ok (orc_sound _) Try.func12 (by kernel_rfl) rfl Try.ntmps12 (by kernel_rfl) Try.results12 ?_
  intro m args hp pre r h' hM hpre
  unfold M_eqS at hM
  split at hM
  · rename_i sa sb
    cases ha : rowOf hp sa with
    | none => rw [ha] at hM; cases hM
    | some A =>
      cases hb : rowOf hp sb with
      | none => rw [ha, hb] at hM; cases hM
      | some B =>
        rw [ha, hb, eqO_some] at hM
        simp only [Option.some.injEq, Prod.mk.injEq] at hM
        obtain ⟨rfl, hr, hh⟩ := hM
        subst hr hh
        refine ⟨by simp, ?_⟩
        have la := lenO_of ha
        have lb := lenO_of hb
        obtain ⟨N, hN⟩ : ∃ N : Int, ((A.length : Nat) : Int) = N := ⟨_, rfl⟩
        obtain ⟨M, hMM⟩ : ∃ M : Int, ((B.length : Nat) : Int) = M := ⟨_, rfl⟩
        rw [hN] at la
        rw [hMM] at lb
        by_cases hl : N = M
        · have e0 : decide (N = M) = true := by simpa using hl
          have hl' : A.length = B.length := by omega
          simp (config := { maxSteps := 4000000, implicitDefEqProofs := false }) only [F_eqI_eq, WK0, WK1, WK2, WK3, WK4, WK5, WK6, WK7, WK8, WK9, WK10, WK11, WK12, WK13, WK14, WK15, WK16, WK17, WK18, WK19, WK20, WK21, WK22, WK23, WK24, WK25, WK26, WK27, WK28, look_hit, look_miss, List.map_cons, List.map_nil, Nat.add_zero, max_v, min_v, ↓cnd_t, ↓cnd_f, ↓grd_b, ↓grd_u, startEnv, Option.map_some, List.length_nil, List.length_cons, List.nil_append, List.cons_append, List.getElem?_cons_zero, List.getElem?_cons_succ, List.set_cons_zero, List.set_cons_succ, Bool.not_true, Bool.not_false, reduceIte, Nat.reduceEqDiff, Nat.reduceAdd, Nat.reduceLT, blt_lit, beq_lit, Bool.or_true, Bool.true_or, Bool.or_false, Bool.false_or, Bool.and_true, Bool.true_and, Bool.and_self, cond_true, cond_false, List.append_nil, Iv.eta, Option.map_none, idxO_l0, idxO_l1, decide_true, decide_false, reqs_true, Int.zero_sub, wrap_lit, wrapu_lit, Int.reduceLE, Int.reduceLT, Int.reduceAdd, Int.reduceSub, Int.reduceMul, Int.reduceNeg, Int.reduceEq, Option.bind_some, bin_shr_u64, bin_shl_u64, bin_shr_i64, bin_shl_i64, and_m32', Int.reduceToNat, Int.reducePow, Int.reduceMod, Int.reduceDiv, wrap_u64s, true_or, or_true, true_and, and_true, Option.isSome_none, Option.isSome_some, Nat.reduceLeDiff, Nat.reduceMul, Int.toNat_natCast, Int.cast_ofNat_Int, Int.natCast_zero, Int.natCast_one, List.isEmpty_nil, List.isEmpty_cons, List.replicate_zero, List.replicate_succ, T1, T2, T3, T4, T5, T6, T9, T10, T11, T12, T21, T22, T23, T24, T25, T26, T27, T28, T30, T31, T32, T33, T34, T35, T36, T37, T38, T39, T40, T41, T42, T44, T45, T46, T47, T48, T49, T50, T51, T52, T53, T55, T56, T57, T58, T59, T60, T61, T63, T64, T66, T67, T68, T69, T70, T71, T72, T73, T74, T75, T76, T77, T78, T79, T80, T81, T82, T83, T84, T86, T87, T88, T89, T91, T93, T94, T95, T98, T100, T106, T107, T108, T109, T110, T112, T113, la, lb, e0]
          refine go_loop (α := Nat) (fun s => A.length - s) (fun s e h => h = hp ∧ look e 0 = some (.v (.c sa)) ∧ look e 1 = some (.v (.c sb)) ∧ look e 5 = some (.v (.c (.p (.int .i64 (s : Int))))) ∧ s ≤ A.length ∧ eqL (A.drop s) (B.drop s) = eqL A B) 0 ⟨rfl, rfl, rfl, rfl, by omega, rfl⟩ ?_
          rintro X k e h ⟨rfl, l0, l1, l5, hk, hF⟩ hX
          obtain ⟨K, hK⟩ : ∃ K : Int, (k : Int) = K := ⟨_, rfl⟩
          rw [hK] at l5
          by_cases hkl : k < A.length
          · have c0 : decide (K < N) = true := by simp only [decide_eq_true_eq]; omega
            obtain ⟨v, hv⟩ : ∃ v, A[k]? = some v := ⟨_, List.getElem?_eq_getElem hkl⟩
            obtain ⟨u, hu⟩ : ∃ u, B[k]? = some u := ⟨_, List.getElem?_eq_getElem (by omega)⟩
            have hda := loadC_at hv
            have hdb := loadC_at hu
            rw [drop_at hv, drop_at hu, eqL] at hF
            have hKn : K.toNat = k := by omega
            rcases rowOf_out ha with ⟨i, rfl, hi, _, hA1⟩ | ⟨rfl, _⟩ | ⟨rfl, _⟩
            · rcases rowOf_out hb with ⟨j, rfl, hj, _, _⟩ | ⟨rfl, _⟩ | ⟨rfl, _⟩
              · have i1 := fun h => @row_iad h i A.length K (by omega) (by omega)
                have i2 := fun h => @row_iad h j B.length K (by omega) (by omega)
                rw [hKn] at i1 i2
                have w1 : IntKind.i64.wrap (K + 1) = K + 1 := wrap_om (by omega) (by omega)
                cases hc : (decide (v.lo = u.lo) && decide (v.hi = u.hi)) with
                | true =>
                  rw [hc, Bool.true_and] at hF
                  simp (config := { maxSteps := 4000000, implicitDefEqProofs := false }) only [F_eqI_eq, WK0, WK1, WK2, WK3, WK4, WK5, WK6, WK7, WK8, WK9, WK10, WK11, WK12, WK13, WK14, WK15, WK16, WK17, WK18, WK19, WK20, WK21, WK22, WK23, WK24, WK25, WK26, WK27, WK28, look_hit, look_miss, List.map_cons, List.map_nil, Nat.add_zero, max_v, min_v, ↓cnd_t, ↓cnd_f, ↓grd_b, ↓grd_u, startEnv, Option.map_some, List.length_nil, List.length_cons, List.nil_append, List.cons_append, List.getElem?_cons_zero, List.getElem?_cons_succ, List.set_cons_zero, List.set_cons_succ, Bool.not_true, Bool.not_false, reduceIte, Nat.reduceEqDiff, Nat.reduceAdd, Nat.reduceLT, blt_lit, beq_lit, Bool.or_true, Bool.true_or, Bool.or_false, Bool.false_or, Bool.and_true, Bool.true_and, Bool.and_self, cond_true, cond_false, List.append_nil, Iv.eta, Option.map_none, idxO_l0, idxO_l1, decide_true, decide_false, reqs_true, Int.zero_sub, wrap_lit, wrapu_lit, Int.reduceLE, Int.reduceLT, Int.reduceAdd, Int.reduceSub, Int.reduceMul, Int.reduceNeg, Int.reduceEq, Option.bind_some, bin_shr_u64, bin_shl_u64, bin_shr_i64, bin_shl_i64, and_m32', Int.reduceToNat, Int.reducePow, Int.reduceMod, Int.reduceDiv, wrap_u64s, true_or, or_true, true_and, and_true, Option.isSome_none, Option.isSome_some, Nat.reduceLeDiff, Nat.reduceMul, Int.toNat_natCast, Int.cast_ofNat_Int, Int.natCast_zero, Int.natCast_one, List.isEmpty_nil, List.isEmpty_cons, List.replicate_zero, List.replicate_succ, T1, T2, T3, T4, T5, T6, T9, T10, T11, T12, T21, T22, T23, T24, T25, T26, T27, T28, T30, T31, T32, T33, T34, T35, T36, T37, T38, T39, T40, T41, T42, T44, T45, T46, T47, T48, T49, T50, T51, T52, T53, T55, T56, T57, T58, T59, T60, T61, T63, T64, T66, T67, T68, T69, T70, T71, T72, T73, T74, T75, T76, T77, T78, T79, T80, T81, T82, T83, T84, T86, T87, T88, T89, T91, T93, T94, T95, T98, T100, T106, T107, T108, T109, T110, T112, T113, l0, l1, l5, hN, hMM, la, lb, c0, i1, i2, hi, hj, hda, hdb, hc, w1]
                  refine hX (k + 1) _ _ (by omega) ⟨rfl, ?_, ?_, ?_, by omega, hF⟩
                  · simp [look, l0]
                  · simp [look, l1]
                  · rw [← hK]; rfl
                | false =>
                  rw [hc, Bool.false_and] at hF
                  simp (config := { maxSteps := 4000000, implicitDefEqProofs := false }) only [F_eqI_eq, WK0, WK1, WK2, WK3, WK4, WK5, WK6, WK7, WK8, WK9, WK10, WK11, WK12, WK13, WK14, WK15, WK16, WK17, WK18, WK19, WK20, WK21, WK22, WK23, WK24, WK25, WK26, WK27, WK28, look_hit, look_miss, List.map_cons, List.map_nil, Nat.add_zero, max_v, min_v, ↓cnd_t, ↓cnd_f, ↓grd_b, ↓grd_u, startEnv, Option.map_some, List.length_nil, List.length_cons, List.nil_append, List.cons_append, List.getElem?_cons_zero, List.getElem?_cons_succ, List.set_cons_zero, List.set_cons_succ, Bool.not_true, Bool.not_false, reduceIte, Nat.reduceEqDiff, Nat.reduceAdd, Nat.reduceLT, blt_lit, beq_lit, Bool.or_true, Bool.true_or, Bool.or_false, Bool.false_or, Bool.and_true, Bool.true_and, Bool.and_self, cond_true, cond_false, List.append_nil, Iv.eta, Option.map_none, idxO_l0, idxO_l1, decide_true, decide_false, reqs_true, Int.zero_sub, wrap_lit, wrapu_lit, Int.reduceLE, Int.reduceLT, Int.reduceAdd, Int.reduceSub, Int.reduceMul, Int.reduceNeg, Int.reduceEq, Option.bind_some, bin_shr_u64, bin_shl_u64, bin_shr_i64, bin_shl_i64, and_m32', Int.reduceToNat, Int.reducePow, Int.reduceMod, Int.reduceDiv, wrap_u64s, true_or, or_true, true_and, and_true, Option.isSome_none, Option.isSome_some, Nat.reduceLeDiff, Nat.reduceMul, Int.toNat_natCast, Int.cast_ofNat_Int, Int.natCast_zero, Int.natCast_one, List.isEmpty_nil, List.isEmpty_cons, List.replicate_zero, List.replicate_succ, T1, T2, T3, T4, T5, T6, T9, T10, T11, T12, T21, T22, T23, T24, T25, T26, T27, T28, T30, T31, T32, T33, T34, T35, T36, T37, T38, T39, T40, T41, T42, T44, T45, T46, T47, T48, T49, T50, T51, T52, T53, T55, T56, T57, T58, T59, T60, T61, T63, T64, T66, T67, T68, T69, T70, T71, T72, T73, T74, T75, T76, T77, T78, T79, T80, T81, T82, T83, T84, T86, T87, T88, T89, T91, T93, T94, T95, T98, T100, T106, T107, T108, T109, T110, T112, T113, l0, l1, l5, hN, hMM, la, lb, c0, i1, i2, hi, hj, hda, hdb, hc, w1]
                  rw [← hF]
                  exact endM_pl
              · exact absurd hkl (by rw [hl']; simp)
              · exact absurd hkl (by rw [hl']; simp)
            · simp at hkl
            · simp at hkl
          · have c0 : decide (K < N) = false := by simp only [decide_eq_false_iff_not]; omega
            simp (config := { maxSteps := 4000000, implicitDefEqProofs := false }) only [F_eqI_eq, WK0, WK1, WK2, WK3, WK4, WK5, WK6, WK7, WK8, WK9, WK10, WK11, WK12, WK13, WK14, WK15, WK16, WK17, WK18, WK19, WK20, WK21, WK22, WK23, WK24, WK25, WK26, WK27, WK28, look_hit, look_miss, List.map_cons, List.map_nil, Nat.add_zero, max_v, min_v, ↓cnd_t, ↓cnd_f, ↓grd_b, ↓grd_u, startEnv, Option.map_some, List.length_nil, List.length_cons, List.nil_append, List.cons_append, List.getElem?_cons_zero, List.getElem?_cons_succ, List.set_cons_zero, List.set_cons_succ, Bool.not_true, Bool.not_false, reduceIte, Nat.reduceEqDiff, Nat.reduceAdd, Nat.reduceLT, blt_lit, beq_lit, Bool.or_true, Bool.true_or, Bool.or_false, Bool.false_or, Bool.and_true, Bool.true_and, Bool.and_self, cond_true, cond_false, List.append_nil, Iv.eta, Option.map_none, idxO_l0, idxO_l1, decide_true, decide_false, reqs_true, Int.zero_sub, wrap_lit, wrapu_lit, Int.reduceLE, Int.reduceLT, Int.reduceAdd, Int.reduceSub, Int.reduceMul, Int.reduceNeg, Int.reduceEq, Option.bind_some, bin_shr_u64, bin_shl_u64, bin_shr_i64, bin_shl_i64, and_m32', Int.reduceToNat, Int.reducePow, Int.reduceMod, Int.reduceDiv, wrap_u64s, true_or, or_true, true_and, and_true, Option.isSome_none, Option.isSome_some, Nat.reduceLeDiff, Nat.reduceMul, Int.toNat_natCast, Int.cast_ofNat_Int, Int.natCast_zero, Int.natCast_one, List.isEmpty_nil, List.isEmpty_cons, List.replicate_zero, List.replicate_succ, T1, T2, T3, T4, T5, T6, T9, T10, T11, T12, T21, T22, T23, T24, T25, T26, T27, T28, T30, T31, T32, T33, T34, T35, T36, T37, T38, T39, T40, T41, T42, T44, T45, T46, T47, T48, T49, T50, T51, T52, T53, T55, T56, T57, T58, T59, T60, T61, T63, T64, T66, T67, T68, T69, T70, T71, T72, T73, T74, T75, T76, T77, T78, T79, T80, T81, T82, T83, T84, T86, T87, T88, T89, T91, T93, T94, T95, T98, T100, T106, T107, T108, T109, T110, T112, T113, l0, l1, l5, la, lb, c0]
            rw [List.drop_of_length_le (by omega), List.drop_of_length_le (by omega), eqL] at hF
            rw [← hF]
            exact endM_pl
        · have e0 : decide (N = M) = false := by simpa using hl
          simp (config := { maxSteps := 4000000, implicitDefEqProofs := false }) only [F_eqI_eq, WK0, WK1, WK2, WK3, WK4, WK5, WK6, WK7, WK8, WK9, WK10, WK11, WK12, WK13, WK14, WK15, WK16, WK17, WK18, WK19, WK20, WK21, WK22, WK23, WK24, WK25, WK26, WK27, WK28, look_hit, look_miss, List.map_cons, List.map_nil, Nat.add_zero, max_v, min_v, ↓cnd_t, ↓cnd_f, ↓grd_b, ↓grd_u, startEnv, Option.map_some, List.length_nil, List.length_cons, List.nil_append, List.cons_append, List.getElem?_cons_zero, List.getElem?_cons_succ, List.set_cons_zero, List.set_cons_succ, Bool.not_true, Bool.not_false, reduceIte, Nat.reduceEqDiff, Nat.reduceAdd, Nat.reduceLT, blt_lit, beq_lit, Bool.or_true, Bool.true_or, Bool.or_false, Bool.false_or, Bool.and_true, Bool.true_and, Bool.and_self, cond_true, cond_false, List.append_nil, Iv.eta, Option.map_none, idxO_l0, idxO_l1, decide_true, decide_false, reqs_true, Int.zero_sub, wrap_lit, wrapu_lit, Int.reduceLE, Int.reduceLT, Int.reduceAdd, Int.reduceSub, Int.reduceMul, Int.reduceNeg, Int.reduceEq, Option.bind_some, bin_shr_u64, bin_shl_u64, bin_shr_i64, bin_shl_i64, and_m32', Int.reduceToNat, Int.reducePow, Int.reduceMod, Int.reduceDiv, wrap_u64s, true_or, or_true, true_and, and_true, Option.isSome_none, Option.isSome_some, Nat.reduceLeDiff, Nat.reduceMul, Int.toNat_natCast, Int.cast_ofNat_Int, Int.natCast_zero, Int.natCast_one, List.isEmpty_nil, List.isEmpty_cons, List.replicate_zero, List.replicate_succ, T1, T2, T3, T4, T5, T6, T9, T10, T11, T12, T21, T22, T23, T24, T25, T26, T27, T28, T30, T31, T32, T33, T34, T35, T36, T37, T38, T39, T40, T41, T42, T44, T45, T46, T47, T48, T49, T50, T51, T52, T53, T55, T56, T57, T58, T59, T60, T61, T63, T64, T66, T67, T68, T69, T70, T71, T72, T73, T74, T75, T76, T77, T78, T79, T80, T81, T82, T83, T84, T86, T87, T88, T89, T91, T93, T94, T95, T98, T100, T106, T107, T108, T109, T110, T112, T113, la, lb, e0]
          rw [eqL_len (by omega)]
          exact endM_pl
  · cases hM

-- def marks
def markL : Nat → Int → List Iv
  | 0, _ => []
  | n + 1, k => ⟨k, k + 1⟩ :: markL n (k + 2)
def heldF : List Iv → Int → Int
  | [], k => k
  | v :: r, k => if v.lo = k then (if v.hi = k + 1 then heldF r (k + 2) else -1) else -1
theorem markL_len : ∀ (n : Nat) (k : Int), (markL n k).length = n
  | 0, k => rfl
  | n + 1, k => by simp [markL, markL_len n]
theorem heldF_mark : ∀ (n : Nat) (k : Int), heldF (markL n k) k = k + 2 * n
  | 0, k => by simp [markL, heldF]
  | n + 1, k => by
    rw [markL, heldF, if_pos rfl, if_pos rfl, heldF_mark n]
    omega
theorem markL_snoc : ∀ (n : Nat) (k : Int), markL (n + 1) k = markL n k ++ [⟨k + 2 * n, k + 2 * n + 1⟩]
  | 0, k => by simp [markL]
  | n + 1, k => by
    rw [markL, markL_snoc n (k + 2), markL, List.cons_append]
    congr 3
    · simp only [Iv.mk.injEq]; omega
theorem cellsI_get {L : List Iv} {j : Nat} {v : Iv} (h : L[j]? = some v) : (cellsI L)[j * 2]? = some (.int .i64 v.lo) ∧ (cellsI L)[j * 2 + 1]? = some (.int .i64 v.hi) := by
  obtain ⟨q, hq⟩ := cellsI_drop L j v h
  constructor
  · have := congrArg (·[0]?) hq
    simpa [List.getElem?_drop] using this
  · have := congrArg (·[1]?) hq
    simpa [List.getElem?_drop] using this
theorem loadC_lo {L : List Iv} {j : Nat} {v : Iv} (h : L[j]? = some v) : loadC (tdInt .i64) (j * 2) (some (cellsI L)) = some (.v (.c (.p (.int .i64 v.lo)))) := by
  rw [loadC_int, (cellsI_get h).1]; rfl
theorem loadC_hi {L : List Iv} {j : Nat} {v : Iv} (h : L[j]? = some v) : loadC (tdInt .i64) (j * 2 + 1) (some (cellsI L)) = some (.v (.c (.p (.int .i64 v.hi)))) := by
  rw [loadC_int, (cellsI_get h).2]; rfl
theorem splice_lo : ∀ (L : List Iv) (j : Nat) (v : Iv) (x : Int), L[j]? = some v → splice (cellsI L) (j * 2) [.int .i64 x] = cellsI (L.set j ⟨x, v.hi⟩)
  | [], j, v, x, h => by simp at h
  | u :: r, 0, v, x, h => by simp at h; subst h; simp [splice, cellsI]
  | u :: r, j + 1, v, x, h => by
    have ih := splice_lo r j v x (by simpa using h)
    have e : (j + 1) * 2 = j * 2 + 1 + 1 := by omega
    unfold splice at ih ⊢
    rw [e, List.set_cons_succ, cellsI, cellsI, ← ih]
    simp only [List.take_succ_cons, List.cons_append, List.length_cons, List.length_nil]
    rw [show j * 2 + 1 + 1 + (0 + 1) = j * 2 + (0 + 1) + 1 + 1 by omega, List.drop_succ_cons, List.drop_succ_cons]
theorem splice_hi : ∀ (L : List Iv) (j : Nat) (v : Iv) (x : Int), L[j]? = some v → splice (cellsI L) (j * 2 + 1) [.int .i64 x] = cellsI (L.set j ⟨v.lo, x⟩)
  | [], j, v, x, h => by simp at h
  | u :: r, 0, v, x, h => by simp at h; subst h; simp [splice, cellsI]
  | u :: r, j + 1, v, x, h => by
    have ih := splice_hi r j v x (by simpa using h)
    have e : (j + 1) * 2 = j * 2 + 1 + 1 := by omega
    unfold splice at ih ⊢
    rw [e, List.set_cons_succ, cellsI, cellsI, ← ih]
    simp only [List.take_succ_cons, List.cons_append, List.length_cons, List.length_nil]
    rw [show j * 2 + 1 + 1 + 1 + (0 + 1) = j * 2 + 1 + (0 + 1) + 1 + 1 by omega, List.drop_succ_cons, List.drop_succ_cons]
theorem storeC_lo {h : Heap} {i j : Nat} {L : List Iv} {v : Iv} {x : Int} (hv : L[j]? = some v) : storeC h i (j * 2) 1 (some (cellsI L)) (some [.int .i64 x]) = some (none, h.set i (cellsI (L.set j ⟨x, v.hi⟩))) := by
  have hj := (List.getElem?_eq_some_iff.1 hv).1
  have hl := cellsI_len L
  have h3 : Nat.ble (j * 2 + 1) (cellsI L).length = true := by rw [Nat.ble_eq]; omega
  have h4 : (cellsI L).isEmpty = false := by
    cases hL : cellsI L with
    | nil => rw [hL] at hl; simp at hl; omega
    | cons a b => rfl
  have h5 : Nat.beq [PC.int IntKind.i64 x].length 1 = true := rfl
  unfold storeC
  simp only [h3, h4, h5, Bool.not_false, Bool.and_self, cond_true]
  rw [splice_lo L j v x hv]
theorem storeC_hi {h : Heap} {i j : Nat} {L : List Iv} {v : Iv} {x : Int} (hv : L[j]? = some v) : storeC h i (j * 2 + 1) 1 (some (cellsI L)) (some [.int .i64 x]) = some (none, h.set i (cellsI (L.set j ⟨v.lo, x⟩))) := by
  have hj := (List.getElem?_eq_some_iff.1 hv).1
  have hl := cellsI_len L
  have h3 : Nat.ble (j * 2 + 1 + 1) (cellsI L).length = true := by rw [Nat.ble_eq]; omega
  have h4 : (cellsI L).isEmpty = false := by
    cases hL : cellsI L with
    | nil => rw [hL] at hl; simp at hl; omega
    | cons a b => rfl
  have h5 : Nat.beq [PC.int IntKind.i64 x].length 1 = true := rfl
  unfold storeC
  simp only [h3, h4, h5, Bool.not_false, Bool.and_self, cond_true]
  rw [splice_hi L j v x hv]
theorem faddr_1g {i o : Nat} {k1 k2 : IntKind} : faddrO 1 (some (.c (.ptr (.own i o)))) (some (tdPair k1 k2)) = some (.v (.c (.ptr (.own i (o + 1))))) := rfl
def heldO (h : Heap) (k : Int) : Option (List Iv) → Option (Prop × SV × Heap)
  | some L => some (0 ≤ k ∧ k ≤ 1000000000, .v (.c (.p (.int .i64 (heldF L k)))), h)
  | none => none
theorem heldO_some {h : Heap} {k : Int} {L : List Iv} : heldO h k (some L) = some (0 ≤ k ∧ k ≤ 1000000000, .v (.c (.p (.int .i64 (heldF L k)))), h) := rfl
def M_held : MT := fun m args h => match args with
  | [.c sl, .c (.p (.int .i64 k))] => heldO h k (rowOf h sl)
  | _ => none
theorem M_held_eq {m : Addr → Option PC} {h : Heap} {sl : Cl} {k : Int} : M_held m [.c sl, .c (.p (.int .i64 k))] h = heldO h k (rowOf h sl) := rfl
def markO (h : Heap) (k : Int) : Cl → Option (List Iv) → Option (Prop × SV × Heap)
  | .row i 0 _ 2, some L => some (0 ≤ k ∧ k ≤ 1000000000, .v (.c (.p (.int .i64 (k + 2 * L.length)))), h.set i (cellsI (markL L.length k)))
  | .emp _ _, some _ => some (0 ≤ k ∧ k ≤ 1000000000, .v (.c (.p (.int .i64 k))), h)
  | .p (.sl none 0 0), some _ => some (0 ≤ k ∧ k ≤ 1000000000, .v (.c (.p (.int .i64 k))), h)
  | _, _ => none
theorem markO_row {h : Heap} {k : Int} {i n : Nat} {L : List Iv} : markO h k (.row i 0 n 2) (some L) = some (0 ≤ k ∧ k ≤ 1000000000, .v (.c (.p (.int .i64 (k + 2 * L.length)))), h.set i (cellsI (markL L.length k))) := rfl
theorem markO_emp {h : Heap} {k : Int} {i o : Nat} {L : List Iv} : markO h k (.emp i o) (some L) = some (0 ≤ k ∧ k ≤ 1000000000, .v (.c (.p (.int .i64 k))), h) := rfl
theorem markO_nil {h : Heap} {k : Int} {L : List Iv} : markO h k (.p (.sl none 0 0)) (some L) = some (0 ≤ k ∧ k ≤ 1000000000, .v (.c (.p (.int .i64 k))), h) := rfl
def M_mark : MT := fun m args h => match args with
  | [.c sl, .c (.p (.int .i64 k))] => markO h k sl (rowOf h sl)
  | _ => none
theorem M_mark_eq {m : Addr → Option PC} {h : Heap} {sl : Cl} {k : Int} : M_mark m [.c sl, .c (.p (.int .i64 k))] h = markO h k sl (rowOf h sl) := rfl

-- laws.heldIntervalS
theorem laws_heldIntervalS_held_ok : Mn Try.prog 16 M_held := by
  refine mn_of_go (O := orc []) mixed T_ok (orc_sound _) Try.func16 (by kernel_rfl) rfl Try.ntmps16 (by kernel_rfl) Try.results16 ?_
  intro m args hp pre r h' hM hpre
  unfold M_held at hM
  split at hM
  · rename_i sl k0
    cases hs : rowOf hp sl with
    | none => rw [hs] at hM; cases hM
    | some L =>
      rw [hs, heldO_some] at hM
      simp only [Option.some.injEq, Prod.mk.injEq] at hM
      obtain ⟨rfl, hr, hh⟩ := hM
      subst hr hh
      refine ⟨by simp, ?_⟩
      rcases rowOf_out hs with ⟨i, rfl, hi, hL0, hL1⟩ | ⟨rfl, i, o, rfl⟩ | ⟨rfl, rfl⟩
      · simp (config := { maxSteps := 4000000, implicitDefEqProofs := false }) only [WK0, WK1, WK2, WK3, WK4, WK5, WK6, WK7, WK8, WK9, WK10, WK11, WK12, WK13, WK14, WK15, WK16, WK17, WK18, WK19, WK20, WK21, WK22, WK23, WK24, WK25, WK26, WK27, WK28, look_hit, look_miss, List.map_cons, List.map_nil, Nat.add_zero, max_v, min_v, ↓cnd_t, ↓cnd_f, ↓grd_b, ↓grd_u, startEnv, Option.map_some, List.length_nil, List.length_cons, List.nil_append, List.cons_append, List.getElem?_cons_zero, List.getElem?_cons_succ, List.set_cons_zero, List.set_cons_succ, Bool.not_true, Bool.not_false, reduceIte, Nat.reduceEqDiff, Nat.reduceAdd, Nat.reduceLT, blt_lit, beq_lit, Bool.or_true, Bool.true_or, Bool.or_false, Bool.false_or, Bool.and_true, Bool.true_and, Bool.and_self, cond_true, cond_false, List.append_nil, Iv.eta, Option.map_none, idxO_l0, idxO_l1, decide_true, decide_false, reqs_true, Int.zero_sub, wrap_lit, wrapu_lit, Int.reduceLE, Int.reduceLT, Int.reduceAdd, Int.reduceSub, Int.reduceMul, Int.reduceNeg, Int.reduceEq, Option.bind_some, bin_shr_u64, bin_shl_u64, bin_shr_i64, bin_shl_i64, and_m32', Int.reduceToNat, Int.reducePow, Int.reduceMod, Int.reduceDiv, wrap_u64s, true_or, or_true, true_and, and_true, Option.isSome_none, Option.isSome_some, Nat.reduceLeDiff, Nat.reduceMul, Int.toNat_natCast, Int.cast_ofNat_Int, Int.natCast_zero, Int.natCast_one, List.isEmpty_nil, List.isEmpty_cons, List.replicate_zero, List.replicate_succ, T1, T2, T3, T4, T5, T6, T9, T10, T11, T12, T21, T22, T23, T24, T25, T26, T27, T28, T30, T31, T32, T33, T34, T35, T36, T37, T38, T39, T40, T41, T42, T44, T45, T46, T47, T48, T49, T50, T51, T52, T53, T55, T56, T57, T58, T59, T60, T61, T63, T64, T66, T67, T68, T69, T70, T71, T72, T73, T74, T75, T76, T77, T78, T79, T80, T81, T82, T83, T84, T86, T87, T88, T89, T91, T93, T94, T95, T98, T100, T106, T107, T108, T109, T110, T112, T113]
        obtain ⟨N, hN⟩ : ∃ N : Int, ((L.length : Nat) : Int) = N := ⟨_, rfl⟩
        refine go_loop (α := Nat) (fun s => L.length - s) (fun s e h => h = hp ∧ look e 0 = some (.v (.c (.row i 0 L.length 2))) ∧ look e 5 = some (.v (.c (.p (.int .i64 (s : Int))))) ∧ look e 1 = some (.v (.c (.p (.int .i64 (k0 + 2 * s))))) ∧ s ≤ L.length ∧ heldF (L.drop s) (k0 + 2 * s) = heldF L k0) 0 ⟨rfl, rfl, rfl, by simp [look, startEnv], by omega, by simp⟩ ?_
        rintro X k e h ⟨rfl, l0, l5, l1, hk, hF⟩ hX
        obtain ⟨K, hK⟩ : ∃ K : Int, (k : Int) = K := ⟨_, rfl⟩
        rw [hK] at l5 l1 hF
        obtain ⟨q, hq⟩ : ∃ q : Int, k0 + 2 * K = q := ⟨_, rfl⟩
        rw [hq] at l1 hF
        by_cases hkl : k < L.length
        · have c0 : decide (K < N) = true := by simp only [decide_eq_true_eq]; omega
          obtain ⟨v, hv⟩ : ∃ v, L[k]? = some v := ⟨_, List.getElem?_eq_getElem hkl⟩
          have hd := loadC_lo hv
          have hd' := loadC_hi hv
          have w1 : IntKind.i64.wrap (K + 1) = K + 1 := wrap_om (by omega) (by omega)
          have w2 : IntKind.i64.wrap (q + 1) = q + 1 := wrap_om (by omega) (by omega)
          have w3 : IntKind.i64.wrap (q + 1 + 1) = q + 1 + 1 := wrap_om (by omega) (by omega)
          have i1 := fun h => @row_iad h i L.length K (by omega) (by omega)
          have hKn : K.toNat = k := by omega
          rw [hKn] at i1
          rw [drop_at hv, heldF] at hF
          by_cases ha : v.lo = q
          · have e1 : decide (v.lo = q) = true := by simpa using ha
            rw [if_pos ha] at hF
            by_cases hb : v.hi = q + 1
            · have e2 : decide (v.hi = q + 1) = true := by simpa using hb
              rw [if_pos hb] at hF
              simp (config := { maxSteps := 4000000, implicitDefEqProofs := false }) only [WK0, WK1, WK2, WK3, WK4, WK5, WK6, WK7, WK8, WK9, WK10, WK11, WK12, WK13, WK14, WK15, WK16, WK17, WK18, WK19, WK20, WK21, WK22, WK23, WK24, WK25, WK26, WK27, WK28, look_hit, look_miss, List.map_cons, List.map_nil, Nat.add_zero, max_v, min_v, ↓cnd_t, ↓cnd_f, ↓grd_b, ↓grd_u, startEnv, Option.map_some, List.length_nil, List.length_cons, List.nil_append, List.cons_append, List.getElem?_cons_zero, List.getElem?_cons_succ, List.set_cons_zero, List.set_cons_succ, Bool.not_true, Bool.not_false, reduceIte, Nat.reduceEqDiff, Nat.reduceAdd, Nat.reduceLT, blt_lit, beq_lit, Bool.or_true, Bool.true_or, Bool.or_false, Bool.false_or, Bool.and_true, Bool.true_and, Bool.and_self, cond_true, cond_false, List.append_nil, Iv.eta, Option.map_none, idxO_l0, idxO_l1, decide_true, decide_false, reqs_true, Int.zero_sub, wrap_lit, wrapu_lit, Int.reduceLE, Int.reduceLT, Int.reduceAdd, Int.reduceSub, Int.reduceMul, Int.reduceNeg, Int.reduceEq, Option.bind_some, bin_shr_u64, bin_shl_u64, bin_shr_i64, bin_shl_i64, and_m32', Int.reduceToNat, Int.reducePow, Int.reduceMod, Int.reduceDiv, wrap_u64s, true_or, or_true, true_and, and_true, Option.isSome_none, Option.isSome_some, Nat.reduceLeDiff, Nat.reduceMul, Int.toNat_natCast, Int.cast_ofNat_Int, Int.natCast_zero, Int.natCast_one, List.isEmpty_nil, List.isEmpty_cons, List.replicate_zero, List.replicate_succ, T1, T2, T3, T4, T5, T6, T9, T10, T11, T12, T21, T22, T23, T24, T25, T26, T27, T28, T30, T31, T32, T33, T34, T35, T36, T37, T38, T39, T40, T41, T42, T44, T45, T46, T47, T48, T49, T50, T51, T52, T53, T55, T56, T57, T58, T59, T60, T61, T63, T64, T66, T67, T68, T69, T70, T71, T72, T73, T74, T75, T76, T77, T78, T79, T80, T81, T82, T83, T84, T86, T87, T88, T89, T91, T93, T94, T95, T98, T100, T106, T107, T108, T109, T110, T112, T113, l0, l1, l5, hN, c0, i1, hi, hd, hd', faddr_1g, e1, e2, w1, w2, w3]
              refine hX (k + 1) _ _ (by omega) ⟨rfl, ?_, ?_, ?_, by omega, ?_⟩
              · simp [look, l0]
              · rw [← hK]; rfl
              · have : k0 + 2 * ((k + 1 : Nat) : Int) = q + 1 + 1 := by omega
                rw [this]; rfl
              · have : k0 + 2 * ((k + 1 : Nat) : Int) = q + 2 := by omega
                rw [this]; exact hF
            · have e2 : decide (v.hi = q + 1) = false := by simpa using hb
              rw [if_neg hb] at hF
              simp (config := { maxSteps := 4000000, implicitDefEqProofs := false }) only [WK0, WK1, WK2, WK3, WK4, WK5, WK6, WK7, WK8, WK9, WK10, WK11, WK12, WK13, WK14, WK15, WK16, WK17, WK18, WK19, WK20, WK21, WK22, WK23, WK24, WK25, WK26, WK27, WK28, look_hit, look_miss, List.map_cons, List.map_nil, Nat.add_zero, max_v, min_v, ↓cnd_t, ↓cnd_f, ↓grd_b, ↓grd_u, startEnv, Option.map_some, List.length_nil, List.length_cons, List.nil_append, List.cons_append, List.getElem?_cons_zero, List.getElem?_cons_succ, List.set_cons_zero, List.set_cons_succ, Bool.not_true, Bool.not_false, reduceIte, Nat.reduceEqDiff, Nat.reduceAdd, Nat.reduceLT, blt_lit, beq_lit, Bool.or_true, Bool.true_or, Bool.or_false, Bool.false_or, Bool.and_true, Bool.true_and, Bool.and_self, cond_true, cond_false, List.append_nil, Iv.eta, Option.map_none, idxO_l0, idxO_l1, decide_true, decide_false, reqs_true, Int.zero_sub, wrap_lit, wrapu_lit, Int.reduceLE, Int.reduceLT, Int.reduceAdd, Int.reduceSub, Int.reduceMul, Int.reduceNeg, Int.reduceEq, Option.bind_some, bin_shr_u64, bin_shl_u64, bin_shr_i64, bin_shl_i64, and_m32', Int.reduceToNat, Int.reducePow, Int.reduceMod, Int.reduceDiv, wrap_u64s, true_or, or_true, true_and, and_true, Option.isSome_none, Option.isSome_some, Nat.reduceLeDiff, Nat.reduceMul, Int.toNat_natCast, Int.cast_ofNat_Int, Int.natCast_zero, Int.natCast_one, List.isEmpty_nil, List.isEmpty_cons, List.replicate_zero, List.replicate_succ, T1, T2, T3, T4, T5, T6, T9, T10, T11, T12, T21, T22, T23, T24, T25, T26, T27, T28, T30, T31, T32, T33, T34, T35, T36, T37, T38, T39, T40, T41, T42, T44, T45, T46, T47, T48, T49, T50, T51, T52, T53, T55, T56, T57, T58, T59, T60, T61, T63, T64, T66, T67, T68, T69, T70, T71, T72, T73, T74, T75, T76, T77, T78, T79, T80, T81, T82, T83, T84, T86, T87, T88, T89, T91, T93, T94, T95, T98, T100, T106, T107, T108, T109, T110, T112, T113, l0, l1, l5, hN, c0, i1, hi, hd, hd', faddr_1g, e1, e2, w1, w2, w3]
              rw [← hF]; exact endM_pl
          · have e1 : decide (v.lo = q) = false := by simpa using ha
            rw [if_neg ha] at hF
            simp (config := { maxSteps := 4000000, implicitDefEqProofs := false }) only [WK0, WK1, WK2, WK3, WK4, WK5, WK6, WK7, WK8, WK9, WK10, WK11, WK12, WK13, WK14, WK15, WK16, WK17, WK18, WK19, WK20, WK21, WK22, WK23, WK24, WK25, WK26, WK27, WK28, look_hit, look_miss, List.map_cons, List.map_nil, Nat.add_zero, max_v, min_v, ↓cnd_t, ↓cnd_f, ↓grd_b, ↓grd_u, startEnv, Option.map_some, List.length_nil, List.length_cons, List.nil_append, List.cons_append, List.getElem?_cons_zero, List.getElem?_cons_succ, List.set_cons_zero, List.set_cons_succ, Bool.not_true, Bool.not_false, reduceIte, Nat.reduceEqDiff, Nat.reduceAdd, Nat.reduceLT, blt_lit, beq_lit, Bool.or_true, Bool.true_or, Bool.or_false, Bool.false_or, Bool.and_true, Bool.true_and, Bool.and_self, cond_true, cond_false, List.append_nil, Iv.eta, Option.map_none, idxO_l0, idxO_l1, decide_true, decide_false, reqs_true, Int.zero_sub, wrap_lit, wrapu_lit, Int.reduceLE, Int.reduceLT, Int.reduceAdd, Int.reduceSub, Int.reduceMul, Int.reduceNeg, Int.reduceEq, Option.bind_some, bin_shr_u64, bin_shl_u64, bin_shr_i64, bin_shl_i64, and_m32', Int.reduceToNat, Int.reducePow, Int.reduceMod, Int.reduceDiv, wrap_u64s, true_or, or_true, true_and, and_true, Option.isSome_none, Option.isSome_some, Nat.reduceLeDiff, Nat.reduceMul, Int.toNat_natCast, Int.cast_ofNat_Int, Int.natCast_zero, Int.natCast_one, List.isEmpty_nil, List.isEmpty_cons, List.replicate_zero, List.replicate_succ, T1, T2, T3, T4, T5, T6, T9, T10, T11, T12, T21, T22, T23, T24, T25, T26, T27, T28, T30, T31, T32, T33, T34, T35, T36, T37, T38, T39, T40, T41, T42, T44, T45, T46, T47, T48, T49, T50, T51, T52, T53, T55, T56, T57, T58, T59, T60, T61, T63, T64, T66, T67, T68, T69, T70, T71, T72, T73, T74, T75, T76, T77, T78, T79, T80, T81, T82, T83, T84, T86, T87, T88, T89, T91, T93, T94, T95, T98, T100, T106, T107, T108, T109, T110, T112, T113, l0, l1, l5, hN, c0, i1, hi, hd, hd', faddr_1g, e1, w1, w2, w3]
            rw [← hF]; exact endM_pl
        · have c0 : decide (K < N) = false := by simp only [decide_eq_false_iff_not]; omega
          simp (config := { maxSteps := 4000000, implicitDefEqProofs := false }) only [WK0, WK1, WK2, WK3, WK4, WK5, WK6, WK7, WK8, WK9, WK10, WK11, WK12, WK13, WK14, WK15, WK16, WK17, WK18, WK19, WK20, WK21, WK22, WK23, WK24, WK25, WK26, WK27, WK28, look_hit, look_miss, List.map_cons, List.map_nil, Nat.add_zero, max_v, min_v, ↓cnd_t, ↓cnd_f, ↓grd_b, ↓grd_u, startEnv, Option.map_some, List.length_nil, List.length_cons, List.nil_append, List.cons_append, List.getElem?_cons_zero, List.getElem?_cons_succ, List.set_cons_zero, List.set_cons_succ, Bool.not_true, Bool.not_false, reduceIte, Nat.reduceEqDiff, Nat.reduceAdd, Nat.reduceLT, blt_lit, beq_lit, Bool.or_true, Bool.true_or, Bool.or_false, Bool.false_or, Bool.and_true, Bool.true_and, Bool.and_self, cond_true, cond_false, List.append_nil, Iv.eta, Option.map_none, idxO_l0, idxO_l1, decide_true, decide_false, reqs_true, Int.zero_sub, wrap_lit, wrapu_lit, Int.reduceLE, Int.reduceLT, Int.reduceAdd, Int.reduceSub, Int.reduceMul, Int.reduceNeg, Int.reduceEq, Option.bind_some, bin_shr_u64, bin_shl_u64, bin_shr_i64, bin_shl_i64, and_m32', Int.reduceToNat, Int.reducePow, Int.reduceMod, Int.reduceDiv, wrap_u64s, true_or, or_true, true_and, and_true, Option.isSome_none, Option.isSome_some, Nat.reduceLeDiff, Nat.reduceMul, Int.toNat_natCast, Int.cast_ofNat_Int, Int.natCast_zero, Int.natCast_one, List.isEmpty_nil, List.isEmpty_cons, List.replicate_zero, List.replicate_succ, T1, T2, T3, T4, T5, T6, T9, T10, T11, T12, T21, T22, T23, T24, T25, T26, T27, T28, T30, T31, T32, T33, T34, T35, T36, T37, T38, T39, T40, T41, T42, T44, T45, T46, T47, T48, T49, T50, T51, T52, T53, T55, T56, T57, T58, T59, T60, T61, T63, T64, T66, T67, T68, T69, T70, T71, T72, T73, T74, T75, T76, T77, T78, T79, T80, T81, T82, T83, T84, T86, T87, T88, T89, T91, T93, T94, T95, T98, T100, T106, T107, T108, T109, T110, T112, T113, l0, l1, l5, hN, c0]
          rw [List.drop_of_length_le (by omega), heldF] at hF
          rw [← hF]
          exact endM_pl
      · have : heldF [] k0 = k0 := rfl
        simp (config := { maxSteps := 4000000, implicitDefEqProofs := false }) only [WK0, WK1, WK2, WK3, WK4, WK5, WK6, WK7, WK8, WK9, WK10, WK11, WK12, WK13, WK14, WK15, WK16, WK17, WK18, WK19, WK20, WK21, WK22, WK23, WK24, WK25, WK26, WK27, WK28, look_hit, look_miss, List.map_cons, List.map_nil, Nat.add_zero, max_v, min_v, ↓cnd_t, ↓cnd_f, ↓grd_b, ↓grd_u, startEnv, Option.map_some, List.length_nil, List.length_cons, List.nil_append, List.cons_append, List.getElem?_cons_zero, List.getElem?_cons_succ, List.set_cons_zero, List.set_cons_succ, Bool.not_true, Bool.not_false, reduceIte, Nat.reduceEqDiff, Nat.reduceAdd, Nat.reduceLT, blt_lit, beq_lit, Bool.or_true, Bool.true_or, Bool.or_false, Bool.false_or, Bool.and_true, Bool.true_and, Bool.and_self, cond_true, cond_false, List.append_nil, Iv.eta, Option.map_none, idxO_l0, idxO_l1, decide_true, decide_false, reqs_true, Int.zero_sub, wrap_lit, wrapu_lit, Int.reduceLE, Int.reduceLT, Int.reduceAdd, Int.reduceSub, Int.reduceMul, Int.reduceNeg, Int.reduceEq, Option.bind_some, bin_shr_u64, bin_shl_u64, bin_shr_i64, bin_shl_i64, and_m32', Int.reduceToNat, Int.reducePow, Int.reduceMod, Int.reduceDiv, wrap_u64s, true_or, or_true, true_and, and_true, Option.isSome_none, Option.isSome_some, Nat.reduceLeDiff, Nat.reduceMul, Int.toNat_natCast, Int.cast_ofNat_Int, Int.natCast_zero, Int.natCast_one, List.isEmpty_nil, List.isEmpty_cons, List.replicate_zero, List.replicate_succ, T1, T2, T3, T4, T5, T6, T9, T10, T11, T12, T21, T22, T23, T24, T25, T26, T27, T28, T30, T31, T32, T33, T34, T35, T36, T37, T38, T39, T40, T41, T42, T44, T45, T46, T47, T48, T49, T50, T51, T52, T53, T55, T56, T57, T58, T59, T60, T61, T63, T64, T66, T67, T68, T69, T70, T71, T72, T73, T74, T75, T76, T77, T78, T79, T80, T81, T82, T83, T84, T86, T87, T88, T89, T91, T93, T94, T95, T98, T100, T106, T107, T108, T109, T110, T112, T113, go_turn_eq, again_n, again_r, again_e, this]
        repeat' (first | with_reducible refine cnd_split (fun hc => ?_) (fun hc => ?_) | with_reducible refine Reqs.mk ?_ ?_)
        all_goals first | trivial | exact endM_pl
      · have : heldF [] k0 = k0 := rfl
        simp (config := { maxSteps := 4000000, implicitDefEqProofs := false }) only [WK0, WK1, WK2, WK3, WK4, WK5, WK6, WK7, WK8, WK9, WK10, WK11, WK12, WK13, WK14, WK15, WK16, WK17, WK18, WK19, WK20, WK21, WK22, WK23, WK24, WK25, WK26, WK27, WK28, look_hit, look_miss, List.map_cons, List.map_nil, Nat.add_zero, max_v, min_v, ↓cnd_t, ↓cnd_f, ↓grd_b, ↓grd_u, startEnv, Option.map_some, List.length_nil, List.length_cons, List.nil_append, List.cons_append, List.getElem?_cons_zero, List.getElem?_cons_succ, List.set_cons_zero, List.set_cons_succ, Bool.not_true, Bool.not_false, reduceIte, Nat.reduceEqDiff, Nat.reduceAdd, Nat.reduceLT, blt_lit, beq_lit, Bool.or_true, Bool.true_or, Bool.or_false, Bool.false_or, Bool.and_true, Bool.true_and, Bool.and_self, cond_true, cond_false, List.append_nil, Iv.eta, Option.map_none, idxO_l0, idxO_l1, decide_true, decide_false, reqs_true, Int.zero_sub, wrap_lit, wrapu_lit, Int.reduceLE, Int.reduceLT, Int.reduceAdd, Int.reduceSub, Int.reduceMul, Int.reduceNeg, Int.reduceEq, Option.bind_some, bin_shr_u64, bin_shl_u64, bin_shr_i64, bin_shl_i64, and_m32', Int.reduceToNat, Int.reducePow, Int.reduceMod, Int.reduceDiv, wrap_u64s, true_or, or_true, true_and, and_true, Option.isSome_none, Option.isSome_some, Nat.reduceLeDiff, Nat.reduceMul, Int.toNat_natCast, Int.cast_ofNat_Int, Int.natCast_zero, Int.natCast_one, List.isEmpty_nil, List.isEmpty_cons, List.replicate_zero, List.replicate_succ, T1, T2, T3, T4, T5, T6, T9, T10, T11, T12, T21, T22, T23, T24, T25, T26, T27, T28, T30, T31, T32, T33, T34, T35, T36, T37, T38, T39, T40, T41, T42, T44, T45, T46, T47, T48, T49, T50, T51, T52, T53, T55, T56, T57, T58, T59, T60, T61, T63, T64, T66, T67, T68, T69, T70, T71, T72, T73, T74, T75, T76, T77, T78, T79, T80, T81, T82, T83, T84, T86, T87, T88, T89, T91, T93, T94, T95, T98, T100, T106, T107, T108, T109, T110, T112, T113, go_turn_eq, again_n, again_r, again_e, this]
        repeat' (first | with_reducible refine cnd_split (fun hc => ?_) (fun hc => ?_) | with_reducible refine Reqs.mk ?_ ?_)
        all_goals first | trivial | exact endM_pl
  · cases hM

end Go.Proofs.Ytcnapkdccjibpaa.Eng
