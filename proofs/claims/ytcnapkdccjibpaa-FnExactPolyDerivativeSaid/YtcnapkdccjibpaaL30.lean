/- What functions of the program compute, and that the program computes it: part 30. -/
import Derived.Test.YtcnapkdccjibpaaTab
import Derived.Test.YtcnapkdccjibpaaEng16
import Derived.Laws.BitsLemmas
import Derived.Laws.Bits64
import Derived.Laws.Bits64b
import Derived.Lib.Mul64
import Derived.Lib.BitFns
import Derived.Laws.Externs
import Derived.Test.YtcnapkdccjibpaaL1
import Derived.Test.YtcnapkdccjibpaaL2
import Derived.Test.YtcnapkdccjibpaaL3
import Derived.Test.YtcnapkdccjibpaaL5
import Derived.Test.YtcnapkdccjibpaaL19
import Derived.Test.YtcnapkdccjibpaaL23
import Derived.Test.YtcnapkdccjibpaaL24
import Derived.Test.YtcnapkdccjibpaaL26
import Derived.Test.YtcnapkdccjibpaaL29
namespace Go.Proofs.Ytcnapkdccjibpaa.Eng
open Go Go.RowKit
set_option linter.unusedVariables false
set_option linter.unusedSimpArgs false
set_option maxRecDepth 100000
set_option maxHeartbeats 1000000
-- impl.AddPolys
theorem swapQ {A B : List Iv} (h : A.length < B.length) : addP B A = addP A B := by
  unfold addP
  rw [Bool.and_comm, addL_comm]
theorem addTo_get {A B : List Iv} (h : B.length ≤ A.length) (k : Nat) : k ≤ B.length → ∀ V : List Iv, V.length = A.length → V.take k = (addL A B).take k → V.drop k = A.drop k → ∀ j, V[j]? = if j < k then (addL A B)[j]? else A[j]? := by
  intro hk V hV ht hd j
  split
  · rename_i hj
    have := congrArg (·[j]?) ht
    simpa [List.getElem?_take, hj] using this
  · rename_i hj
    have := congrArg (·[j - k]?) hd
    have e : k + (j - k) = j := by omega
    simpa [List.getElem?_drop, e] using this
/-- The loop of impl.AddPolys, as a list: what stands at k turns into the sum. -/
theorem add_step {A B V : List Iv} {k : Nat} {x y : Iv} (hV : V.length = A.length) (ht : V.take k = (addL A B).take k) (hd : V.drop k = A.drop k) (hx : A[k]? = some x) (hy : B[k]? = some y) :
    V[k]? = some x ∧ (V.set k (addI x y)).take (k + 1) = (addL A B).take (k + 1) ∧ (V.set k (addI x y)).drop (k + 1) = A.drop (k + 1) := by
  have hkA := (List.getElem?_eq_some_iff.1 hx).1
  have hg := addL_get A B k
  rw [hx, hy, addG] at hg
  have h1 : V[k]? = some x := by
    have := congrArg (·[0]?) hd
    simpa [List.getElem?_drop, hx] using this
  refine ⟨h1, ?_, ?_⟩
  · rw [List.take_add_one, List.take_add_one, List.take_set, ht, hg, List.getElem?_set_self (by omega), List.set_eq_of_length_le (by simp; omega)]
  · rw [List.drop_set, if_pos (by omega)]
    have := congrArg (List.drop 1) hd
    simpa [List.drop_drop] using this
theorem add_done {A B V : List Iv} {k : Nat} (hk : k = B.length) (hl : B.length ≤ A.length) (hV : V.length = A.length) (ht : V.take k = (addL A B).take k) (hd : V.drop k = A.drop k) : V = addL A B := by
  subst hk
  have h2 : ∀ (A B : List Iv), B.length ≤ A.length → (addL A B).drop B.length = A.drop B.length := by
    intro A
    induction A with
    | nil => intro B h; have : B = [] := by simpa using h
             subst this; rfl
    | cons x A ih =>
      intro B h
      cases B with
      | nil => rfl
      | cons y B => simpa [addL] using ih B (by simpa using h)
  rw [← List.take_append_drop B.length V, ht, hd, ← h2 A B hl, List.take_append_drop]
theorem impl_AddPolys_addP_ok : Mn Try.prog 14 M_addP := by
  refine mn_of_go (O := orcM [⟨39, F_addI, .inl impl_AddI_addI_ok⟩] [⟨11, M_pok, true, fun _ => one_pok, impl_ValidPoly_pok_ok⟩, ⟨38, M_clone, false, no_one, slices_Clone_clone_ok⟩, ⟨40, M_known, false, no_one, impl_known_known_ok⟩]) mixed T_ok (orcM_sound _ _) Try.func14 (by kernel_rfl) rfl Try.ntmps14 (by kernel_rfl) Try.results14 ?_
  intro m args hp pre r h' hM hpre
  unfold M_addP at hM
  split at hM
  · rename_i sa sb
    cases ha : rowOf hp sa with
    | none => rw [ha] at hM; cases hM
    | some A =>
      cases hb : rowOf hp sb with
      | none => rw [ha, hb] at hM; cases hM
      | some B =>
        rw [ha, hb, addPO_some] at hM
        simp only [Option.some.injEq, Prod.mk.injEq] at hM
        obtain ⟨rfl, hr, hh⟩ := hM
        refine ⟨by simp, ?_⟩
        cases hpa : pok A with
        | false =>
          have e : addP A B = ([], 1) := by unfold addP; rw [hpa]; rfl
          rw [e] at hr hh
          subst hr hh
          simp (config := { maxSteps := 4000000, implicitDefEqProofs := false }) only [F_addI_eq, WK0, WK1, WK2, WK3, WK4, WK5, WK6, WK7, WK8, WK9, WK10, WK11, WK12, WK13, WK14, WK15, WK16, WK17, WK18, WK19, WK20, WK21, WK22, WK23, WK24, WK25, WK26, WK27, WK28, look_hit, look_miss, List.map_cons, List.map_nil, Nat.add_zero, max_v, min_v, ↓cnd_t, ↓cnd_f, ↓grd_b, ↓grd_u, startEnv, Option.map_some, List.length_nil, List.length_cons, List.nil_append, List.cons_append, List.getElem?_cons_zero, List.getElem?_cons_succ, List.set_cons_zero, List.set_cons_succ, Bool.not_true, Bool.not_false, reduceIte, Nat.reduceEqDiff, Nat.reduceAdd, Nat.reduceLT, blt_lit, beq_lit, Bool.or_true, Bool.true_or, Bool.or_false, Bool.false_or, Bool.and_true, Bool.true_and, Bool.and_self, cond_true, cond_false, List.append_nil, Iv.eta, Option.map_none, idxO_l0, idxO_l1, decide_true, decide_false, reqs_true, Int.zero_sub, wrap_lit, wrapu_lit, Int.reduceLE, Int.reduceLT, Int.reduceAdd, Int.reduceSub, Int.reduceMul, Int.reduceNeg, Int.reduceEq, Option.bind_some, bin_shr_u64, bin_shl_u64, bin_shr_i64, bin_shl_i64, and_m32', Int.reduceToNat, Int.reducePow, Int.reduceMod, Int.reduceDiv, wrap_u64s, true_or, or_true, true_and, and_true, Option.isSome_none, Option.isSome_some, Nat.reduceLeDiff, Nat.reduceMul, Int.toNat_natCast, Int.cast_ofNat_Int, Int.natCast_zero, Int.natCast_one, List.isEmpty_nil, List.isEmpty_cons, List.replicate_zero, List.replicate_succ, T1, T2, T3, T4, T5, T6, T9, T10, T11, T12, T21, T22, T23, T24, T25, T26, T27, T28, T30, T31, T32, T33, T34, T35, T36, T37, T38, T39, T40, T41, T42, T44, T45, T46, T47, T48, T49, T50, T51, T52, T53, T55, T56, T57, T58, T59, T60, T61, T63, T64, T66, T67, T68, T69, T70, T71, T72, T73, T74, T75, T76, T77, T78, T79, T80, T81, T82, T83, T84, T86, T87, T88, T89, T91, T93, T94, T95, T98, T100, T106, T107, T108, T109, T110, T112, T113, M_pok_eq, ha, hb, boolO_some, hpa]
          repeat' (first | with_reducible refine cnd_split (fun hc => ?_) (fun hc => ?_) | with_reducible refine Reqs.mk ?_ ?_)
          all_goals first | trivial | exact endM_none
        | true =>
          cases hpb : pok B with
          | false =>
            have e : addP A B = ([], 1) := by unfold addP; rw [hpa, hpb]; rfl
            rw [e] at hr hh
            subst hr hh
            simp (config := { maxSteps := 4000000, implicitDefEqProofs := false }) only [F_addI_eq, WK0, WK1, WK2, WK3, WK4, WK5, WK6, WK7, WK8, WK9, WK10, WK11, WK12, WK13, WK14, WK15, WK16, WK17, WK18, WK19, WK20, WK21, WK22, WK23, WK24, WK25, WK26, WK27, WK28, look_hit, look_miss, List.map_cons, List.map_nil, Nat.add_zero, max_v, min_v, ↓cnd_t, ↓cnd_f, ↓grd_b, ↓grd_u, startEnv, Option.map_some, List.length_nil, List.length_cons, List.nil_append, List.cons_append, List.getElem?_cons_zero, List.getElem?_cons_succ, List.set_cons_zero, List.set_cons_succ, Bool.not_true, Bool.not_false, reduceIte, Nat.reduceEqDiff, Nat.reduceAdd, Nat.reduceLT, blt_lit, beq_lit, Bool.or_true, Bool.true_or, Bool.or_false, Bool.false_or, Bool.and_true, Bool.true_and, Bool.and_self, cond_true, cond_false, List.append_nil, Iv.eta, Option.map_none, idxO_l0, idxO_l1, decide_true, decide_false, reqs_true, Int.zero_sub, wrap_lit, wrapu_lit, Int.reduceLE, Int.reduceLT, Int.reduceAdd, Int.reduceSub, Int.reduceMul, Int.reduceNeg, Int.reduceEq, Option.bind_some, bin_shr_u64, bin_shl_u64, bin_shr_i64, bin_shl_i64, and_m32', Int.reduceToNat, Int.reducePow, Int.reduceMod, Int.reduceDiv, wrap_u64s, true_or, or_true, true_and, and_true, Option.isSome_none, Option.isSome_some, Nat.reduceLeDiff, Nat.reduceMul, Int.toNat_natCast, Int.cast_ofNat_Int, Int.natCast_zero, Int.natCast_one, List.isEmpty_nil, List.isEmpty_cons, List.replicate_zero, List.replicate_succ, T1, T2, T3, T4, T5, T6, T9, T10, T11, T12, T21, T22, T23, T24, T25, T26, T27, T28, T30, T31, T32, T33, T34, T35, T36, T37, T38, T39, T40, T41, T42, T44, T45, T46, T47, T48, T49, T50, T51, T52, T53, T55, T56, T57, T58, T59, T60, T61, T63, T64, T66, T67, T68, T69, T70, T71, T72, T73, T74, T75, T76, T77, T78, T79, T80, T81, T82, T83, T84, T86, T87, T88, T89, T91, T93, T94, T95, T98, T100, T106, T107, T108, T109, T110, T112, T113, M_pok_eq, ha, hb, boolO_some, hpa, hpb]
            repeat' (first | with_reducible refine cnd_split (fun hc => ?_) (fun hc => ?_) | with_reducible refine Reqs.mk ?_ ?_)
            all_goals first | trivial | exact endM_none
          | true =>
            have e : addP A B = knownL (addL A B) := by unfold addP; rw [hpa, hpb]; rfl
            rw [e] at hr hh
            obtain ⟨ia, rfl, hia, a0, a1⟩ := pok_row ha hpa
            obtain ⟨ib, rfl, hib, b0, b1⟩ := pok_row hb hpb
            obtain ⟨N1, hN1⟩ : ∃ N1 : Int, ((A.length : Nat) : Int) = N1 := ⟨_, rfl⟩
            by_cases hab : A.length < B.length
            · have e0 : decide (((A.length : Nat) : Int) < ((B.length : Nat) : Int)) = true := by simp only [decide_eq_true_eq]; omega
              have hab' : A.length ≤ B.length := by omega
              have hQp : rowQ B.length (some B) = some B := rowQ_of rfl b0 (by omega)
              have hlenP : ((B.length : Nat) : Int) = (B.length : Int) := rfl
              simp (config := { maxSteps := 4000000, implicitDefEqProofs := false }) only [F_addI_eq, WK0, WK1, WK2, WK3, WK4, WK5, WK6, WK7, WK8, WK9, WK10, WK11, WK12, WK13, WK14, WK15, WK16, WK17, WK18, WK19, WK20, WK21, WK22, WK23, WK24, WK25, WK26, WK27, WK28, look_hit, look_miss, List.map_cons, List.map_nil, Nat.add_zero, max_v, min_v, ↓cnd_t, ↓cnd_f, ↓grd_b, ↓grd_u, startEnv, Option.map_some, List.length_nil, List.length_cons, List.nil_append, List.cons_append, List.getElem?_cons_zero, List.getElem?_cons_succ, List.set_cons_zero, List.set_cons_succ, Bool.not_true, Bool.not_false, reduceIte, Nat.reduceEqDiff, Nat.reduceAdd, Nat.reduceLT, blt_lit, beq_lit, Bool.or_true, Bool.true_or, Bool.or_false, Bool.false_or, Bool.and_true, Bool.true_and, Bool.and_self, cond_true, cond_false, List.append_nil, Iv.eta, Option.map_none, idxO_l0, idxO_l1, decide_true, decide_false, reqs_true, Int.zero_sub, wrap_lit, wrapu_lit, Int.reduceLE, Int.reduceLT, Int.reduceAdd, Int.reduceSub, Int.reduceMul, Int.reduceNeg, Int.reduceEq, Option.bind_some, bin_shr_u64, bin_shl_u64, bin_shr_i64, bin_shl_i64, and_m32', Int.reduceToNat, Int.reducePow, Int.reduceMod, Int.reduceDiv, wrap_u64s, true_or, or_true, true_and, and_true, Option.isSome_none, Option.isSome_some, Nat.reduceLeDiff, Nat.reduceMul, Int.toNat_natCast, Int.cast_ofNat_Int, Int.natCast_zero, Int.natCast_one, List.isEmpty_nil, List.isEmpty_cons, List.replicate_zero, List.replicate_succ, T1, T2, T3, T4, T5, T6, T9, T10, T11, T12, T21, T22, T23, T24, T25, T26, T27, T28, T30, T31, T32, T33, T34, T35, T36, T37, T38, T39, T40, T41, T42, T44, T45, T46, T47, T48, T49, T50, T51, T52, T53, T55, T56, T57, T58, T59, T60, T61, T63, T64, T66, T67, T68, T69, T70, T71, T72, T73, T74, T75, T76, T77, T78, T79, T80, T81, T82, T83, T84, T86, T87, T88, T89, T91, T93, T94, T95, T98, T100, T106, T107, T108, T109, T110, T112, T113, M_pok_eq, ha, hb, boolO_some, hpa, hpb, e0, M_clone_eq, hib, ivsC_cells, hQp]
              repeat' (first | with_reducible refine cnd_split (fun hc => ?_) (fun hc => ?_) | with_reducible refine Reqs.mk ?_ ?_)
              all_goals first | trivial | skip
              obtain ⟨M, hMM⟩ : ∃ M : Int, ((A.length : Nat) : Int) = M := ⟨_, rfl⟩
              refine go_loop (α := Nat × List Iv) (fun s => A.length - s.1) (fun s e h => look e 6 = some (.v (.c (.row hp.length 0 B.length 2))) ∧ look e 26 = some (.v (.c (.row ia 0 A.length 2))) ∧ look e 27 = some (.v (.c (.p (.int .i64 M)))) ∧ look e 28 = some (.v (.c (.p (.int .i64 (s.1 : Int))))) ∧ s.1 ≤ A.length ∧ s.2.length = B.length ∧ s.2.take s.1 = (addL B A).take s.1 ∧ s.2.drop s.1 = B.drop s.1 ∧ h[hp.length]? = some (cellsI s.2) ∧ hp.length < h.length ∧ (∀ i, i < hp.length → h[i]? = hp[i]?)) (0, B) ⟨rfl, rfl, by rw [← hMM]; rfl, rfl, by omega, rfl, rfl, rfl, by simp, by simp, fun i hi => by rw [List.getElem?_append_left hi]⟩ ?_
              rintro X ⟨k, V⟩ e H ⟨l6, l26, l27, l28, hk, hV, ht, hd, hbox, hlen, hbx⟩ hX
              simp only at l28 hk hV ht hd hbox hX
              obtain ⟨K, hK⟩ : ∃ K : Int, (k : Int) = K := ⟨_, rfl⟩
              rw [hK] at l28
              have hKn : K.toNat = k := by omega
              by_cases hkl : k < A.length
              · have c0 : decide (K < M) = true := by simp only [decide_eq_true_eq]; omega
                obtain ⟨y, hy⟩ : ∃ y, A[k]? = some y := ⟨_, List.getElem?_eq_getElem hkl⟩
                obtain ⟨x, hx⟩ : ∃ x, B[k]? = some x := ⟨_, List.getElem?_eq_getElem (by omega)⟩
                obtain ⟨v1, v2, v3⟩ := add_step hV ht hd hx hy
                have hdx := loadC_at v1
                have hdy := loadC_at hy
                have i1 := fun h => @row_iad h hp.length B.length K (by omega) (by omega)
                have i2 := fun h => @row_iad h ia A.length K (by omega) (by omega)
                rw [hKn] at i1 i2
                have w1 : IntKind.i64.wrap (K + 1) = K + 1 := wrap_om (by omega) (by omega)
                have hQ' : H[ia]? = some (cellsI A) := by rw [hbx _ (get_lt hia), hia]
                have gQ := setB_get hQ'
                have gV := setB_get hbox
                have sV := setB_set hbox
                have st := fun h => @storeC_at h hp.length k V (addI x y).lo (addI x y).hi (by omega)
                obtain ⟨q1, q2, q3, q4⟩ := bq_i hlen
                obtain ⟨r1, r2, r3, r4⟩ := bq_i (Nat.lt_trans (get_lt hia) hlen)
                have cg : ∀ c : List PC, (H ++ [c])[H.length]? = some c := fun c => concat_get
                have cs : ∀ c d : List PC, (H ++ [c]).set H.length d = H ++ [d] := fun c d => concat_set
                simp (config := { maxSteps := 4000000, implicitDefEqProofs := false }) only [F_addI_eq, WK0, WK1, WK2, WK3, WK4, WK5, WK6, WK7, WK8, WK9, WK10, WK11, WK12, WK13, WK14, WK15, WK16, WK17, WK18, WK19, WK20, WK21, WK22, WK23, WK24, WK25, WK26, WK27, WK28, look_hit, look_miss, List.map_cons, List.map_nil, Nat.add_zero, max_v, min_v, ↓cnd_t, ↓cnd_f, ↓grd_b, ↓grd_u, startEnv, Option.map_some, List.length_nil, List.length_cons, List.nil_append, List.cons_append, List.getElem?_cons_zero, List.getElem?_cons_succ, List.set_cons_zero, List.set_cons_succ, Bool.not_true, Bool.not_false, reduceIte, Nat.reduceEqDiff, Nat.reduceAdd, Nat.reduceLT, blt_lit, beq_lit, Bool.or_true, Bool.true_or, Bool.or_false, Bool.false_or, Bool.and_true, Bool.true_and, Bool.and_self, cond_true, cond_false, List.append_nil, Iv.eta, Option.map_none, idxO_l0, idxO_l1, decide_true, decide_false, reqs_true, Int.zero_sub, wrap_lit, wrapu_lit, Int.reduceLE, Int.reduceLT, Int.reduceAdd, Int.reduceSub, Int.reduceMul, Int.reduceNeg, Int.reduceEq, Option.bind_some, bin_shr_u64, bin_shl_u64, bin_shr_i64, bin_shl_i64, and_m32', Int.reduceToNat, Int.reducePow, Int.reduceMod, Int.reduceDiv, wrap_u64s, true_or, or_true, true_and, and_true, Option.isSome_none, Option.isSome_some, Nat.reduceLeDiff, Nat.reduceMul, Int.toNat_natCast, Int.cast_ofNat_Int, Int.natCast_zero, Int.natCast_one, List.isEmpty_nil, List.isEmpty_cons, List.replicate_zero, List.replicate_succ, T1, T2, T3, T4, T5, T6, T9, T10, T11, T12, T21, T22, T23, T24, T25, T26, T27, T28, T30, T31, T32, T33, T34, T35, T36, T37, T38, T39, T40, T41, T42, T44, T45, T46, T47, T48, T49, T50, T51, T52, T53, T55, T56, T57, T58, T59, T60, T61, T63, T64, T66, T67, T68, T69, T70, T71, T72, T73, T74, T75, T76, T77, T78, T79, T80, T81, T82, T83, T84, T86, T87, T88, T89, T91, T93, T94, T95, T98, T100, T106, T107, T108, T109, T110, T112, T113, l6, l26, l27, l28, c0, i1, i2, hQ', gQ, gV, sV, st, hbox, hdx, hdy, cg, cs, q1, q2, q3, q4, r1, r2, r3, r4, w1, Iv.eta]
                refine hX (k + 1, V.set k (addI x y)) _ _ (by simp only; omega) ⟨?_, ?_, ?_, ?_, by simp only; omega, by simpa using hV, v2, v3, ?_, ?_, ?_⟩
                · simp [look, l6]
                · simp [look, l26]
                · simp [look, l27]
                · rw [← hK]; rfl
                · rw [List.getElem?_append_left (by simpa using hlen), List.getElem?_set_self hlen]
                · simp; omega
                · intro i hi
                  rw [List.getElem?_append_left (by simp; omega), List.getElem?_set_ne (by omega), hbx i hi]
              · have c0 : decide (K < M) = false := by simp only [decide_eq_false_iff_not]; omega
                have hVe := add_done (by omega) hab' hV ht hd
                rw [addL_comm] at hVe
                subst hVe
                have hro : rowOf H (.row hp.length 0 B.length 2) = some (addL A B) := by
                  rw [rowOf_row, hbox]
                  simp only [Option.bind_some, ivsC_cells]
                  exact rowQ_of hV.symm b0 (by omega)
                have htk := take_of (h := H) (hp := hp) (by omega) hbx
                have hRA : RowAt (hp.length - 1) H (.row hp.length 0 B.length 2) 2 B.length (cellsI (addL A B)) := .inr ⟨b0, by rw [cellsI_len, hV], hp.length, rfl, by have := get_lt hia; omega, hbox⟩
                unfold knownL at hr hh
                cases hall : (addL A B).all okI with
                | true =>
                  rw [if_pos hall] at hr hh
                  simp only [hV] at hr hh
                  subst hr hh
                  simp (config := { maxSteps := 4000000, implicitDefEqProofs := false }) only [F_addI_eq, WK0, WK1, WK2, WK3, WK4, WK5, WK6, WK7, WK8, WK9, WK10, WK11, WK12, WK13, WK14, WK15, WK16, WK17, WK18, WK19, WK20, WK21, WK22, WK23, WK24, WK25, WK26, WK27, WK28, look_hit, look_miss, List.map_cons, List.map_nil, Nat.add_zero, max_v, min_v, ↓cnd_t, ↓cnd_f, ↓grd_b, ↓grd_u, startEnv, Option.map_some, List.length_nil, List.length_cons, List.nil_append, List.cons_append, List.getElem?_cons_zero, List.getElem?_cons_succ, List.set_cons_zero, List.set_cons_succ, Bool.not_true, Bool.not_false, reduceIte, Nat.reduceEqDiff, Nat.reduceAdd, Nat.reduceLT, blt_lit, beq_lit, Bool.or_true, Bool.true_or, Bool.or_false, Bool.false_or, Bool.and_true, Bool.true_and, Bool.and_self, cond_true, cond_false, List.append_nil, Iv.eta, Option.map_none, idxO_l0, idxO_l1, decide_true, decide_false, reqs_true, Int.zero_sub, wrap_lit, wrapu_lit, Int.reduceLE, Int.reduceLT, Int.reduceAdd, Int.reduceSub, Int.reduceMul, Int.reduceNeg, Int.reduceEq, Option.bind_some, bin_shr_u64, bin_shl_u64, bin_shr_i64, bin_shl_i64, and_m32', Int.reduceToNat, Int.reducePow, Int.reduceMod, Int.reduceDiv, wrap_u64s, true_or, or_true, true_and, and_true, Option.isSome_none, Option.isSome_some, Nat.reduceLeDiff, Nat.reduceMul, Int.toNat_natCast, Int.cast_ofNat_Int, Int.natCast_zero, Int.natCast_one, List.isEmpty_nil, List.isEmpty_cons, List.replicate_zero, List.replicate_succ, T1, T2, T3, T4, T5, T6, T9, T10, T11, T12, T21, T22, T23, T24, T25, T26, T27, T28, T30, T31, T32, T33, T34, T35, T36, T37, T38, T39, T40, T41, T42, T44, T45, T46, T47, T48, T49, T50, T51, T52, T53, T55, T56, T57, T58, T59, T60, T61, T63, T64, T66, T67, T68, T69, T70, T71, T72, T73, T74, T75, T76, T77, T78, T79, T80, T81, T82, T83, T84, T86, T87, T88, T89, T91, T93, T94, T95, T98, T100, T106, T107, T108, T109, T110, T112, T113, l6, l26, l27, l28, c0, M_known_eq, hro, knO_some, hall]
                  repeat' (first | with_reducible refine cnd_split (fun hc => ?_) (fun hc => ?_) | with_reducible refine Reqs.mk ?_ ?_)
                  all_goals first | trivial | exact endM_rowT hRA (by have := get_lt hia; omega) (by omega) htk
                | false =>
                  rw [if_neg (by rw [hall]; decide)] at hr hh
                  subst hr hh
                  simp (config := { maxSteps := 4000000, implicitDefEqProofs := false }) only [F_addI_eq, WK0, WK1, WK2, WK3, WK4, WK5, WK6, WK7, WK8, WK9, WK10, WK11, WK12, WK13, WK14, WK15, WK16, WK17, WK18, WK19, WK20, WK21, WK22, WK23, WK24, WK25, WK26, WK27, WK28, look_hit, look_miss, List.map_cons, List.map_nil, Nat.add_zero, max_v, min_v, ↓cnd_t, ↓cnd_f, ↓grd_b, ↓grd_u, startEnv, Option.map_some, List.length_nil, List.length_cons, List.nil_append, List.cons_append, List.getElem?_cons_zero, List.getElem?_cons_succ, List.set_cons_zero, List.set_cons_succ, Bool.not_true, Bool.not_false, reduceIte, Nat.reduceEqDiff, Nat.reduceAdd, Nat.reduceLT, blt_lit, beq_lit, Bool.or_true, Bool.true_or, Bool.or_false, Bool.false_or, Bool.and_true, Bool.true_and, Bool.and_self, cond_true, cond_false, List.append_nil, Iv.eta, Option.map_none, idxO_l0, idxO_l1, decide_true, decide_false, reqs_true, Int.zero_sub, wrap_lit, wrapu_lit, Int.reduceLE, Int.reduceLT, Int.reduceAdd, Int.reduceSub, Int.reduceMul, Int.reduceNeg, Int.reduceEq, Option.bind_some, bin_shr_u64, bin_shl_u64, bin_shr_i64, bin_shl_i64, and_m32', Int.reduceToNat, Int.reducePow, Int.reduceMod, Int.reduceDiv, wrap_u64s, true_or, or_true, true_and, and_true, Option.isSome_none, Option.isSome_some, Nat.reduceLeDiff, Nat.reduceMul, Int.toNat_natCast, Int.cast_ofNat_Int, Int.natCast_zero, Int.natCast_one, List.isEmpty_nil, List.isEmpty_cons, List.replicate_zero, List.replicate_succ, T1, T2, T3, T4, T5, T6, T9, T10, T11, T12, T21, T22, T23, T24, T25, T26, T27, T28, T30, T31, T32, T33, T34, T35, T36, T37, T38, T39, T40, T41, T42, T44, T45, T46, T47, T48, T49, T50, T51, T52, T53, T55, T56, T57, T58, T59, T60, T61, T63, T64, T66, T67, T68, T69, T70, T71, T72, T73, T74, T75, T76, T77, T78, T79, T80, T81, T82, T83, T84, T86, T87, T88, T89, T91, T93, T94, T95, T98, T100, T106, T107, T108, T109, T110, T112, T113, l6, l26, l27, l28, c0, M_known_eq, hro, knO_some, hall]
                  repeat' (first | with_reducible refine cnd_split (fun hc => ?_) (fun hc => ?_) | with_reducible refine Reqs.mk ?_ ?_)
                  all_goals first | trivial | exact endM_rowT (L := hp.length) (sl := .p (.sl none 0 0)) (z := 2) (n := 0) (cs := []) (.inl ⟨rfl, rfl, rfl⟩) (by omega) (by omega) htk
            · have e0 : decide (((A.length : Nat) : Int) < ((B.length : Nat) : Int)) = false := by simp only [decide_eq_false_iff_not]; omega
              have hab' : B.length ≤ A.length := by omega
              have hQp : rowQ A.length (some A) = some A := rowQ_of rfl a0 (by omega)
              have hlenP : ((A.length : Nat) : Int) = (A.length : Int) := rfl
              simp (config := { maxSteps := 4000000, implicitDefEqProofs := false }) only [F_addI_eq, WK0, WK1, WK2, WK3, WK4, WK5, WK6, WK7, WK8, WK9, WK10, WK11, WK12, WK13, WK14, WK15, WK16, WK17, WK18, WK19, WK20, WK21, WK22, WK23, WK24, WK25, WK26, WK27, WK28, look_hit, look_miss, List.map_cons, List.map_nil, Nat.add_zero, max_v, min_v, ↓cnd_t, ↓cnd_f, ↓grd_b, ↓grd_u, startEnv, Option.map_some, List.length_nil, List.length_cons, List.nil_append, List.cons_append, List.getElem?_cons_zero, List.getElem?_cons_succ, List.set_cons_zero, List.set_cons_succ, Bool.not_true, Bool.not_false, reduceIte, Nat.reduceEqDiff, Nat.reduceAdd, Nat.reduceLT, blt_lit, beq_lit, Bool.or_true, Bool.true_or, Bool.or_false, Bool.false_or, Bool.and_true, Bool.true_and, Bool.and_self, cond_true, cond_false, List.append_nil, Iv.eta, Option.map_none, idxO_l0, idxO_l1, decide_true, decide_false, reqs_true, Int.zero_sub, wrap_lit, wrapu_lit, Int.reduceLE, Int.reduceLT, Int.reduceAdd, Int.reduceSub, Int.reduceMul, Int.reduceNeg, Int.reduceEq, Option.bind_some, bin_shr_u64, bin_shl_u64, bin_shr_i64, bin_shl_i64, and_m32', Int.reduceToNat, Int.reducePow, Int.reduceMod, Int.reduceDiv, wrap_u64s, true_or, or_true, true_and, and_true, Option.isSome_none, Option.isSome_some, Nat.reduceLeDiff, Nat.reduceMul, Int.toNat_natCast, Int.cast_ofNat_Int, Int.natCast_zero, Int.natCast_one, List.isEmpty_nil, List.isEmpty_cons, List.replicate_zero, List.replicate_succ, T1, T2, T3, T4, T5, T6, T9, T10, T11, T12, T21, T22, T23, T24, T25, T26, T27, T28, T30, T31, T32, T33, T34, T35, T36, T37, T38, T39, T40, T41, T42, T44, T45, T46, T47, T48, T49, T50, T51, T52, T53, T55, T56, T57, T58, T59, T60, T61, T63, T64, T66, T67, T68, T69, T70, T71, T72, T73, T74, T75, T76, T77, T78, T79, T80, T81, T82, T83, T84, T86, T87, T88, T89, T91, T93, T94, T95, T98, T100, T106, T107, T108, T109, T110, T112, T113, M_pok_eq, ha, hb, boolO_some, hpa, hpb, e0, M_clone_eq, hia, ivsC_cells, hQp]
              repeat' (first | with_reducible refine cnd_split (fun hc => ?_) (fun hc => ?_) | with_reducible refine Reqs.mk ?_ ?_)
              all_goals first | trivial | skip
              obtain ⟨M, hMM⟩ : ∃ M : Int, ((B.length : Nat) : Int) = M := ⟨_, rfl⟩
              refine go_loop (α := Nat × List Iv) (fun s => B.length - s.1) (fun s e h => look e 6 = some (.v (.c (.row hp.length 0 A.length 2))) ∧ look e 26 = some (.v (.c (.row ib 0 B.length 2))) ∧ look e 27 = some (.v (.c (.p (.int .i64 M)))) ∧ look e 28 = some (.v (.c (.p (.int .i64 (s.1 : Int))))) ∧ s.1 ≤ B.length ∧ s.2.length = A.length ∧ s.2.take s.1 = (addL A B).take s.1 ∧ s.2.drop s.1 = A.drop s.1 ∧ h[hp.length]? = some (cellsI s.2) ∧ hp.length < h.length ∧ (∀ i, i < hp.length → h[i]? = hp[i]?)) (0, A) ⟨rfl, rfl, by rw [← hMM]; rfl, rfl, by omega, rfl, rfl, rfl, by simp, by simp, fun i hi => by rw [List.getElem?_append_left hi]⟩ ?_
              rintro X ⟨k, V⟩ e H ⟨l6, l26, l27, l28, hk, hV, ht, hd, hbox, hlen, hbx⟩ hX
              simp only at l28 hk hV ht hd hbox hX
              obtain ⟨K, hK⟩ : ∃ K : Int, (k : Int) = K := ⟨_, rfl⟩
              rw [hK] at l28
              have hKn : K.toNat = k := by omega
              by_cases hkl : k < B.length
              · have c0 : decide (K < M) = true := by simp only [decide_eq_true_eq]; omega
                obtain ⟨y, hy⟩ : ∃ y, B[k]? = some y := ⟨_, List.getElem?_eq_getElem hkl⟩
                obtain ⟨x, hx⟩ : ∃ x, A[k]? = some x := ⟨_, List.getElem?_eq_getElem (by omega)⟩
                obtain ⟨v1, v2, v3⟩ := add_step hV ht hd hx hy
                have hdx := loadC_at v1
                have hdy := loadC_at hy
                have i1 := fun h => @row_iad h hp.length A.length K (by omega) (by omega)
                have i2 := fun h => @row_iad h ib B.length K (by omega) (by omega)
                rw [hKn] at i1 i2
                have w1 : IntKind.i64.wrap (K + 1) = K + 1 := wrap_om (by omega) (by omega)
                have hQ' : H[ib]? = some (cellsI B) := by rw [hbx _ (get_lt hib), hib]
                have gQ := setB_get hQ'
                have gV := setB_get hbox
                have sV := setB_set hbox
                have st := fun h => @storeC_at h hp.length k V (addI x y).lo (addI x y).hi (by omega)
                obtain ⟨q1, q2, q3, q4⟩ := bq_i hlen
                obtain ⟨r1, r2, r3, r4⟩ := bq_i (Nat.lt_trans (get_lt hib) hlen)
                have cg : ∀ c : List PC, (H ++ [c])[H.length]? = some c := fun c => concat_get
                have cs : ∀ c d : List PC, (H ++ [c]).set H.length d = H ++ [d] := fun c d => concat_set
                simp (config := { maxSteps := 4000000, implicitDefEqProofs := false }) only [F_addI_eq, WK0, WK1, WK2, WK3, WK4, WK5, WK6, WK7, WK8, WK9, WK10, WK11, WK12, WK13, WK14, WK15, WK16, WK17, WK18, WK19, WK20, WK21, WK22, WK23, WK24, WK25, WK26, WK27, WK28, look_hit, look_miss, List.map_cons, List.map_nil, Nat.add_zero, max_v, min_v, ↓cnd_t, ↓cnd_f, ↓grd_b, ↓grd_u, startEnv, Option.map_some, List.length_nil, List.length_cons, List.nil_append, List.cons_append, List.getElem?_cons_zero, List.getElem?_cons_succ, List.set_cons_zero, List.set_cons_succ, Bool.not_true, Bool.not_false, reduceIte, Nat.reduceEqDiff, Nat.reduceAdd, Nat.reduceLT, blt_lit, beq_lit, Bool.or_true, Bool.true_or, Bool.or_false, Bool.false_or, Bool.and_true, Bool.true_and, Bool.and_self, cond_true, cond_false, List.append_nil, Iv.eta, Option.map_none, idxO_l0, idxO_l1, decide_true, decide_false, reqs_true, Int.zero_sub, wrap_lit, wrapu_lit, Int.reduceLE, Int.reduceLT, Int.reduceAdd, Int.reduceSub, Int.reduceMul, Int.reduceNeg, Int.reduceEq, Option.bind_some, bin_shr_u64, bin_shl_u64, bin_shr_i64, bin_shl_i64, and_m32', Int.reduceToNat, Int.reducePow, Int.reduceMod, Int.reduceDiv, wrap_u64s, true_or, or_true, true_and, and_true, Option.isSome_none, Option.isSome_some, Nat.reduceLeDiff, Nat.reduceMul, Int.toNat_natCast, Int.cast_ofNat_Int, Int.natCast_zero, Int.natCast_one, List.isEmpty_nil, List.isEmpty_cons, List.replicate_zero, List.replicate_succ, T1, T2, T3, T4, T5, T6, T9, T10, T11, T12, T21, T22, T23, T24, T25, T26, T27, T28, T30, T31, T32, T33, T34, T35, T36, T37, T38, T39, T40, T41, T42, T44, T45, T46, T47, T48, T49, T50, T51, T52, T53, T55, T56, T57, T58, T59, T60, T61, T63, T64, T66, T67, T68, T69, T70, T71, T72, T73, T74, T75, T76, T77, T78, T79, T80, T81, T82, T83, T84, T86, T87, T88, T89, T91, T93, T94, T95, T98, T100, T106, T107, T108, T109, T110, T112, T113, l6, l26, l27, l28, c0, i1, i2, hQ', gQ, gV, sV, st, hbox, hdx, hdy, cg, cs, q1, q2, q3, q4, r1, r2, r3, r4, w1, Iv.eta]
                refine hX (k + 1, V.set k (addI x y)) _ _ (by simp only; omega) ⟨?_, ?_, ?_, ?_, by simp only; omega, by simpa using hV, v2, v3, ?_, ?_, ?_⟩
                · simp [look, l6]
                · simp [look, l26]
                · simp [look, l27]
                · rw [← hK]; rfl
                · rw [List.getElem?_append_left (by simpa using hlen), List.getElem?_set_self hlen]
                · simp; omega
                · intro i hi
                  rw [List.getElem?_append_left (by simp; omega), List.getElem?_set_ne (by omega), hbx i hi]
              · have c0 : decide (K < M) = false := by simp only [decide_eq_false_iff_not]; omega
                have hVe := add_done (by omega) hab' hV ht hd
                skip
                subst hVe
                have hro : rowOf H (.row hp.length 0 A.length 2) = some (addL A B) := by
                  rw [rowOf_row, hbox]
                  simp only [Option.bind_some, ivsC_cells]
                  exact rowQ_of hV.symm a0 (by omega)
                have htk := take_of (h := H) (hp := hp) (by omega) hbx
                have hRA : RowAt (hp.length - 1) H (.row hp.length 0 A.length 2) 2 A.length (cellsI (addL A B)) := .inr ⟨a0, by rw [cellsI_len, hV], hp.length, rfl, by have := get_lt hia; omega, hbox⟩
                unfold knownL at hr hh
                cases hall : (addL A B).all okI with
                | true =>
                  rw [if_pos hall] at hr hh
                  simp only [hV] at hr hh
                  subst hr hh
                  simp (config := { maxSteps := 4000000, implicitDefEqProofs := false }) only [F_addI_eq, WK0, WK1, WK2, WK3, WK4, WK5, WK6, WK7, WK8, WK9, WK10, WK11, WK12, WK13, WK14, WK15, WK16, WK17, WK18, WK19, WK20, WK21, WK22, WK23, WK24, WK25, WK26, WK27, WK28, look_hit, look_miss, List.map_cons, List.map_nil, Nat.add_zero, max_v, min_v, ↓cnd_t, ↓cnd_f, ↓grd_b, ↓grd_u, startEnv, Option.map_some, List.length_nil, List.length_cons, List.nil_append, List.cons_append, List.getElem?_cons_zero, List.getElem?_cons_succ, List.set_cons_zero, List.set_cons_succ, Bool.not_true, Bool.not_false, reduceIte, Nat.reduceEqDiff, Nat.reduceAdd, Nat.reduceLT, blt_lit, beq_lit, Bool.or_true, Bool.true_or, Bool.or_false, Bool.false_or, Bool.and_true, Bool.true_and, Bool.and_self, cond_true, cond_false, List.append_nil, Iv.eta, Option.map_none, idxO_l0, idxO_l1, decide_true, decide_false, reqs_true, Int.zero_sub, wrap_lit, wrapu_lit, Int.reduceLE, Int.reduceLT, Int.reduceAdd, Int.reduceSub, Int.reduceMul, Int.reduceNeg, Int.reduceEq, Option.bind_some, bin_shr_u64, bin_shl_u64, bin_shr_i64, bin_shl_i64, and_m32', Int.reduceToNat, Int.reducePow, Int.reduceMod, Int.reduceDiv, wrap_u64s, true_or, or_true, true_and, and_true, Option.isSome_none, Option.isSome_some, Nat.reduceLeDiff, Nat.reduceMul, Int.toNat_natCast, Int.cast_ofNat_Int, Int.natCast_zero, Int.natCast_one, List.isEmpty_nil, List.isEmpty_cons, List.replicate_zero, List.replicate_succ, T1, T2, T3, T4, T5, T6, T9, T10, T11, T12, T21, T22, T23, T24, T25, T26, T27, T28, T30, T31, T32, T33, T34, T35, T36, T37, T38, T39, T40, T41, T42, T44, T45, T46, T47, T48, T49, T50, T51, T52, T53, T55, T56, T57, T58, T59, T60, T61, T63, T64, T66, T67, T68, T69, T70, T71, T72, T73, T74, T75, T76, T77, T78, T79, T80, T81, T82, T83, T84, T86, T87, T88, T89, T91, T93, T94, T95, T98, T100, T106, T107, T108, T109, T110, T112, T113, l6, l26, l27, l28, c0, M_known_eq, hro, knO_some, hall]
                  repeat' (first | with_reducible refine cnd_split (fun hc => ?_) (fun hc => ?_) | with_reducible refine Reqs.mk ?_ ?_)
                  all_goals first | trivial | exact endM_rowT hRA (by have := get_lt hia; omega) (by omega) htk
                | false =>
                  rw [if_neg (by rw [hall]; decide)] at hr hh
                  subst hr hh
                  simp (config := { maxSteps := 4000000, implicitDefEqProofs := false }) only [F_addI_eq, WK0, WK1, WK2, WK3, WK4, WK5, WK6, WK7, WK8, WK9, WK10, WK11, WK12, WK13, WK14, WK15, WK16, WK17, WK18, WK19, WK20, WK21, WK22, WK23, WK24, WK25, WK26, WK27, WK28, look_hit, look_miss, List.map_cons, List.map_nil, Nat.add_zero, max_v, min_v, ↓cnd_t, ↓cnd_f, ↓grd_b, ↓grd_u, startEnv, Option.map_some, List.length_nil, List.length_cons, List.nil_append, List.cons_append, List.getElem?_cons_zero, List.getElem?_cons_succ, List.set_cons_zero, List.set_cons_succ, Bool.not_true, Bool.not_false, reduceIte, Nat.reduceEqDiff, Nat.reduceAdd, Nat.reduceLT, blt_lit, beq_lit, Bool.or_true, Bool.true_or, Bool.or_false, Bool.false_or, Bool.and_true, Bool.true_and, Bool.and_self, cond_true, cond_false, List.append_nil, Iv.eta, Option.map_none, idxO_l0, idxO_l1, decide_true, decide_false, reqs_true, Int.zero_sub, wrap_lit, wrapu_lit, Int.reduceLE, Int.reduceLT, Int.reduceAdd, Int.reduceSub, Int.reduceMul, Int.reduceNeg, Int.reduceEq, Option.bind_some, bin_shr_u64, bin_shl_u64, bin_shr_i64, bin_shl_i64, and_m32', Int.reduceToNat, Int.reducePow, Int.reduceMod, Int.reduceDiv, wrap_u64s, true_or, or_true, true_and, and_true, Option.isSome_none, Option.isSome_some, Nat.reduceLeDiff, Nat.reduceMul, Int.toNat_natCast, Int.cast_ofNat_Int, Int.natCast_zero, Int.natCast_one, List.isEmpty_nil, List.isEmpty_cons, List.replicate_zero, List.replicate_succ, T1, T2, T3, T4, T5, T6, T9, T10, T11, T12, T21, T22, T23, T24, T25, T26, T27, T28, T30, T31, T32, T33, T34, T35, T36, T37, T38, T39, T40, T41, T42, T44, T45, T46, T47, T48, T49, T50, T51, T52, T53, T55, T56, T57, T58, T59, T60, T61, T63, T64, T66, T67, T68, T69, T70, T71, T72, T73, T74, T75, T76, T77, T78, T79, T80, T81, T82, T83, T84, T86, T87, T88, T89, T91, T93, T94, T95, T98, T100, T106, T107, T108, T109, T110, T112, T113, l6, l26, l27, l28, c0, M_known_eq, hro, knO_some, hall]
                  repeat' (first | with_reducible refine cnd_split (fun hc => ?_) (fun hc => ?_) | with_reducible refine Reqs.mk ?_ ?_)
                  all_goals first | trivial | exact endM_rowT (L := hp.length) (sl := .p (.sl none 0 0)) (z := 2) (n := 0) (cs := []) (.inl ⟨rfl, rfl, rfl⟩) (by omega) (by omega) htk
  · cases hM

-- def derivative
def derM : List Iv → Int → List Iv
  | [], _ => []
  | v :: r, k => mulI (intI k) v :: derM r (k + 1)
theorem derM_len : ∀ (L : List Iv) (k : Int), (derM L k).length = L.length
  | [], k => rfl
  | v :: r, k => by simp [derM, derM_len r]
theorem derM_get : ∀ (L : List Iv) (k : Int) (j : Nat) (v : Iv), L[j]? = some v → (derM L k)[j]? = some (mulI (intI (k + j)) v)
  | [], k, j, v, h => by simp at h
  | u :: r, k, 0, v, h => by simp at h; subst h; simp [derM]
  | u :: r, k, j + 1, v, h => by
    have := derM_get r (k + 1) j v (by simpa using h)
    rw [derM, List.getElem?_cons_succ, this]
    have e : k + 1 + (j : Int) = k + ((j + 1 : Nat) : Int) := by omega
    rw [e]
def derL (L : List Iv) : List Iv := if L.length = 1 then [intI 0] else derM (L.drop 1) 1
def derP (L : List Iv) : List Iv × Int := if pok L then knownL (derL L) else ([], 1)
def derPO (h : Heap) : Option (List Iv) → Option (Prop × SV × Heap)
  | some L => polyR h (derP L)
  | none => none
theorem derPO_some {h : Heap} {L : List Iv} : derPO h (some L) = some (True, .tup [.c (rowR h.length 2 (derP L).1.length), .c (.p (.int .i64 (derP L).2))], rowH h (derP L).1.length (cellsI (derP L).1)) := rfl
def M_derP : MT := fun m args h => match args with
  | [.c sl] => derPO h (rowOf h sl)
  | _ => none
theorem M_derP_eq {m : Addr → Option PC} {h : Heap} {sl : Cl} : M_derP m [.c sl] h = derPO h (rowOf h sl) := rfl
theorem int0_ok : okI (intI 0) = true := by decide
theorem der1 {L : List Iv} (h : L.length = 1) : derM (L.drop 1) 1 = [] := by
  rw [List.drop_of_length_le (by omega)]; rfl

-- spec.PolyDerivative
theorem spec_PolyDerivative_derP_ok : Mn Try.prog 21 M_derP := by
  refine mn_of_go (O := orcM [⟨28, F_mulI, .inl spec_MulI_mulI_ok⟩, ⟨46, F_intI, .inl spec_Integer_intI_ok⟩] [⟨32, M_pok, true, fun _ => one_pok, spec_l09Ok_pok_ok⟩, ⟨37, M_l09End, false, no_one, spec_l09End_l09End_ok⟩]) mixed T_ok (orcM_sound _ _) Try.func21 (by kernel_rfl) rfl Try.ntmps21 (by kernel_rfl) Try.results21 ?_
  intro m args hp pre r h' hM hpre
  unfold M_derP at hM
  split at hM
  · rename_i sa
    cases ha : rowOf hp sa with
    | none => rw [ha] at hM; cases hM
    | some A =>
      rw [ha, derPO_some] at hM
      simp only [Option.some.injEq, Prod.mk.injEq] at hM
      obtain ⟨rfl, hr, hh⟩ := hM
      refine ⟨by simp, ?_⟩
      cases hpa : pok A with
      | false =>
        have e : derP A = ([], 1) := by unfold derP; rw [hpa]; rfl
        rw [e] at hr hh
        subst hr hh
        simp (config := { maxSteps := 4000000, implicitDefEqProofs := false }) only [F_intI_eq, F_mulI_eq, WK0, WK1, WK2, WK3, WK4, WK5, WK6, WK7, WK8, WK9, WK10, WK11, WK12, WK13, WK14, WK15, WK16, WK17, WK18, WK19, WK20, WK21, WK22, WK23, WK24, WK25, WK26, WK27, WK28, look_hit, look_miss, List.map_cons, List.map_nil, Nat.add_zero, max_v, min_v, ↓cnd_t, ↓cnd_f, ↓grd_b, ↓grd_u, startEnv, Option.map_some, List.length_nil, List.length_cons, List.nil_append, List.cons_append, List.getElem?_cons_zero, List.getElem?_cons_succ, List.set_cons_zero, List.set_cons_succ, Bool.not_true, Bool.not_false, reduceIte, Nat.reduceEqDiff, Nat.reduceAdd, Nat.reduceLT, blt_lit, beq_lit, Bool.or_true, Bool.true_or, Bool.or_false, Bool.false_or, Bool.and_true, Bool.true_and, Bool.and_self, cond_true, cond_false, List.append_nil, Iv.eta, Option.map_none, idxO_l0, idxO_l1, decide_true, decide_false, reqs_true, Int.zero_sub, wrap_lit, wrapu_lit, Int.reduceLE, Int.reduceLT, Int.reduceAdd, Int.reduceSub, Int.reduceMul, Int.reduceNeg, Int.reduceEq, Option.bind_some, bin_shr_u64, bin_shl_u64, bin_shr_i64, bin_shl_i64, and_m32', Int.reduceToNat, Int.reducePow, Int.reduceMod, Int.reduceDiv, wrap_u64s, true_or, or_true, true_and, and_true, Option.isSome_none, Option.isSome_some, Nat.reduceLeDiff, Nat.reduceMul, Int.toNat_natCast, Int.cast_ofNat_Int, Int.natCast_zero, Int.natCast_one, List.isEmpty_nil, List.isEmpty_cons, List.replicate_zero, List.replicate_succ, T1, T2, T3, T4, T5, T6, T9, T10, T11, T12, T21, T22, T23, T24, T25, T26, T27, T28, T30, T31, T32, T33, T34, T35, T36, T37, T38, T39, T40, T41, T42, T44, T45, T46, T47, T48, T49, T50, T51, T52, T53, T55, T56, T57, T58, T59, T60, T61, T63, T64, T66, T67, T68, T69, T70, T71, T72, T73, T74, T75, T76, T77, T78, T79, T80, T81, T82, T83, T84, T86, T87, T88, T89, T91, T93, T94, T95, T98, T100, T106, T107, T108, T109, T110, T112, T113, M_pok_eq, ha, boolO_some, hpa]
        repeat' (first | with_reducible refine cnd_split (fun hc => ?_) (fun hc => ?_) | with_reducible refine Reqs.mk ?_ ?_)
        all_goals first | trivial | exact endM_none
      | true =>
        have e : derP A = knownL (derL A) := by unfold derP; rw [hpa]; rfl
        rw [e] at hr hh
        obtain ⟨ia, rfl, hia, a0, a1⟩ := pok_row ha hpa
        obtain ⟨D, hD⟩ : ∃ D, derM (A.drop 1) 1 = D := ⟨_, rfl⟩
        have hDl : D.length = A.length - 1 := by rw [← hD, derM_len]; simp
        simp (config := { maxSteps := 4000000, implicitDefEqProofs := false }) only [F_intI_eq, F_mulI_eq, WK0, WK1, WK2, WK3, WK4, WK5, WK6, WK7, WK8, WK9, WK10, WK11, WK12, WK13, WK14, WK15, WK16, WK17, WK18, WK19, WK20, WK21, WK22, WK23, WK24, WK25, WK26, WK27, WK28, look_hit, look_miss, List.map_cons, List.map_nil, Nat.add_zero, max_v, min_v, ↓cnd_t, ↓cnd_f, ↓grd_b, ↓grd_u, startEnv, Option.map_some, List.length_nil, List.length_cons, List.nil_append, List.cons_append, List.getElem?_cons_zero, List.getElem?_cons_succ, List.set_cons_zero, List.set_cons_succ, Bool.not_true, Bool.not_false, reduceIte, Nat.reduceEqDiff, Nat.reduceAdd, Nat.reduceLT, blt_lit, beq_lit, Bool.or_true, Bool.true_or, Bool.or_false, Bool.false_or, Bool.and_true, Bool.true_and, Bool.and_self, cond_true, cond_false, List.append_nil, Iv.eta, Option.map_none, idxO_l0, idxO_l1, decide_true, decide_false, reqs_true, Int.zero_sub, wrap_lit, wrapu_lit, Int.reduceLE, Int.reduceLT, Int.reduceAdd, Int.reduceSub, Int.reduceMul, Int.reduceNeg, Int.reduceEq, Option.bind_some, bin_shr_u64, bin_shl_u64, bin_shr_i64, bin_shl_i64, and_m32', Int.reduceToNat, Int.reducePow, Int.reduceMod, Int.reduceDiv, wrap_u64s, true_or, or_true, true_and, and_true, Option.isSome_none, Option.isSome_some, Nat.reduceLeDiff, Nat.reduceMul, Int.toNat_natCast, Int.cast_ofNat_Int, Int.natCast_zero, Int.natCast_one, List.isEmpty_nil, List.isEmpty_cons, List.replicate_zero, List.replicate_succ, T1, T2, T3, T4, T5, T6, T9, T10, T11, T12, T21, T22, T23, T24, T25, T26, T27, T28, T30, T31, T32, T33, T34, T35, T36, T37, T38, T39, T40, T41, T42, T44, T45, T46, T47, T48, T49, T50, T51, T52, T53, T55, T56, T57, T58, T59, T60, T61, T63, T64, T66, T67, T68, T69, T70, T71, T72, T73, T74, T75, T76, T77, T78, T79, T80, T81, T82, T83, T84, T86, T87, T88, T89, T91, T93, T94, T95, T98, T100, T106, T107, T108, T109, T110, T112, T113, M_pok_eq, ha, boolO_some, hpa]
        repeat' (first | with_reducible refine cnd_split (fun hc => ?_) (fun hc => ?_) | with_reducible refine Reqs.mk ?_ ?_)
        all_goals first | trivial | skip
        obtain ⟨N, hN⟩ : ∃ N : Int, ((A.length : Nat) : Int) = N := ⟨_, rfl⟩
        refine go_loop (α := Nat) (fun s => D.length - s) (fun s e h => ∃ sl, look e 0 = some (.v (.c (.row ia 0 A.length 2))) ∧ look e 4 = some (.v (.c sl)) ∧ look e 5 = some (.v (.c (.p (.int .i64 ((s : Int) + 1))))) ∧ s ≤ D.length ∧ hp.length < h.length ∧ (∀ i, i < hp.length → h[i]? = hp[i]?) ∧ RowB hp.length h sl 2 s (cellsI (D.take s)) ∧ (s = 0 → ∃ i o, sl = .emp i o)) 0 ⟨_, rfl, rfl, rfl, by omega, by simp, fun i hi => by rw [List.getElem?_append_left hi], .inr ⟨rfl, rfl, _, _, rfl⟩, fun _ => ⟨_, _, rfl⟩⟩ ?_
        rintro X k e h ⟨sl, l0, l4, l5, hk, hlen, hbx, hR, hemp⟩ hX
        obtain ⟨K, hK⟩ : ∃ K : Int, (k : Int) + 1 = K := ⟨_, rfl⟩
        rw [hK] at l5
        have hA' : h[ia]? = some (cellsI A) := by rw [hbx _ (get_lt hia), hia]
        have gA := setB_get hA'
        have hKn : K.toNat = k + 1 := by omega
        have w1 : IntKind.i64.wrap (K + 1) = K + 1 := wrap_om (by omega) (by omega)
        by_cases hkl : k < D.length
        · have d1 : decide (K < N) = true := by simp only [decide_eq_true_eq]; omega
          obtain ⟨x, hx⟩ : ∃ x, A[k + 1]? = some x := ⟨_, List.getElem?_eq_getElem (by omega)⟩
          have hv : D[k]? = some (mulI (intI K) x) := by
            have := derM_get (A.drop 1) 1 k x (by rw [List.getElem?_drop, Nat.add_comm]; exact hx)
            rw [hD] at this
            rw [this, ← hK, Int.add_comm]
          obtain ⟨v, hvv⟩ : ∃ v, mulI (intI K) x = v := ⟨_, rfl⟩
          rw [hvv] at hv
          have hdx := loadC_at hx
          have i1 := fun h => @row_iad h ia A.length K (by omega) (by omega)
          rw [hKn] at i1
          obtain ⟨sl', h2, ha2, hR2, hk2, hl2⟩ := @app_stepB hp.length h sl 2 k (cellsI (D.take k)) [PC.int .i64 v.lo, PC.int .i64 v.hi] [PC.int .i64 0, PC.int .i64 0] m hR rfl rfl (by omega) (by omega) hlen
          have hcs : cellsI (D.take k) ++ [PC.int .i64 v.lo, PC.int .i64 v.hi] = cellsI (D.take (k + 1)) := by
            rw [List.take_add_one, hv, ← cellsI_snoc]; rfl
          rw [hcs] at hR2
          simp (config := { maxSteps := 4000000, implicitDefEqProofs := false }) only [F_intI_eq, F_mulI_eq, WK0, WK1, WK2, WK3, WK4, WK5, WK6, WK7, WK8, WK9, WK10, WK11, WK12, WK13, WK14, WK15, WK16, WK17, WK18, WK19, WK20, WK21, WK22, WK23, WK24, WK25, WK26, WK27, WK28, look_hit, look_miss, List.map_cons, List.map_nil, Nat.add_zero, max_v, min_v, ↓cnd_t, ↓cnd_f, ↓grd_b, ↓grd_u, startEnv, Option.map_some, List.length_nil, List.length_cons, List.nil_append, List.cons_append, List.getElem?_cons_zero, List.getElem?_cons_succ, List.set_cons_zero, List.set_cons_succ, Bool.not_true, Bool.not_false, reduceIte, Nat.reduceEqDiff, Nat.reduceAdd, Nat.reduceLT, blt_lit, beq_lit, Bool.or_true, Bool.true_or, Bool.or_false, Bool.false_or, Bool.and_true, Bool.true_and, Bool.and_self, cond_true, cond_false, List.append_nil, Iv.eta, Option.map_none, idxO_l0, idxO_l1, decide_true, decide_false, reqs_true, Int.zero_sub, wrap_lit, wrapu_lit, Int.reduceLE, Int.reduceLT, Int.reduceAdd, Int.reduceSub, Int.reduceMul, Int.reduceNeg, Int.reduceEq, Option.bind_some, bin_shr_u64, bin_shl_u64, bin_shr_i64, bin_shl_i64, and_m32', Int.reduceToNat, Int.reducePow, Int.reduceMod, Int.reduceDiv, wrap_u64s, true_or, or_true, true_and, and_true, Option.isSome_none, Option.isSome_some, Nat.reduceLeDiff, Nat.reduceMul, Int.toNat_natCast, Int.cast_ofNat_Int, Int.natCast_zero, Int.natCast_one, List.isEmpty_nil, List.isEmpty_cons, List.replicate_zero, List.replicate_succ, T1, T2, T3, T4, T5, T6, T9, T10, T11, T12, T21, T22, T23, T24, T25, T26, T27, T28, T30, T31, T32, T33, T34, T35, T36, T37, T38, T39, T40, T41, T42, T44, T45, T46, T47, T48, T49, T50, T51, T52, T53, T55, T56, T57, T58, T59, T60, T61, T63, T64, T66, T67, T68, T69, T70, T71, T72, T73, T74, T75, T76, T77, T78, T79, T80, T81, T82, T83, T84, T86, T87, T88, T89, T91, T93, T94, T95, T98, T100, T106, T107, T108, T109, T110, T112, T113, l0, l4, l5, hN, d1, i1, hA', gA, hdx, hvv, ha2, w1, sameLen_app, Iv.eta]
          repeat' (first | with_reducible refine cnd_split (fun hc => ?_) (fun hc => ?_) | with_reducible refine Reqs.mk ?_ ?_)
          all_goals first | trivial | skip
          refine hX (k + 1) _ h2 (by omega) ⟨sl', ?_, ?_, ?_, by omega, by omega, fun i hi => by rw [hk2 i (by omega), hbx i hi], .inl hR2, fun h => by omega⟩
          · simp [look, l0]
          · rfl
          · have : ((k + 1 : Nat) : Int) + 1 = K + 1 := by omega
            rw [this]; rfl
        · have d1 : decide (K < N) = false := by simp only [decide_eq_false_iff_not]; omega
          have hkk : k = D.length := by omega
          rw [List.take_of_length_le (by omega)] at hR
          have htk := take_of (h := h) (hp := hp) (by omega) hbx
          by_cases h1 : A.length = 1
          · have hk0 : k = 0 := by omega
            subst hk0
            obtain ⟨i', o', rfl⟩ := hemp rfl
            have hdl : derL A = [intI 0] := by unfold derL; rw [if_pos h1]
            have hkn : knownL [intI 0] = ([intI 0], 0) := by unfold knownL; simp [int0_ok]
            rw [hdl, hkn] at hr hh
            obtain ⟨v, hvv⟩ : ∃ v, intI 0 = v := ⟨_, rfl⟩
            have hok : okI v = true := by rw [← hvv]; exact int0_ok
            rw [hvv] at hr hh
            obtain ⟨sl', h2, ha2, hR2, hk2, hl2⟩ := @app_stepB hp.length h (.emp i' o') 2 0 [] [PC.int .i64 v.lo, PC.int .i64 v.hi] [PC.int .i64 0, PC.int .i64 0] m (.inr ⟨rfl, rfl, _, _, rfl⟩) rfl rfl (by omega) (by omega) hlen
            have hR3 : RowAt hp.length h2 sl' 2 1 (cellsI [v]) := hR2
            obtain ⟨i, rfl, hro⟩ := hR3.row (by omega) rfl (by omega)
            have htk2 := take_of (h := h2) (hp := hp) (by omega) (fun i hi => by rw [hk2 i (by omega), hbx i hi])
            have hall : ([v] : List Iv).all okI = true := by simp [hok]
            subst hr hh
            have e1 : rowH hp [v].length (cellsI [v]) = rowH hp 1 (cellsI [v]) := rfl
            simp (config := { maxSteps := 4000000, implicitDefEqProofs := false }) only [F_intI_eq, F_mulI_eq, WK0, WK1, WK2, WK3, WK4, WK5, WK6, WK7, WK8, WK9, WK10, WK11, WK12, WK13, WK14, WK15, WK16, WK17, WK18, WK19, WK20, WK21, WK22, WK23, WK24, WK25, WK26, WK27, WK28, look_hit, look_miss, List.map_cons, List.map_nil, Nat.add_zero, max_v, min_v, ↓cnd_t, ↓cnd_f, ↓grd_b, ↓grd_u, startEnv, Option.map_some, List.length_nil, List.length_cons, List.nil_append, List.cons_append, List.getElem?_cons_zero, List.getElem?_cons_succ, List.set_cons_zero, List.set_cons_succ, Bool.not_true, Bool.not_false, reduceIte, Nat.reduceEqDiff, Nat.reduceAdd, Nat.reduceLT, blt_lit, beq_lit, Bool.or_true, Bool.true_or, Bool.or_false, Bool.false_or, Bool.and_true, Bool.true_and, Bool.and_self, cond_true, cond_false, List.append_nil, Iv.eta, Option.map_none, idxO_l0, idxO_l1, decide_true, decide_false, reqs_true, Int.zero_sub, wrap_lit, wrapu_lit, Int.reduceLE, Int.reduceLT, Int.reduceAdd, Int.reduceSub, Int.reduceMul, Int.reduceNeg, Int.reduceEq, Option.bind_some, bin_shr_u64, bin_shl_u64, bin_shr_i64, bin_shl_i64, and_m32', Int.reduceToNat, Int.reducePow, Int.reduceMod, Int.reduceDiv, wrap_u64s, true_or, or_true, true_and, and_true, Option.isSome_none, Option.isSome_some, Nat.reduceLeDiff, Nat.reduceMul, Int.toNat_natCast, Int.cast_ofNat_Int, Int.natCast_zero, Int.natCast_one, List.isEmpty_nil, List.isEmpty_cons, List.replicate_zero, List.replicate_succ, T1, T2, T3, T4, T5, T6, T9, T10, T11, T12, T21, T22, T23, T24, T25, T26, T27, T28, T30, T31, T32, T33, T34, T35, T36, T37, T38, T39, T40, T41, T42, T44, T45, T46, T47, T48, T49, T50, T51, T52, T53, T55, T56, T57, T58, T59, T60, T61, T63, T64, T66, T67, T68, T69, T70, T71, T72, T73, T74, T75, T76, T77, T78, T79, T80, T81, T82, T83, T84, T86, T87, T88, T89, T91, T93, T94, T95, T98, T100, T106, T107, T108, T109, T110, T112, T113, l0, l4, l5, hN, d1, hvv, ha2, w1, sameLen_app, M_l09End_eq, hro, enO_some, hall, Iv.eta]
            repeat' (first | with_reducible refine cnd_split (fun hc => ?_) (fun hc => ?_) | with_reducible refine Reqs.mk ?_ ?_)
            all_goals first | trivial | exact ⟨by simp, by simp⟩ | exact endM_rowT hR3 (by omega) (by omega) htk2
          · have hRA : RowAt hp.length h sl 2 k (cellsI D) := by
              rcases hR with hR | ⟨h0, _⟩
              · exact hR
              · omega
            obtain ⟨i, rfl, hro⟩ := hRA.row (by omega) hkk.symm (by omega)
            have hdl : derL A = D := by unfold derL; rw [if_neg h1, hD]
            rw [hdl] at hr hh
            have d2 : decide ((k : Int) = 0) = false := by simp only [decide_eq_false_iff_not]; omega
            unfold knownL at hr hh
            cases hall : D.all okI with
            | true =>
              rw [if_pos hall] at hr hh
              simp only [← hkk] at hr hh
              subst hr hh
              simp (config := { maxSteps := 4000000, implicitDefEqProofs := false }) only [F_intI_eq, F_mulI_eq, WK0, WK1, WK2, WK3, WK4, WK5, WK6, WK7, WK8, WK9, WK10, WK11, WK12, WK13, WK14, WK15, WK16, WK17, WK18, WK19, WK20, WK21, WK22, WK23, WK24, WK25, WK26, WK27, WK28, look_hit, look_miss, List.map_cons, List.map_nil, Nat.add_zero, max_v, min_v, ↓cnd_t, ↓cnd_f, ↓grd_b, ↓grd_u, startEnv, Option.map_some, List.length_nil, List.length_cons, List.nil_append, List.cons_append, List.getElem?_cons_zero, List.getElem?_cons_succ, List.set_cons_zero, List.set_cons_succ, Bool.not_true, Bool.not_false, reduceIte, Nat.reduceEqDiff, Nat.reduceAdd, Nat.reduceLT, blt_lit, beq_lit, Bool.or_true, Bool.true_or, Bool.or_false, Bool.false_or, Bool.and_true, Bool.true_and, Bool.and_self, cond_true, cond_false, List.append_nil, Iv.eta, Option.map_none, idxO_l0, idxO_l1, decide_true, decide_false, reqs_true, Int.zero_sub, wrap_lit, wrapu_lit, Int.reduceLE, Int.reduceLT, Int.reduceAdd, Int.reduceSub, Int.reduceMul, Int.reduceNeg, Int.reduceEq, Option.bind_some, bin_shr_u64, bin_shl_u64, bin_shr_i64, bin_shl_i64, and_m32', Int.reduceToNat, Int.reducePow, Int.reduceMod, Int.reduceDiv, wrap_u64s, true_or, or_true, true_and, and_true, Option.isSome_none, Option.isSome_some, Nat.reduceLeDiff, Nat.reduceMul, Int.toNat_natCast, Int.cast_ofNat_Int, Int.natCast_zero, Int.natCast_one, List.isEmpty_nil, List.isEmpty_cons, List.replicate_zero, List.replicate_succ, T1, T2, T3, T4, T5, T6, T9, T10, T11, T12, T21, T22, T23, T24, T25, T26, T27, T28, T30, T31, T32, T33, T34, T35, T36, T37, T38, T39, T40, T41, T42, T44, T45, T46, T47, T48, T49, T50, T51, T52, T53, T55, T56, T57, T58, T59, T60, T61, T63, T64, T66, T67, T68, T69, T70, T71, T72, T73, T74, T75, T76, T77, T78, T79, T80, T81, T82, T83, T84, T86, T87, T88, T89, T91, T93, T94, T95, T98, T100, T106, T107, T108, T109, T110, T112, T113, l0, l4, l5, hN, d1, d2, M_l09End_eq, hro, enO_some, hall]
              repeat' (first | with_reducible refine cnd_split (fun hc => ?_) (fun hc => ?_) | with_reducible refine Reqs.mk ?_ ?_)
              all_goals first | exact ⟨by omega, by omega⟩ | exact endM_rowT hRA (by omega) (by omega) htk
            | false =>
              rw [if_neg (by rw [hall]; decide)] at hr hh
              subst hr hh
              simp (config := { maxSteps := 4000000, implicitDefEqProofs := false }) only [F_intI_eq, F_mulI_eq, WK0, WK1, WK2, WK3, WK4, WK5, WK6, WK7, WK8, WK9, WK10, WK11, WK12, WK13, WK14, WK15, WK16, WK17, WK18, WK19, WK20, WK21, WK22, WK23, WK24, WK25, WK26, WK27, WK28, look_hit, look_miss, List.map_cons, List.map_nil, Nat.add_zero, max_v, min_v, ↓cnd_t, ↓cnd_f, ↓grd_b, ↓grd_u, startEnv, Option.map_some, List.length_nil, List.length_cons, List.nil_append, List.cons_append, List.getElem?_cons_zero, List.getElem?_cons_succ, List.set_cons_zero, List.set_cons_succ, Bool.not_true, Bool.not_false, reduceIte, Nat.reduceEqDiff, Nat.reduceAdd, Nat.reduceLT, blt_lit, beq_lit, Bool.or_true, Bool.true_or, Bool.or_false, Bool.false_or, Bool.and_true, Bool.true_and, Bool.and_self, cond_true, cond_false, List.append_nil, Iv.eta, Option.map_none, idxO_l0, idxO_l1, decide_true, decide_false, reqs_true, Int.zero_sub, wrap_lit, wrapu_lit, Int.reduceLE, Int.reduceLT, Int.reduceAdd, Int.reduceSub, Int.reduceMul, Int.reduceNeg, Int.reduceEq, Option.bind_some, bin_shr_u64, bin_shl_u64, bin_shr_i64, bin_shl_i64, and_m32', Int.reduceToNat, Int.reducePow, Int.reduceMod, Int.reduceDiv, wrap_u64s, true_or, or_true, true_and, and_true, Option.isSome_none, Option.isSome_some, Nat.reduceLeDiff, Nat.reduceMul, Int.toNat_natCast, Int.cast_ofNat_Int, Int.natCast_zero, Int.natCast_one, List.isEmpty_nil, List.isEmpty_cons, List.replicate_zero, List.replicate_succ, T1, T2, T3, T4, T5, T6, T9, T10, T11, T12, T21, T22, T23, T24, T25, T26, T27, T28, T30, T31, T32, T33, T34, T35, T36, T37, T38, T39, T40, T41, T42, T44, T45, T46, T47, T48, T49, T50, T51, T52, T53, T55, T56, T57, T58, T59, T60, T61, T63, T64, T66, T67, T68, T69, T70, T71, T72, T73, T74, T75, T76, T77, T78, T79, T80, T81, T82, T83, T84, T86, T87, T88, T89, T91, T93, T94, T95, T98, T100, T106, T107, T108, T109, T110, T112, T113, l0, l4, l5, hN, d1, d2, M_l09End_eq, hro, enO_some, hall]
              repeat' (first | with_reducible refine cnd_split (fun hc => ?_) (fun hc => ?_) | with_reducible refine Reqs.mk ?_ ?_)
              all_goals first | exact ⟨by omega, by omega⟩ | exact endM_rowT (L := hp.length) (sl := .p (.sl none 0 0)) (z := 2) (n := 0) (cs := []) (.inl ⟨rfl, rfl, rfl⟩) (by omega) (by omega) htk
  · cases hM

end Go.Proofs.Ytcnapkdccjibpaa.Eng
