/- What functions of the program compute, and that the program computes it: part 31. -/
import Derived.Test.YtcnapkdccjibpaaTab
import Derived.Test.YtcnapkdccjibpaaEng16
import Derived.Laws.BitsLemmas
import Derived.Laws.Bits64
import Derived.Laws.Bits64b
import Derived.Lib.Mul64
import Derived.Lib.BitFns
import Derived.Laws.Externs
import Derived.Test.YtcnapkdccjibpaaL1
import Derived.Test.YtcnapkdccjibpaaL2
import Derived.Test.YtcnapkdccjibpaaL3
import Derived.Test.YtcnapkdccjibpaaL5
import Derived.Test.YtcnapkdccjibpaaL19
import Derived.Test.YtcnapkdccjibpaaL23
import Derived.Test.YtcnapkdccjibpaaL24
import Derived.Test.YtcnapkdccjibpaaL26
import Derived.Test.YtcnapkdccjibpaaL28
import Derived.Test.YtcnapkdccjibpaaL29
import Derived.Test.YtcnapkdccjibpaaL30
namespace Go.Proofs.Ytcnapkdccjibpaa.Eng
open Go Go.RowKit
set_option linter.unusedVariables false
set_option linter.unusedSimpArgs false
set_option maxRecDepth 100000
set_option maxHeartbeats 1000000
-- impl.PolyDerivative
theorem RowAt.app {L : Nat} {h : Heap} {sl : Cl} {z n : Nat} {cs : List PC} (hR : RowAt L h sl z n cs) (l : Heap) : RowAt L (h ++ l) sl z n cs := by
  rcases hR with h1 | ⟨h1, h2, i, h3, h4, h5⟩
  · exact .inl h1
  · exact .inr ⟨h1, h2, i, h3, h4, setB_get h5 l⟩
theorem row_iad2 {h : Heap} {i : Nat} {N : Nat} {J : Int} (h0 : 0 ≤ J) (h1 : J < N) : iadO h (some (tdRow [PC.int .i64 0, PC.int .i64 0])) (some (.c (.row i 2 N 2))) (some (.int .i64 J)) = some (some (.v (.c (.ptr (.own i ((J.toNat + 1) * 2))))), h) := by
  rw [iadO_row rfl (by simp only [Bool.and_eq_true, decide_eq_true_eq]; omega)]
  have : 2 + J.toNat * 2 = (J.toNat + 1) * 2 := by omega
  rw [this]
theorem slc_1 {h : Heap} {i n : Nat} {L : List Iv} (hi : h[i]? = some (cellsI L)) (hn : n = L.length) (h1 : 1 < n) : slcO h (some (tdRow [PC.int .i64 0, PC.int .i64 0])) (some (.c (.row i 0 n 2))) (some (some 1)) (some none) (some none) = some (some (.v (.c (.row i 2 (n - 1) 2))), h) := by
  subst hn
  have hl := cellsI_len L
  have hne : cellsI L ≠ [] := by intro e; rw [e] at hl; simp at hl; omega
  have hz : (tdRow [PC.int IntKind.i64 0, PC.int IntKind.i64 0]).ez1.length = 2 := rfl
  have hs : sliceF (tdRow [PC.int .i64 0, PC.int .i64 0]) h (.c (.row i 0 L.length 2)) 1 none none = some (.c (.row i 2 (L.length - 1) 2)) := by
    simp only [sliceF, hi, hz, row_row]
    rw [if_pos ⟨trivial, trivial, by omega, by omega, hne⟩, if_pos (by omega)]
    rfl
  simp only [slcO, Option.getD_some, hs]
theorem impl_PolyDerivative_derP_ok : Mn Try.prog 22 M_derP := by
  refine mn_of_go (O := orcM [⟨45, F_mulI, .inl impl_MulI_mulI_ok⟩, ⟨47, F_intI, .inl impl_Integer_intI_ok⟩] [⟨11, M_pok, true, fun _ => one_pok, impl_ValidPoly_pok_ok⟩, ⟨40, M_known, false, no_one, impl_known_known_ok⟩]) mixed T_ok (orcM_sound _ _) Try.func22 (by kernel_rfl) rfl Try.ntmps22 (by kernel_rfl) Try.results22 ?_
  intro m args hp pre r h' hM hpre
  unfold M_derP at hM
  split at hM
  · rename_i sa
    cases ha : rowOf hp sa with
    | none => rw [ha] at hM; cases hM
    | some A =>
      rw [ha, derPO_some] at hM
      simp only [Option.some.injEq, Prod.mk.injEq] at hM
      obtain ⟨rfl, hr, hh⟩ := hM
      refine ⟨by simp, ?_⟩
      cases hpa : pok A with
      | false =>
        have e : derP A = ([], 1) := by unfold derP; rw [hpa]; rfl
        rw [e] at hr hh
        subst hr hh
        simp (config := { maxSteps := 4000000, implicitDefEqProofs := false }) only [F_intI_eq, F_mulI_eq, WK0, WK1, WK2, WK3, WK4, WK5, WK6, WK7, WK8, WK9, WK10, WK11, WK12, WK13, WK14, WK15, WK16, WK17, WK18, WK19, WK20, WK21, WK22, WK23, WK24, WK25, WK26, WK27, WK28, look_hit, look_miss, List.map_cons, List.map_nil, Nat.add_zero, max_v, min_v, ↓cnd_t, ↓cnd_f, ↓grd_b, ↓grd_u, startEnv, Option.map_some, List.length_nil, List.length_cons, List.nil_append, List.cons_append, List.getElem?_cons_zero, List.getElem?_cons_succ, List.set_cons_zero, List.set_cons_succ, Bool.not_true, Bool.not_false, reduceIte, Nat.reduceEqDiff, Nat.reduceAdd, Nat.reduceLT, blt_lit, beq_lit, Bool.or_true, Bool.true_or, Bool.or_false, Bool.false_or, Bool.and_true, Bool.true_and, Bool.and_self, cond_true, cond_false, List.append_nil, Iv.eta, Option.map_none, idxO_l0, idxO_l1, decide_true, decide_false, reqs_true, Int.zero_sub, wrap_lit, wrapu_lit, Int.reduceLE, Int.reduceLT, Int.reduceAdd, Int.reduceSub, Int.reduceMul, Int.reduceNeg, Int.reduceEq, Option.bind_some, bin_shr_u64, bin_shl_u64, bin_shr_i64, bin_shl_i64, and_m32', Int.reduceToNat, Int.reducePow, Int.reduceMod, Int.reduceDiv, wrap_u64s, true_or, or_true, true_and, and_true, Option.isSome_none, Option.isSome_some, Nat.reduceLeDiff, Nat.reduceMul, Int.toNat_natCast, Int.cast_ofNat_Int, Int.natCast_zero, Int.natCast_one, List.isEmpty_nil, List.isEmpty_cons, List.replicate_zero, List.replicate_succ, T1, T2, T3, T4, T5, T6, T9, T10, T11, T12, T21, T22, T23, T24, T25, T26, T27, T28, T30, T31, T32, T33, T34, T35, T36, T37, T38, T39, T40, T41, T42, T44, T45, T46, T47, T48, T49, T50, T51, T52, T53, T55, T56, T57, T58, T59, T60, T61, T63, T64, T66, T67, T68, T69, T70, T71, T72, T73, T74, T75, T76, T77, T78, T79, T80, T81, T82, T83, T84, T86, T87, T88, T89, T91, T93, T94, T95, T98, T100, T106, T107, T108, T109, T110, T112, T113, M_pok_eq, ha, boolO_some, hpa]
        repeat' (first | with_reducible refine cnd_split (fun hc => ?_) (fun hc => ?_) | with_reducible refine Reqs.mk ?_ ?_)
        all_goals first | trivial | exact endM_none
      | true =>
        have e : derP A = knownL (derL A) := by unfold derP; rw [hpa]; rfl
        rw [e] at hr hh
        obtain ⟨ia, rfl, hia, a0, a1⟩ := pok_row ha hpa
        have hlt := get_lt hia
        obtain ⟨N, hN⟩ : ∃ N : Int, ((A.length : Nat) : Int) = N := ⟨_, rfl⟩
        by_cases h1 : A.length = 1
        · have e1 : decide (N = 1) = true := by simp only [decide_eq_true_eq]; omega
          have hdl : derL A = [intI 0] := by unfold derL; rw [if_pos h1]
          have hkn : knownL [intI 0] = ([intI 0], 0) := by unfold knownL; simp [int0_ok]
          rw [hdl, hkn] at hr hh
          obtain ⟨v, hvv⟩ : ∃ v, intI 0 = v := ⟨_, rfl⟩
          rw [hvv] at hr hh
          have hR : RowAt (hp.length - 1) (hp ++ [[PC.int .i64 v.lo, PC.int .i64 v.hi]]) (.row hp.length 0 1 2) 2 1 (cellsI [v]) := .inr ⟨by omega, rfl, hp.length, rfl, by omega, bx_get0⟩
          have htk : (hp ++ [[PC.int IntKind.i64 v.lo, PC.int IntKind.i64 v.hi]]).take hp.length = hp := by simp
          subst hr hh
          simp (config := { maxSteps := 4000000, implicitDefEqProofs := false }) only [F_intI_eq, F_mulI_eq, WK0, WK1, WK2, WK3, WK4, WK5, WK6, WK7, WK8, WK9, WK10, WK11, WK12, WK13, WK14, WK15, WK16, WK17, WK18, WK19, WK20, WK21, WK22, WK23, WK24, WK25, WK26, WK27, WK28, look_hit, look_miss, List.map_cons, List.map_nil, Nat.add_zero, max_v, min_v, ↓cnd_t, ↓cnd_f, ↓grd_b, ↓grd_u, startEnv, Option.map_some, List.length_nil, List.length_cons, List.nil_append, List.cons_append, List.getElem?_cons_zero, List.getElem?_cons_succ, List.set_cons_zero, List.set_cons_succ, Bool.not_true, Bool.not_false, reduceIte, Nat.reduceEqDiff, Nat.reduceAdd, Nat.reduceLT, blt_lit, beq_lit, Bool.or_true, Bool.true_or, Bool.or_false, Bool.false_or, Bool.and_true, Bool.true_and, Bool.and_self, cond_true, cond_false, List.append_nil, Iv.eta, Option.map_none, idxO_l0, idxO_l1, decide_true, decide_false, reqs_true, Int.zero_sub, wrap_lit, wrapu_lit, Int.reduceLE, Int.reduceLT, Int.reduceAdd, Int.reduceSub, Int.reduceMul, Int.reduceNeg, Int.reduceEq, Option.bind_some, bin_shr_u64, bin_shl_u64, bin_shr_i64, bin_shl_i64, and_m32', Int.reduceToNat, Int.reducePow, Int.reduceMod, Int.reduceDiv, wrap_u64s, true_or, or_true, true_and, and_true, Option.isSome_none, Option.isSome_some, Nat.reduceLeDiff, Nat.reduceMul, Int.toNat_natCast, Int.cast_ofNat_Int, Int.natCast_zero, Int.natCast_one, List.isEmpty_nil, List.isEmpty_cons, List.replicate_zero, List.replicate_succ, T1, T2, T3, T4, T5, T6, T9, T10, T11, T12, T21, T22, T23, T24, T25, T26, T27, T28, T30, T31, T32, T33, T34, T35, T36, T37, T38, T39, T40, T41, T42, T44, T45, T46, T47, T48, T49, T50, T51, T52, T53, T55, T56, T57, T58, T59, T60, T61, T63, T64, T66, T67, T68, T69, T70, T71, T72, T73, T74, T75, T76, T77, T78, T79, T80, T81, T82, T83, T84, T86, T87, T88, T89, T91, T93, T94, T95, T98, T100, T106, T107, T108, T109, T110, T112, T113, M_pok_eq, ha, boolO_some, hpa, hN, e1, hvv]
          repeat' (first | with_reducible refine cnd_split (fun hc => ?_) (fun hc => ?_) | with_reducible refine Reqs.mk ?_ ?_)
          all_goals first | trivial | exact endM_rowT hR (by omega) (by simp) htk
        · have e1 : decide (N = 1) = false := by simp only [decide_eq_false_iff_not]; omega
          obtain ⟨D, hD⟩ : ∃ D, derM (A.drop 1) 1 = D := ⟨_, rfl⟩
          have hDl : D.length = A.length - 1 := by rw [← hD, derM_len]; simp
          have hdl : derL A = D := by unfold derL; rw [if_neg h1, hD]
          rw [hdl] at hr hh
          have hsl := @slc_1 hp ia A.length A hia rfl (by omega)
          obtain ⟨M, hMM⟩ : ∃ M : Int, ((A.length - 1 : Nat) : Int) = M := ⟨_, rfl⟩
          simp (config := { maxSteps := 4000000, implicitDefEqProofs := false }) only [F_intI_eq, F_mulI_eq, WK0, WK1, WK2, WK3, WK4, WK5, WK6, WK7, WK8, WK9, WK10, WK11, WK12, WK13, WK14, WK15, WK16, WK17, WK18, WK19, WK20, WK21, WK22, WK23, WK24, WK25, WK26, WK27, WK28, look_hit, look_miss, List.map_cons, List.map_nil, Nat.add_zero, max_v, min_v, ↓cnd_t, ↓cnd_f, ↓grd_b, ↓grd_u, startEnv, Option.map_some, List.length_nil, List.length_cons, List.nil_append, List.cons_append, List.getElem?_cons_zero, List.getElem?_cons_succ, List.set_cons_zero, List.set_cons_succ, Bool.not_true, Bool.not_false, reduceIte, Nat.reduceEqDiff, Nat.reduceAdd, Nat.reduceLT, blt_lit, beq_lit, Bool.or_true, Bool.true_or, Bool.or_false, Bool.false_or, Bool.and_true, Bool.true_and, Bool.and_self, cond_true, cond_false, List.append_nil, Iv.eta, Option.map_none, idxO_l0, idxO_l1, decide_true, decide_false, reqs_true, Int.zero_sub, wrap_lit, wrapu_lit, Int.reduceLE, Int.reduceLT, Int.reduceAdd, Int.reduceSub, Int.reduceMul, Int.reduceNeg, Int.reduceEq, Option.bind_some, bin_shr_u64, bin_shl_u64, bin_shr_i64, bin_shl_i64, and_m32', Int.reduceToNat, Int.reducePow, Int.reduceMod, Int.reduceDiv, wrap_u64s, true_or, or_true, true_and, and_true, Option.isSome_none, Option.isSome_some, Nat.reduceLeDiff, Nat.reduceMul, Int.toNat_natCast, Int.cast_ofNat_Int, Int.natCast_zero, Int.natCast_one, List.isEmpty_nil, List.isEmpty_cons, List.replicate_zero, List.replicate_succ, T1, T2, T3, T4, T5, T6, T9, T10, T11, T12, T21, T22, T23, T24, T25, T26, T27, T28, T30, T31, T32, T33, T34, T35, T36, T37, T38, T39, T40, T41, T42, T44, T45, T46, T47, T48, T49, T50, T51, T52, T53, T55, T56, T57, T58, T59, T60, T61, T63, T64, T66, T67, T68, T69, T70, T71, T72, T73, T74, T75, T76, T77, T78, T79, T80, T81, T82, T83, T84, T86, T87, T88, T89, T91, T93, T94, T95, T98, T100, T106, T107, T108, T109, T110, T112, T113, M_pok_eq, ha, boolO_some, hpa, hN, e1, hsl, hMM]
          repeat' (first | with_reducible refine cnd_split (fun hc => ?_) (fun hc => ?_) | with_reducible refine Reqs.mk ?_ ?_)
          all_goals first | trivial | skip
          refine go_loop (α := Nat) (fun s => D.length - s) (fun s e h => ∃ sl, look e 16 = some (.v (.c (.row ia 2 (A.length - 1) 2))) ∧ look e 17 = some (.v (.c (.p (.int .i64 M)))) ∧ look e 18 = some (.v (.c (.p (.int .i64 (s : Int))))) ∧ look e 4 = some (.v (.c sl)) ∧ s ≤ D.length ∧ hp.length ≤ h.length ∧ (∀ i, i < hp.length → h[i]? = hp[i]?) ∧ RowAt (hp.length - 1) h sl 2 s (cellsI (D.take s))) 0 ⟨_, rfl, rfl, rfl, rfl, by omega, Nat.le_refl _, fun i hi => rfl, .inl ⟨rfl, rfl, rfl⟩⟩ ?_
          rintro X k e H ⟨sl, l16, l17, l18, l4, hk, hlen, hbx, hR⟩ hX
          obtain ⟨K, hK⟩ : ∃ K : Int, (k : Int) = K := ⟨_, rfl⟩
          rw [hK] at l18
          have hA' : H[ia]? = some (cellsI A) := by rw [hbx _ hlt, hia]
          have gA := setB_get hA'
          have hKn : K.toNat = k := by omega
          have w1 : IntKind.i64.wrap (K + 1) = K + 1 := wrap_om (by omega) (by omega)
          by_cases hkl : k < D.length
          · have d1 : decide (K < M) = true := by simp only [decide_eq_true_eq]; omega
            obtain ⟨x, hx⟩ : ∃ x, A[k + 1]? = some x := ⟨_, List.getElem?_eq_getElem (by omega)⟩
            have hv : D[k]? = some (mulI (intI (K + 1)) x) := by
              have := derM_get (A.drop 1) 1 k x (by rw [List.getElem?_drop, Nat.add_comm]; exact hx)
              rw [hD] at this
              rw [this, ← hK, Int.add_comm]
            obtain ⟨v, hvv⟩ : ∃ v, mulI (intI (K + 1)) x = v := ⟨_, rfl⟩
            rw [hvv] at hv
            have hdx := loadC_at hx
            have i1 := fun h => @row_iad2 h ia (A.length - 1) K (by omega) (by omega)
            rw [hKn] at i1
            have cg : ∀ c : List PC, (H ++ [c])[H.length]? = some c := fun c => concat_get
            have cs : ∀ c d : List PC, (H ++ [c]).set H.length d = H ++ [d] := fun c d => concat_set
            obtain ⟨q1, q2, q3, q4⟩ := bq_i (show ia < H.length by omega)
            obtain ⟨sl', h2, ha2, hR2, hk2, hl2⟩ := @app_step (hp.length - 1) (H ++ [[PC.int .i64 x.lo, PC.int .i64 x.hi]]) sl 2 k (cellsI (D.take k)) [PC.int .i64 v.lo, PC.int .i64 v.hi] [PC.int .i64 0, PC.int .i64 0] m (hR.app _) rfl rfl (by omega) (by omega) (by simp; omega)
            have hcs : cellsI (D.take k) ++ [PC.int .i64 v.lo, PC.int .i64 v.hi] = cellsI (D.take (k + 1)) := by
              rw [List.take_add_one, hv, ← cellsI_snoc]; rfl
            rw [hcs] at hR2
            obtain ⟨H2, hH2⟩ : ∃ H2, H ++ [[PC.int .i64 x.lo, PC.int .i64 x.hi]] = H2 := ⟨_, rfl⟩
            have cg2 : H2[H.length]? = some [PC.int .i64 x.lo, PC.int .i64 x.hi] := by rw [← hH2]; exact concat_get
            have gg2 := setB_get cg2
            rw [hH2] at ha2 hk2 hl2
            simp (config := { maxSteps := 4000000, implicitDefEqProofs := false }) only [F_intI_eq, F_mulI_eq, WK0, WK1, WK2, WK3, WK4, WK5, WK6, WK7, WK8, WK9, WK10, WK11, WK12, WK13, WK14, WK15, WK16, WK17, WK18, WK19, WK20, WK21, WK22, WK23, WK24, WK25, WK26, WK27, WK28, look_hit, look_miss, List.map_cons, List.map_nil, Nat.add_zero, max_v, min_v, ↓cnd_t, ↓cnd_f, ↓grd_b, ↓grd_u, startEnv, Option.map_some, List.length_nil, List.length_cons, List.nil_append, List.cons_append, List.getElem?_cons_zero, List.getElem?_cons_succ, List.set_cons_zero, List.set_cons_succ, Bool.not_true, Bool.not_false, reduceIte, Nat.reduceEqDiff, Nat.reduceAdd, Nat.reduceLT, blt_lit, beq_lit, Bool.or_true, Bool.true_or, Bool.or_false, Bool.false_or, Bool.and_true, Bool.true_and, Bool.and_self, cond_true, cond_false, List.append_nil, Iv.eta, Option.map_none, idxO_l0, idxO_l1, decide_true, decide_false, reqs_true, Int.zero_sub, wrap_lit, wrapu_lit, Int.reduceLE, Int.reduceLT, Int.reduceAdd, Int.reduceSub, Int.reduceMul, Int.reduceNeg, Int.reduceEq, Option.bind_some, bin_shr_u64, bin_shl_u64, bin_shr_i64, bin_shl_i64, and_m32', Int.reduceToNat, Int.reducePow, Int.reduceMod, Int.reduceDiv, wrap_u64s, true_or, or_true, true_and, and_true, Option.isSome_none, Option.isSome_some, Nat.reduceLeDiff, Nat.reduceMul, Int.toNat_natCast, Int.cast_ofNat_Int, Int.natCast_zero, Int.natCast_one, List.isEmpty_nil, List.isEmpty_cons, List.replicate_zero, List.replicate_succ, T1, T2, T3, T4, T5, T6, T9, T10, T11, T12, T21, T22, T23, T24, T25, T26, T27, T28, T30, T31, T32, T33, T34, T35, T36, T37, T38, T39, T40, T41, T42, T44, T45, T46, T47, T48, T49, T50, T51, T52, T53, T55, T56, T57, T58, T59, T60, T61, T63, T64, T66, T67, T68, T69, T70, T71, T72, T73, T74, T75, T76, T77, T78, T79, T80, T81, T82, T83, T84, T86, T87, T88, T89, T91, T93, T94, T95, T98, T100, T106, T107, T108, T109, T110, T112, T113, l16, l17, l18, l4, d1, i1, hA', gA, hdx, cg, cs, hH2, cg2, gg2, q1, q2, q3, q4, hvv, ha2, w1, sameLen_app, Iv.eta]
            repeat' (first | with_reducible refine cnd_split (fun hc => ?_) (fun hc => ?_) | with_reducible refine Reqs.mk ?_ ?_)
            all_goals first | trivial | skip
            refine hX (k + 1) _ h2 (by omega) ⟨sl', ?_, ?_, ?_, ?_, by omega, ?_, fun i hi => ?_, hR2⟩
            · simp [look, l16]
            · simp [look, l17]
            · rw [← hK]; rfl
            · rfl
            · rw [← hH2] at hl2
              simp at hl2
              omega
            · rw [hk2 i (by omega), ← hH2, List.getElem?_append_left (by omega), hbx i hi]
          · have d1 : decide (K < M) = false := by simp only [decide_eq_false_iff_not]; omega
            have hkk : k = D.length := by omega
            rw [List.take_of_length_le (by omega)] at hR
            have htk := take_of (h := H) (hp := hp) (by omega) hbx
            obtain ⟨i, rfl, hro⟩ := hR.row (by omega) hkk.symm (by omega)
            unfold knownL at hr hh
            cases hall : D.all okI with
            | true =>
              rw [if_pos hall] at hr hh
              simp only [← hkk] at hr hh
              subst hr hh
              simp (config := { maxSteps := 4000000, implicitDefEqProofs := false }) only [F_intI_eq, F_mulI_eq, WK0, WK1, WK2, WK3, WK4, WK5, WK6, WK7, WK8, WK9, WK10, WK11, WK12, WK13, WK14, WK15, WK16, WK17, WK18, WK19, WK20, WK21, WK22, WK23, WK24, WK25, WK26, WK27, WK28, look_hit, look_miss, List.map_cons, List.map_nil, Nat.add_zero, max_v, min_v, ↓cnd_t, ↓cnd_f, ↓grd_b, ↓grd_u, startEnv, Option.map_some, List.length_nil, List.length_cons, List.nil_append, List.cons_append, List.getElem?_cons_zero, List.getElem?_cons_succ, List.set_cons_zero, List.set_cons_succ, Bool.not_true, Bool.not_false, reduceIte, Nat.reduceEqDiff, Nat.reduceAdd, Nat.reduceLT, blt_lit, beq_lit, Bool.or_true, Bool.true_or, Bool.or_false, Bool.false_or, Bool.and_true, Bool.true_and, Bool.and_self, cond_true, cond_false, List.append_nil, Iv.eta, Option.map_none, idxO_l0, idxO_l1, decide_true, decide_false, reqs_true, Int.zero_sub, wrap_lit, wrapu_lit, Int.reduceLE, Int.reduceLT, Int.reduceAdd, Int.reduceSub, Int.reduceMul, Int.reduceNeg, Int.reduceEq, Option.bind_some, bin_shr_u64, bin_shl_u64, bin_shr_i64, bin_shl_i64, and_m32', Int.reduceToNat, Int.reducePow, Int.reduceMod, Int.reduceDiv, wrap_u64s, true_or, or_true, true_and, and_true, Option.isSome_none, Option.isSome_some, Nat.reduceLeDiff, Nat.reduceMul, Int.toNat_natCast, Int.cast_ofNat_Int, Int.natCast_zero, Int.natCast_one, List.isEmpty_nil, List.isEmpty_cons, List.replicate_zero, List.replicate_succ, T1, T2, T3, T4, T5, T6, T9, T10, T11, T12, T21, T22, T23, T24, T25, T26, T27, T28, T30, T31, T32, T33, T34, T35, T36, T37, T38, T39, T40, T41, T42, T44, T45, T46, T47, T48, T49, T50, T51, T52, T53, T55, T56, T57, T58, T59, T60, T61, T63, T64, T66, T67, T68, T69, T70, T71, T72, T73, T74, T75, T76, T77, T78, T79, T80, T81, T82, T83, T84, T86, T87, T88, T89, T91, T93, T94, T95, T98, T100, T106, T107, T108, T109, T110, T112, T113, l16, l17, l18, l4, d1, M_known_eq, hro, knO_some, hall]
              repeat' (first | with_reducible refine cnd_split (fun hc => ?_) (fun hc => ?_) | with_reducible refine Reqs.mk ?_ ?_)
              all_goals first | trivial | exact endM_rowT hR (by omega) (by omega) htk
            | false =>
              rw [if_neg (by rw [hall]; decide)] at hr hh
              subst hr hh
              simp (config := { maxSteps := 4000000, implicitDefEqProofs := false }) only [F_intI_eq, F_mulI_eq, WK0, WK1, WK2, WK3, WK4, WK5, WK6, WK7, WK8, WK9, WK10, WK11, WK12, WK13, WK14, WK15, WK16, WK17, WK18, WK19, WK20, WK21, WK22, WK23, WK24, WK25, WK26, WK27, WK28, look_hit, look_miss, List.map_cons, List.map_nil, Nat.add_zero, max_v, min_v, ↓cnd_t, ↓cnd_f, ↓grd_b, ↓grd_u, startEnv, Option.map_some, List.length_nil, List.length_cons, List.nil_append, List.cons_append, List.getElem?_cons_zero, List.getElem?_cons_succ, List.set_cons_zero, List.set_cons_succ, Bool.not_true, Bool.not_false, reduceIte, Nat.reduceEqDiff, Nat.reduceAdd, Nat.reduceLT, blt_lit, beq_lit, Bool.or_true, Bool.true_or, Bool.or_false, Bool.false_or, Bool.and_true, Bool.true_and, Bool.and_self, cond_true, cond_false, List.append_nil, Iv.eta, Option.map_none, idxO_l0, idxO_l1, decide_true, decide_false, reqs_true, Int.zero_sub, wrap_lit, wrapu_lit, Int.reduceLE, Int.reduceLT, Int.reduceAdd, Int.reduceSub, Int.reduceMul, Int.reduceNeg, Int.reduceEq, Option.bind_some, bin_shr_u64, bin_shl_u64, bin_shr_i64, bin_shl_i64, and_m32', Int.reduceToNat, Int.reducePow, Int.reduceMod, Int.reduceDiv, wrap_u64s, true_or, or_true, true_and, and_true, Option.isSome_none, Option.isSome_some, Nat.reduceLeDiff, Nat.reduceMul, Int.toNat_natCast, Int.cast_ofNat_Int, Int.natCast_zero, Int.natCast_one, List.isEmpty_nil, List.isEmpty_cons, List.replicate_zero, List.replicate_succ, T1, T2, T3, T4, T5, T6, T9, T10, T11, T12, T21, T22, T23, T24, T25, T26, T27, T28, T30, T31, T32, T33, T34, T35, T36, T37, T38, T39, T40, T41, T42, T44, T45, T46, T47, T48, T49, T50, T51, T52, T53, T55, T56, T57, T58, T59, T60, T61, T63, T64, T66, T67, T68, T69, T70, T71, T72, T73, T74, T75, T76, T77, T78, T79, T80, T81, T82, T83, T84, T86, T87, T88, T89, T91, T93, T94, T95, T98, T100, T106, T107, T108, T109, T110, T112, T113, l16, l17, l18, l4, d1, M_known_eq, hro, knO_some, hall]
              repeat' (first | with_reducible refine cnd_split (fun hc => ?_) (fun hc => ?_) | with_reducible refine Reqs.mk ?_ ?_)
              all_goals first | trivial | exact endM_rowT (L := hp.length) (sl := .p (.sl none 0 0)) (z := 2) (n := 0) (cs := []) (.inl ⟨rfl, rfl, rfl⟩) (by omega) (by omega) htk
  · cases hM

-- def FnExactPolyDerivative
def M_lawPolyDerivative : MT := fun m args h => match args, h with
  | [.c (.p (.sl a n c))], [] => some (ToldI m a n ∧ (n : Int) ≤ 9223372036854775807, .v (.c (.p (.bool true))), [])
  | _, _ => none
theorem knownL_cases (L : List Iv) (h : 0 < L.length ∧ L.length ≤ 17) : (knownL L = ([], 9)) ∨ (∃ D, knownL L = (D, 0) ∧ 0 < D.length ∧ D.length ≤ 17) := by
  unfold knownL
  split
  · exact .inr ⟨L, rfl, h⟩
  · exact .inl rfl
theorem derL_len {L : List Iv} (h : 0 < L.length ∧ L.length ≤ 17) : 0 < (derL L).length ∧ (derL L).length ≤ 17 := by
  unfold derL
  split
  · exact ⟨by simp, by simp⟩
  · rw [derM_len, List.length_drop]; omega
theorem derP_cases (L : List Iv) : (∃ c, derP L = ([], c)) ∨ (∃ D c, derP L = (D, c) ∧ 0 < D.length ∧ D.length ≤ 17 ∧ 0 < L.length) := by
  unfold derP
  split
  · rename_i hp
    have hb := pok_pos hp
    rcases knownL_cases (derL L) (derL_len hb) with e | ⟨D, e, h1, h2⟩
    · exact .inl ⟨9, e⟩
    · exact .inr ⟨D, 0, e, h1, h2, hb.1⟩
  · exact .inl ⟨1, rfl⟩

end Go.Proofs.Ytcnapkdccjibpaa.Eng
