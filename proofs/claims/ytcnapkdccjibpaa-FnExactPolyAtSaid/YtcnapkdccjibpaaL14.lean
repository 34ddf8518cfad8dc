/- What functions of the program compute, and that the program computes it: part 14. -/
import Derived.Test.YtcnapkdccjibpaaTab
import Derived.Test.YtcnapkdccjibpaaEng16
import Derived.Laws.BitsLemmas
import Derived.Laws.Bits64
import Derived.Laws.Bits64b
import Derived.Lib.Mul64
import Derived.Lib.BitFns
import Derived.Laws.Externs
import Derived.Test.YtcnapkdccjibpaaL1
import Derived.Test.YtcnapkdccjibpaaL2
import Derived.Test.YtcnapkdccjibpaaL12
namespace Go.Proofs.Ytcnapkdccjibpaa.Eng
open Go Go.RowKit
set_option linter.unusedVariables false
set_option linter.unusedSimpArgs false
set_option maxRecDepth 100000
set_option maxHeartbeats 1000000
-- polys
/-- The cells of a list of intervals, and the list that cells tell. -/
def cellsI : List Iv → List PC
  | [] => []
  | v :: r => .int .i64 v.lo :: .int .i64 v.hi :: cellsI r
def ivsC : List PC → Option (List Iv)
  | [] => some []
  | .int .i64 a :: .int .i64 b :: r => match ivsC r with
    | some l => some (⟨a, b⟩ :: l)
    | none => none
  | _ => none
theorem ivsC_cells : ∀ (L : List Iv), ivsC (cellsI L) = some L
  | [] => rfl
  | v :: r => by simp only [cellsI, ivsC, ivsC_cells r]
theorem ivsC_out : ∀ {cs : List PC} {L : List Iv}, ivsC cs = some L → cs = cellsI L := by
  intro cs
  induction cs using ivsC.induct with
  | case1 => intro L h; simp only [ivsC, Option.some.injEq] at h; subst h; rfl
  | case2 a b r l hl ih =>
    intro L h
    simp only [ivsC, hl, Option.some.injEq] at h
    subst h
    rw [cellsI, ← ih hl]
  | case3 a b r hn ih => intro L h; simp only [ivsC, hn] at h; cases h
  | case4 cs h1 h2 => intro L h; unfold ivsC at h; split at h <;> simp_all
theorem cellsI_len : ∀ (L : List Iv), (cellsI L).length = L.length * 2
  | [] => rfl
  | v :: r => by simp only [cellsI, List.length_cons, cellsI_len r]; omega
theorem cellsI_drop : ∀ (L : List Iv) (j : Nat) (v : Iv), L[j]? = some v → ∃ r, (cellsI L).drop (j * 2) = .int .i64 v.lo :: .int .i64 v.hi :: r
  | [], j, v, h => by simp at h
  | u :: r, 0, v, h => by simp at h; subst h; exact ⟨_, rfl⟩
  | u :: r, j + 1, v, h => by
    simp at h
    obtain ⟨q, hq⟩ := cellsI_drop r j v h
    refine ⟨q, ?_⟩
    have e : (j + 1) * 2 = j * 2 + 1 + 1 := by omega
    rw [e, cellsI, List.drop_succ_cons, List.drop_succ_cons, hq]
theorem loadC_at {L : List Iv} {j : Nat} {v : Iv} (h : L[j]? = some v) : loadC (tdPair .i64 .i64) (j * 2) (some (cellsI L)) = some (.v (.agg [.int .i64 v.lo, .int .i64 v.hi])) := by
  obtain ⟨q, hq⟩ := cellsI_drop L j v h
  have hj := (List.getElem?_eq_some_iff.1 h).1
  have hl := cellsI_len L
  have h1 : (tdPair IntKind.i64 IntKind.i64).agg = true := rfl
  have h2 : (tdPair IntKind.i64 IntKind.i64).size = 2 := rfl
  unfold loadC
  simp only [h1, h2, cond_true, hq]
  have h3 : Nat.ble (j * 2 + 2) (cellsI L).length = true := by rw [Nat.ble_eq]; omega
  have h4 : (cellsI L).isEmpty = false := by
    cases hL : cellsI L with
    | nil => rw [hL] at hl; simp at hl; omega
    | cons a b => rfl
  rw [h3, h4]
  rfl
/-- The list of intervals that a slice tells. -/
def rowQ (n : Nat) : Option (List Iv) → Option (List Iv)
  | some L => if n = L.length ∧ 0 < n ∧ n ≤ 1048576 then some L else none
  | none => none
def rowOf (h : Heap) : Cl → Option (List Iv)
  | .row i 0 n 2 => rowQ n ((h[i]?).bind ivsC)
  | .emp _ _ => some []
  | .p (.sl none 0 0) => some []
  | _ => none
theorem rowOf_row {h : Heap} {i n : Nat} : rowOf h (.row i 0 n 2) = rowQ n ((h[i]?).bind ivsC) := rfl
theorem rowOf_emp {h : Heap} {i o : Nat} : rowOf h (.emp i o) = some [] := rfl
theorem rowOf_nil {h : Heap} : rowOf h (.p (.sl none 0 0)) = some [] := rfl
theorem rowQ_of {L : List Iv} {n : Nat} (h : n = L.length) (h0 : 0 < n) (h1 : n ≤ 1048576) : rowQ n (some L) = some L := by
  simp only [rowQ]
  rw [if_pos ⟨h, h0, h1⟩]
theorem rowOf_out {h : Heap} {sl : Cl} {L : List Iv} (hr : rowOf h sl = some L) : (∃ i, sl = .row i 0 L.length 2 ∧ h[i]? = some (cellsI L) ∧ 0 < L.length ∧ L.length ≤ 1048576) ∨ (L = [] ∧ ∃ i o, sl = .emp i o) ∨ (L = [] ∧ sl = .p (.sl none 0 0)) := by
  unfold rowOf at hr
  split at hr
  · rename_i i n
    unfold rowQ at hr
    split at hr
    · rename_i L' hL
      split at hr
      · rename_i hc
        simp only [Option.some.injEq] at hr
        subst hr
        obtain ⟨c1, c2, c3⟩ := hc
        subst c1
        rw [Option.bind_eq_some_iff] at hL
        obtain ⟨cs, h1, h2⟩ := hL
        rw [ivsC_out h2] at h1
        exact .inl ⟨i, rfl, h1, c2, c3⟩
      · cases hr
    · cases hr
  · simp only [Option.some.injEq] at hr; exact .inr (.inl ⟨hr.symm, _, _, rfl⟩)
  · simp only [Option.some.injEq] at hr; exact .inr (.inr ⟨hr.symm, rfl⟩)
  · cases hr
def pok (L : List Iv) : Bool := L.all okI && within L.length 1 17
theorem pok_nil : pok [] = false := rfl
def boolO (h : Heap) (f : List Iv → Bool) : Option (List Iv) → Option (Prop × SV × Heap)
  | some L => some (True, .v (.c (.p (.bool (f L)))), h)
  | none => none
theorem boolO_some {h : Heap} {f : List Iv → Bool} {L : List Iv} : boolO h f (some L) = some (True, .v (.c (.p (.bool (f L)))), h) := rfl
def M_pok : MT := fun m args h => match args with
  | [.c sl] => boolO h pok (rowOf h sl)
  | _ => none
theorem M_pok_eq {m : Addr → Option PC} {h : Heap} {sl : Cl} : M_pok m [.c sl] h = boolO h pok (rowOf h sl) := rfl
theorem endM_pl {hp : Heap} {a : PC} : endM hp.length (.v (.c (.p a))) hp hp (some [.c (.p a)]) := endM_same rfl trivial rfl rfl (Nat.le_refl _) List.take_length
theorem row_iad {h : Heap} {i : Nat} {N : Nat} {J : Int} (h0 : 0 ≤ J) (h1 : J < N) : iadO h (some (tdRow [PC.int .i64 0, PC.int .i64 0])) (some (.c (.row i 0 N 2))) (some (.int .i64 J)) = some (some (.v (.c (.ptr (.own i (J.toNat * 2))))), h) := by
  rw [iadO_row rfl (by simp only [Bool.and_eq_true, decide_eq_true_eq]; omega)]
  simp

-- spec.l09Ok
theorem spec_l09Ok_pok_ok : Mn Try.prog 32 M_pok := by
  refine mn_of_go (O := orc [⟨41, F_okI, .inl spec_l04Ok_okI_ok⟩, ⟨61, F_within, .inl spec_l00In_within_ok⟩]) mixed T_ok (orc_sound _) Try.func32 (by kernel_rfl) rfl Try.ntmps32 (by kernel_rfl) Try.results32 ?_
  intro m args hp pre r h' hM hpre
  unfold M_pok at hM
  split at hM
  · rename_i sl
    cases hs : rowOf hp sl with
    | none => rw [hs] at hM; cases hM
    | some L =>
      rw [hs, boolO_some] at hM
      simp only [Option.some.injEq, Prod.mk.injEq] at hM
      obtain ⟨rfl, hr, hh⟩ := hM
      subst hr hh
      refine ⟨by simp, ?_⟩
      rcases rowOf_out hs with ⟨i, rfl, hi, hL0, hL1⟩ | ⟨rfl, i, o, rfl⟩ | ⟨rfl, rfl⟩
      · simp (config := { maxSteps := 4000000, implicitDefEqProofs := false }) only [F_okI_eq, F_within_eq, WK0, WK1, WK2, WK3, WK4, WK5, WK6, WK7, WK8, WK9, WK10, WK11, WK12, WK13, WK14, WK15, WK16, WK17, WK18, WK19, WK20, WK21, WK22, WK23, WK24, WK25, WK26, WK27, WK28, WK29, WK30, look_hit, look_miss, List.map_cons, List.map_nil, Nat.add_zero, max_v, min_v, ↓cnd_t, ↓cnd_f, ↓grd_b, ↓grd_u, startEnv, Option.map_some, List.length_nil, List.length_cons, List.nil_append, List.cons_append, List.getElem?_cons_zero, List.getElem?_cons_succ, List.set_cons_zero, List.set_cons_succ, Bool.not_true, Bool.not_false, reduceIte, Nat.reduceEqDiff, Nat.reduceAdd, Nat.reduceLT, blt_lit, beq_lit, Bool.or_true, Bool.true_or, Bool.or_false, Bool.false_or, Bool.and_true, Bool.true_and, Bool.and_self, cond_true, cond_false, List.append_nil, Iv.eta, Option.map_none, idxO_l0, idxO_l1, decide_true, decide_false, reqs_true, Int.zero_sub, wrap_lit, wrapu_lit, Int.reduceLE, Int.reduceLT, Int.reduceAdd, Int.reduceSub, Int.reduceMul, Int.reduceNeg, Int.reduceEq, Option.bind_some, bin_shr_u64, bin_shl_u64, bin_shr_i64, bin_shl_i64, and_m32', Int.reduceToNat, Int.reducePow, Int.reduceMod, Int.reduceDiv, wrap_u64s, true_or, or_true, true_and, and_true, Option.isSome_none, Option.isSome_some, Nat.reduceLeDiff, Nat.reduceMul, Int.toNat_natCast, Int.cast_ofNat_Int, Int.natCast_zero, Int.natCast_one, List.isEmpty_nil, List.isEmpty_cons, List.replicate_zero, List.replicate_succ, T1, T2, T3, T4, T5, T6, T9, T10, T11, T12, T21, T22, T23, T24, T25, T26, T27, T28, T30, T31, T32, T33, T34, T35, T36, T37, T38, T39, T40, T41, T42, T44, T45, T46, T47, T48, T49, T50, T51, T52, T53, T55, T56, T57, T58, T59, T60, T61, T63, T64, T66, T67, T68, T69, T70, T71, T72, T73, T74, T75, T76, T77, T78, T79, T80, T81, T82, T83, T84, T86, T87, T88, T89, T91, T93, T94, T95, T98, T100, T106, T107, T108, T109, T110, T112, T113]
        obtain ⟨N, hN⟩ : ∃ N : Int, ((L.length : Nat) : Int) = N := ⟨_, rfl⟩
        refine go_loop (α := Nat) (fun s => L.length - s) (fun s e h => h = hp ∧ look e 0 = some (.v (.c (.row i 0 L.length 2))) ∧ look e 3 = some (.v (.c (.p (.int .i64 (s : Int))))) ∧ s ≤ L.length ∧ (L.take s).all okI = true) 0 ⟨rfl, rfl, rfl, by omega, rfl⟩ ?_
        rintro X k e h ⟨rfl, l0, l3, hk, hall⟩ hX
        obtain ⟨K, hK⟩ : ∃ K : Int, (k : Int) = K := ⟨_, rfl⟩
        rw [hK] at l3
        by_cases hkl : k < L.length
        · have c0 : decide (K < N) = true := by simp only [decide_eq_true_eq]; omega
          obtain ⟨v, hv⟩ : ∃ v, L[k]? = some v := ⟨_, List.getElem?_eq_getElem hkl⟩
          have hd := loadC_at hv
          have w1 : IntKind.i64.wrap (K + 1) = K + 1 := wrap_om (by omega) (by omega)
          have i1 := fun h => @row_iad h i L.length K (by omega) (by omega)
          have hKn : K.toNat = k := by omega
          rw [hKn] at i1
          cases ho : okI v with
          | true =>
            simp (config := { maxSteps := 4000000, implicitDefEqProofs := false }) only [F_okI_eq, F_within_eq, WK0, WK1, WK2, WK3, WK4, WK5, WK6, WK7, WK8, WK9, WK10, WK11, WK12, WK13, WK14, WK15, WK16, WK17, WK18, WK19, WK20, WK21, WK22, WK23, WK24, WK25, WK26, WK27, WK28, WK29, WK30, look_hit, look_miss, List.map_cons, List.map_nil, Nat.add_zero, max_v, min_v, ↓cnd_t, ↓cnd_f, ↓grd_b, ↓grd_u, startEnv, Option.map_some, List.length_nil, List.length_cons, List.nil_append, List.cons_append, List.getElem?_cons_zero, List.getElem?_cons_succ, List.set_cons_zero, List.set_cons_succ, Bool.not_true, Bool.not_false, reduceIte, Nat.reduceEqDiff, Nat.reduceAdd, Nat.reduceLT, blt_lit, beq_lit, Bool.or_true, Bool.true_or, Bool.or_false, Bool.false_or, Bool.and_true, Bool.true_and, Bool.and_self, cond_true, cond_false, List.append_nil, Iv.eta, Option.map_none, idxO_l0, idxO_l1, decide_true, decide_false, reqs_true, Int.zero_sub, wrap_lit, wrapu_lit, Int.reduceLE, Int.reduceLT, Int.reduceAdd, Int.reduceSub, Int.reduceMul, Int.reduceNeg, Int.reduceEq, Option.bind_some, bin_shr_u64, bin_shl_u64, bin_shr_i64, bin_shl_i64, and_m32', Int.reduceToNat, Int.reducePow, Int.reduceMod, Int.reduceDiv, wrap_u64s, true_or, or_true, true_and, and_true, Option.isSome_none, Option.isSome_some, Nat.reduceLeDiff, Nat.reduceMul, Int.toNat_natCast, Int.cast_ofNat_Int, Int.natCast_zero, Int.natCast_one, List.isEmpty_nil, List.isEmpty_cons, List.replicate_zero, List.replicate_succ, T1, T2, T3, T4, T5, T6, T9, T10, T11, T12, T21, T22, T23, T24, T25, T26, T27, T28, T30, T31, T32, T33, T34, T35, T36, T37, T38, T39, T40, T41, T42, T44, T45, T46, T47, T48, T49, T50, T51, T52, T53, T55, T56, T57, T58, T59, T60, T61, T63, T64, T66, T67, T68, T69, T70, T71, T72, T73, T74, T75, T76, T77, T78, T79, T80, T81, T82, T83, T84, T86, T87, T88, T89, T91, T93, T94, T95, T98, T100, T106, T107, T108, T109, T110, T112, T113, l0, l3, hN, c0, i1, hi, hd, ho, w1, Iv.eta]
            refine hX (k + 1) _ _ (by omega) ⟨rfl, ?_, ?_, by omega, ?_⟩
            · simp [look, l0]
            · rw [← hK]; rfl
            · rw [List.take_add_one, hv, List.all_append, hall]; simp [ho]
          | false =>
            simp (config := { maxSteps := 4000000, implicitDefEqProofs := false }) only [F_okI_eq, F_within_eq, WK0, WK1, WK2, WK3, WK4, WK5, WK6, WK7, WK8, WK9, WK10, WK11, WK12, WK13, WK14, WK15, WK16, WK17, WK18, WK19, WK20, WK21, WK22, WK23, WK24, WK25, WK26, WK27, WK28, WK29, WK30, look_hit, look_miss, List.map_cons, List.map_nil, Nat.add_zero, max_v, min_v, ↓cnd_t, ↓cnd_f, ↓grd_b, ↓grd_u, startEnv, Option.map_some, List.length_nil, List.length_cons, List.nil_append, List.cons_append, List.getElem?_cons_zero, List.getElem?_cons_succ, List.set_cons_zero, List.set_cons_succ, Bool.not_true, Bool.not_false, reduceIte, Nat.reduceEqDiff, Nat.reduceAdd, Nat.reduceLT, blt_lit, beq_lit, Bool.or_true, Bool.true_or, Bool.or_false, Bool.false_or, Bool.and_true, Bool.true_and, Bool.and_self, cond_true, cond_false, List.append_nil, Iv.eta, Option.map_none, idxO_l0, idxO_l1, decide_true, decide_false, reqs_true, Int.zero_sub, wrap_lit, wrapu_lit, Int.reduceLE, Int.reduceLT, Int.reduceAdd, Int.reduceSub, Int.reduceMul, Int.reduceNeg, Int.reduceEq, Option.bind_some, bin_shr_u64, bin_shl_u64, bin_shr_i64, bin_shl_i64, and_m32', Int.reduceToNat, Int.reducePow, Int.reduceMod, Int.reduceDiv, wrap_u64s, true_or, or_true, true_and, and_true, Option.isSome_none, Option.isSome_some, Nat.reduceLeDiff, Nat.reduceMul, Int.toNat_natCast, Int.cast_ofNat_Int, Int.natCast_zero, Int.natCast_one, List.isEmpty_nil, List.isEmpty_cons, List.replicate_zero, List.replicate_succ, T1, T2, T3, T4, T5, T6, T9, T10, T11, T12, T21, T22, T23, T24, T25, T26, T27, T28, T30, T31, T32, T33, T34, T35, T36, T37, T38, T39, T40, T41, T42, T44, T45, T46, T47, T48, T49, T50, T51, T52, T53, T55, T56, T57, T58, T59, T60, T61, T63, T64, T66, T67, T68, T69, T70, T71, T72, T73, T74, T75, T76, T77, T78, T79, T80, T81, T82, T83, T84, T86, T87, T88, T89, T91, T93, T94, T95, T98, T100, T106, T107, T108, T109, T110, T112, T113, l0, l3, hN, c0, i1, hi, hd, ho, w1, Iv.eta]
            have : pok L = false := by
              unfold pok
              have : L.all okI = false := by
                rw [List.all_eq_false]
                exact ⟨v, List.mem_of_getElem? hv, by rw [ho]; decide⟩
              rw [this]; rfl
            rw [this]
            exact endM_pl
        · have c0 : decide (K < N) = false := by simp only [decide_eq_false_iff_not]; omega
          simp (config := { maxSteps := 4000000, implicitDefEqProofs := false }) only [F_okI_eq, F_within_eq, WK0, WK1, WK2, WK3, WK4, WK5, WK6, WK7, WK8, WK9, WK10, WK11, WK12, WK13, WK14, WK15, WK16, WK17, WK18, WK19, WK20, WK21, WK22, WK23, WK24, WK25, WK26, WK27, WK28, WK29, WK30, look_hit, look_miss, List.map_cons, List.map_nil, Nat.add_zero, max_v, min_v, ↓cnd_t, ↓cnd_f, ↓grd_b, ↓grd_u, startEnv, Option.map_some, List.length_nil, List.length_cons, List.nil_append, List.cons_append, List.getElem?_cons_zero, List.getElem?_cons_succ, List.set_cons_zero, List.set_cons_succ, Bool.not_true, Bool.not_false, reduceIte, Nat.reduceEqDiff, Nat.reduceAdd, Nat.reduceLT, blt_lit, beq_lit, Bool.or_true, Bool.true_or, Bool.or_false, Bool.false_or, Bool.and_true, Bool.true_and, Bool.and_self, cond_true, cond_false, List.append_nil, Iv.eta, Option.map_none, idxO_l0, idxO_l1, decide_true, decide_false, reqs_true, Int.zero_sub, wrap_lit, wrapu_lit, Int.reduceLE, Int.reduceLT, Int.reduceAdd, Int.reduceSub, Int.reduceMul, Int.reduceNeg, Int.reduceEq, Option.bind_some, bin_shr_u64, bin_shl_u64, bin_shr_i64, bin_shl_i64, and_m32', Int.reduceToNat, Int.reducePow, Int.reduceMod, Int.reduceDiv, wrap_u64s, true_or, or_true, true_and, and_true, Option.isSome_none, Option.isSome_some, Nat.reduceLeDiff, Nat.reduceMul, Int.toNat_natCast, Int.cast_ofNat_Int, Int.natCast_zero, Int.natCast_one, List.isEmpty_nil, List.isEmpty_cons, List.replicate_zero, List.replicate_succ, T1, T2, T3, T4, T5, T6, T9, T10, T11, T12, T21, T22, T23, T24, T25, T26, T27, T28, T30, T31, T32, T33, T34, T35, T36, T37, T38, T39, T40, T41, T42, T44, T45, T46, T47, T48, T49, T50, T51, T52, T53, T55, T56, T57, T58, T59, T60, T61, T63, T64, T66, T67, T68, T69, T70, T71, T72, T73, T74, T75, T76, T77, T78, T79, T80, T81, T82, T83, T84, T86, T87, T88, T89, T91, T93, T94, T95, T98, T100, T106, T107, T108, T109, T110, T112, T113, l0, l3, hN, c0]
          have : pok L = within N 1 17 := by
            unfold pok
            rw [List.take_of_length_le (by omega)] at hall
            rw [hall, hN]; rfl
          rw [this]
          repeat' (first | with_reducible refine cnd_split (fun hc => ?_) (fun hc => ?_) | with_reducible refine Reqs.mk ?_ ?_)
          all_goals first | trivial | exact endM_pl
      · simp (config := { maxSteps := 4000000, implicitDefEqProofs := false }) only [F_okI_eq, F_within_eq, WK0, WK1, WK2, WK3, WK4, WK5, WK6, WK7, WK8, WK9, WK10, WK11, WK12, WK13, WK14, WK15, WK16, WK17, WK18, WK19, WK20, WK21, WK22, WK23, WK24, WK25, WK26, WK27, WK28, WK29, WK30, look_hit, look_miss, List.map_cons, List.map_nil, Nat.add_zero, max_v, min_v, ↓cnd_t, ↓cnd_f, ↓grd_b, ↓grd_u, startEnv, Option.map_some, List.length_nil, List.length_cons, List.nil_append, List.cons_append, List.getElem?_cons_zero, List.getElem?_cons_succ, List.set_cons_zero, List.set_cons_succ, Bool.not_true, Bool.not_false, reduceIte, Nat.reduceEqDiff, Nat.reduceAdd, Nat.reduceLT, blt_lit, beq_lit, Bool.or_true, Bool.true_or, Bool.or_false, Bool.false_or, Bool.and_true, Bool.true_and, Bool.and_self, cond_true, cond_false, List.append_nil, Iv.eta, Option.map_none, idxO_l0, idxO_l1, decide_true, decide_false, reqs_true, Int.zero_sub, wrap_lit, wrapu_lit, Int.reduceLE, Int.reduceLT, Int.reduceAdd, Int.reduceSub, Int.reduceMul, Int.reduceNeg, Int.reduceEq, Option.bind_some, bin_shr_u64, bin_shl_u64, bin_shr_i64, bin_shl_i64, and_m32', Int.reduceToNat, Int.reducePow, Int.reduceMod, Int.reduceDiv, wrap_u64s, true_or, or_true, true_and, and_true, Option.isSome_none, Option.isSome_some, Nat.reduceLeDiff, Nat.reduceMul, Int.toNat_natCast, Int.cast_ofNat_Int, Int.natCast_zero, Int.natCast_one, List.isEmpty_nil, List.isEmpty_cons, List.replicate_zero, List.replicate_succ, T1, T2, T3, T4, T5, T6, T9, T10, T11, T12, T21, T22, T23, T24, T25, T26, T27, T28, T30, T31, T32, T33, T34, T35, T36, T37, T38, T39, T40, T41, T42, T44, T45, T46, T47, T48, T49, T50, T51, T52, T53, T55, T56, T57, T58, T59, T60, T61, T63, T64, T66, T67, T68, T69, T70, T71, T72, T73, T74, T75, T76, T77, T78, T79, T80, T81, T82, T83, T84, T86, T87, T88, T89, T91, T93, T94, T95, T98, T100, T106, T107, T108, T109, T110, T112, T113, go_turn_eq, again_n, again_r, again_e, pok_nil]
        repeat' (first | with_reducible refine cnd_split (fun hc => ?_) (fun hc => ?_) | with_reducible refine Reqs.mk ?_ ?_)
        all_goals first | trivial | exact endM_pl | (rw [show within 0 1 17 = false from rfl]; exact endM_pl)
      · simp (config := { maxSteps := 4000000, implicitDefEqProofs := false }) only [F_okI_eq, F_within_eq, WK0, WK1, WK2, WK3, WK4, WK5, WK6, WK7, WK8, WK9, WK10, WK11, WK12, WK13, WK14, WK15, WK16, WK17, WK18, WK19, WK20, WK21, WK22, WK23, WK24, WK25, WK26, WK27, WK28, WK29, WK30, look_hit, look_miss, List.map_cons, List.map_nil, Nat.add_zero, max_v, min_v, ↓cnd_t, ↓cnd_f, ↓grd_b, ↓grd_u, startEnv, Option.map_some, List.length_nil, List.length_cons, List.nil_append, List.cons_append, List.getElem?_cons_zero, List.getElem?_cons_succ, List.set_cons_zero, List.set_cons_succ, Bool.not_true, Bool.not_false, reduceIte, Nat.reduceEqDiff, Nat.reduceAdd, Nat.reduceLT, blt_lit, beq_lit, Bool.or_true, Bool.true_or, Bool.or_false, Bool.false_or, Bool.and_true, Bool.true_and, Bool.and_self, cond_true, cond_false, List.append_nil, Iv.eta, Option.map_none, idxO_l0, idxO_l1, decide_true, decide_false, reqs_true, Int.zero_sub, wrap_lit, wrapu_lit, Int.reduceLE, Int.reduceLT, Int.reduceAdd, Int.reduceSub, Int.reduceMul, Int.reduceNeg, Int.reduceEq, Option.bind_some, bin_shr_u64, bin_shl_u64, bin_shr_i64, bin_shl_i64, and_m32', Int.reduceToNat, Int.reducePow, Int.reduceMod, Int.reduceDiv, wrap_u64s, true_or, or_true, true_and, and_true, Option.isSome_none, Option.isSome_some, Nat.reduceLeDiff, Nat.reduceMul, Int.toNat_natCast, Int.cast_ofNat_Int, Int.natCast_zero, Int.natCast_one, List.isEmpty_nil, List.isEmpty_cons, List.replicate_zero, List.replicate_succ, T1, T2, T3, T4, T5, T6, T9, T10, T11, T12, T21, T22, T23, T24, T25, T26, T27, T28, T30, T31, T32, T33, T34, T35, T36, T37, T38, T39, T40, T41, T42, T44, T45, T46, T47, T48, T49, T50, T51, T52, T53, T55, T56, T57, T58, T59, T60, T61, T63, T64, T66, T67, T68, T69, T70, T71, T72, T73, T74, T75, T76, T77, T78, T79, T80, T81, T82, T83, T84, T86, T87, T88, T89, T91, T93, T94, T95, T98, T100, T106, T107, T108, T109, T110, T112, T113, go_turn_eq, again_n, again_r, again_e, pok_nil]
        repeat' (first | with_reducible refine cnd_split (fun hc => ?_) (fun hc => ?_) | with_reducible refine Reqs.mk ?_ ?_)
        all_goals first | trivial | exact endM_pl | (rw [show within 0 1 17 = false from rfl]; exact endM_pl)
  · cases hM

-- boxes behind
theorem sameLen_app {h : Heap} {c : List PC} {l : Heap} : sameLen (h ++ c :: l) h = false := by
  cases hs : sameLen (h ++ c :: l) h with
  | false => rfl
  | true => have := sameLen_ok hs; simp at this
theorem bx_get {h l : Heap} {k : Nat} : (h ++ l)[h.length + k]? = l[k]? := by
  rw [List.getElem?_append_right (by omega)]
  congr 1
  omega
theorem bx_get0 {h l : Heap} {x : List PC} : (h ++ x :: l)[h.length]? = some x := by
  rw [List.getElem?_append_right (by omega)]
  simp
theorem bx_set {h l : Heap} {k : Nat} {y : List PC} : (h ++ l).set (h.length + k) y = h ++ l.set k y := by
  rw [List.set_append_right _ _ (by omega)]
  congr 2
  omega
theorem bx_set0 {h l : Heap} {x y : List PC} : (h ++ x :: l).set h.length y = h ++ y :: l := by
  rw [List.set_append_right _ _ (by omega)]
  simp
theorem bq_aa {a b c : Nat} : Nat.beq (a + b) (a + c) = Nat.beq b c := by
  rw [beqN, beqN]
  cases h : (b == c) with
  | true => simp at h; simp [h]
  | false => simp at h; simp [h]
theorem bq_0l {a c : Nat} : Nat.beq a (a + c) = Nat.beq 0 c := bq_aa (b := 0)
theorem bq_0r {a b : Nat} : Nat.beq (a + b) a = Nat.beq b 0 := bq_aa (c := 0)
theorem bq_ss {a : Nat} : Nat.beq a a = true := Nat.beq_refl a
theorem bq_i {i a : Nat} (h : i < a) : Nat.beq i a = false ∧ Nat.beq a i = false ∧ (∀ b, Nat.beq i (a + b) = false) ∧ (∀ b, Nat.beq (a + b) i = false) := by
  refine ⟨?_, ?_, fun b => ?_, fun b => ?_⟩ <;> (rw [beqN]; simp; omega)
theorem endM_pk {hp l : Heap} {a : PC} : endM hp.length (.v (.c (.p a))) hp (hp ++ l) (some [.c (.p a)]) := endM_same rfl trivial rfl rfl (by simp) (by simp)
theorem endM_ak {hp l : Heap} {a : List PC} : endM hp.length (.v (.agg a)) hp (hp ++ l) (some [.agg a]) := endM_same rfl trivial rfl rfl (by simp) (by simp)
theorem get_lt {h : Heap} {i : Nat} {x : List PC} (hi : h[i]? = some x) : i < h.length := (List.getElem?_eq_some_iff.1 hi).1
theorem one_ro {M : MT} (h1 : ∀ m args h p r h', M m args h = some (p, r, h') → (∃ b, headBox args = some b) ∧ h' = h) : OneM M := by
  intro m args h p r h' hM
  obtain ⟨⟨b, hb⟩, e⟩ := h1 _ _ _ _ _ _ hM
  subst e
  exact ⟨b, hb, fun _ _ => rfl⟩
theorem headBox_of {h : Heap} {sl : Cl} {r : List AV} {L : List Iv} (hs : rowOf h sl = some L) : ∃ b, headBox (.c sl :: r) = some b := by
  rcases rowOf_out hs with ⟨i, rfl, _⟩ | ⟨rfl, i, o, rfl⟩ | ⟨rfl, rfl⟩
  · exact ⟨_, rfl⟩
  · exact ⟨_, rfl⟩
  · exact ⟨_, rfl⟩
theorem one_pok : OneM M_pok := one_ro fun m args h p r h' hM => by
  unfold M_pok at hM
  split at hM
  · rename_i sl
    cases hs : rowOf h sl with
    | none => rw [hs] at hM; cases hM
    | some L =>
      rw [hs, boolO_some] at hM
      simp only [Option.some.injEq, Prod.mk.injEq] at hM
      obtain ⟨_, _, rfl⟩ := hM
      exact ⟨headBox_of hs, rfl⟩
  · cases hM

-- impl.length
def lenOO (h : Heap) : Option (List Iv) → Option (Prop × SV × Heap)
  | some L => some (True, .v (.c (.p (.int .i64 (L.length : Int)))), h)
  | none => none
theorem lenOO_some {h : Heap} {L : List Iv} : lenOO h (some L) = some (True, .v (.c (.p (.int .i64 (L.length : Int)))), h) := rfl
def M_length : MT := fun m args h => match args with
  | [.c sl] => lenOO h (rowOf h sl)
  | _ => none
theorem M_length_eq {m : Addr → Option PC} {h : Heap} {sl : Cl} : M_length m [.c sl] h = lenOO h (rowOf h sl) := rfl
theorem one_length : OneM M_length := one_ro fun m args h p r h' hM => by
  unfold M_length at hM
  split at hM
  · rename_i sl
    cases hs : rowOf h sl with
    | none => rw [hs] at hM; cases hM
    | some L =>
      rw [hs, lenOO_some] at hM
      simp only [Option.some.injEq, Prod.mk.injEq] at hM
      obtain ⟨_, _, rfl⟩ := hM
      exact ⟨headBox_of hs, rfl⟩
  · cases hM
theorem impl_length_length_ok : Mn Try.prog 34 M_length := by
  refine mn_of_go (O := orc []) mixed T_ok (orc_sound _) Try.func34 (by kernel_rfl) rfl Try.ntmps34 (by kernel_rfl) Try.results34 ?_
  intro m args hp pre r h' hM hpre
  unfold M_length at hM
  split at hM
  · rename_i sl
    cases hs : rowOf hp sl with
    | none => rw [hs] at hM; cases hM
    | some L =>
      rw [hs, lenOO_some] at hM
      simp only [Option.some.injEq, Prod.mk.injEq] at hM
      obtain ⟨rfl, hr, hh⟩ := hM
      subst hr hh
      refine ⟨by simp, ?_⟩
      rcases rowOf_out hs with ⟨i, rfl, hi, hL0, hL1⟩ | ⟨rfl, i, o, rfl⟩ | ⟨rfl, rfl⟩
      · have w1 : IntKind.i64.wrap ((L.length : Nat) : Int) = (L.length : Int) := wrap_om (by omega) (by omega)
        simp (config := { maxSteps := 4000000, implicitDefEqProofs := false }) only [WK0, WK1, WK2, WK3, WK4, WK5, WK6, WK7, WK8, WK9, WK10, WK11, WK12, WK13, WK14, WK15, WK16, WK17, WK18, WK19, WK20, WK21, WK22, WK23, WK24, WK25, WK26, WK27, WK28, WK29, WK30, look_hit, look_miss, List.map_cons, List.map_nil, Nat.add_zero, max_v, min_v, ↓cnd_t, ↓cnd_f, ↓grd_b, ↓grd_u, startEnv, Option.map_some, List.length_nil, List.length_cons, List.nil_append, List.cons_append, List.getElem?_cons_zero, List.getElem?_cons_succ, List.set_cons_zero, List.set_cons_succ, Bool.not_true, Bool.not_false, reduceIte, Nat.reduceEqDiff, Nat.reduceAdd, Nat.reduceLT, blt_lit, beq_lit, Bool.or_true, Bool.true_or, Bool.or_false, Bool.false_or, Bool.and_true, Bool.true_and, Bool.and_self, cond_true, cond_false, List.append_nil, Iv.eta, Option.map_none, idxO_l0, idxO_l1, decide_true, decide_false, reqs_true, Int.zero_sub, wrap_lit, wrapu_lit, Int.reduceLE, Int.reduceLT, Int.reduceAdd, Int.reduceSub, Int.reduceMul, Int.reduceNeg, Int.reduceEq, Option.bind_some, bin_shr_u64, bin_shl_u64, bin_shr_i64, bin_shl_i64, and_m32', Int.reduceToNat, Int.reducePow, Int.reduceMod, Int.reduceDiv, wrap_u64s, true_or, or_true, true_and, and_true, Option.isSome_none, Option.isSome_some, Nat.reduceLeDiff, Nat.reduceMul, Int.toNat_natCast, Int.cast_ofNat_Int, Int.natCast_zero, Int.natCast_one, List.isEmpty_nil, List.isEmpty_cons, List.replicate_zero, List.replicate_succ, T1, T2, T3, T4, T5, T6, T9, T10, T11, T12, T21, T22, T23, T24, T25, T26, T27, T28, T30, T31, T32, T33, T34, T35, T36, T37, T38, T39, T40, T41, T42, T44, T45, T46, T47, T48, T49, T50, T51, T52, T53, T55, T56, T57, T58, T59, T60, T61, T63, T64, T66, T67, T68, T69, T70, T71, T72, T73, T74, T75, T76, T77, T78, T79, T80, T81, T82, T83, T84, T86, T87, T88, T89, T91, T93, T94, T95, T98, T100, T106, T107, T108, T109, T110, T112, T113, w1]
        exact endM_pl
      · simp (config := { maxSteps := 4000000, implicitDefEqProofs := false }) only [WK0, WK1, WK2, WK3, WK4, WK5, WK6, WK7, WK8, WK9, WK10, WK11, WK12, WK13, WK14, WK15, WK16, WK17, WK18, WK19, WK20, WK21, WK22, WK23, WK24, WK25, WK26, WK27, WK28, WK29, WK30, look_hit, look_miss, List.map_cons, List.map_nil, Nat.add_zero, max_v, min_v, ↓cnd_t, ↓cnd_f, ↓grd_b, ↓grd_u, startEnv, Option.map_some, List.length_nil, List.length_cons, List.nil_append, List.cons_append, List.getElem?_cons_zero, List.getElem?_cons_succ, List.set_cons_zero, List.set_cons_succ, Bool.not_true, Bool.not_false, reduceIte, Nat.reduceEqDiff, Nat.reduceAdd, Nat.reduceLT, blt_lit, beq_lit, Bool.or_true, Bool.true_or, Bool.or_false, Bool.false_or, Bool.and_true, Bool.true_and, Bool.and_self, cond_true, cond_false, List.append_nil, Iv.eta, Option.map_none, idxO_l0, idxO_l1, decide_true, decide_false, reqs_true, Int.zero_sub, wrap_lit, wrapu_lit, Int.reduceLE, Int.reduceLT, Int.reduceAdd, Int.reduceSub, Int.reduceMul, Int.reduceNeg, Int.reduceEq, Option.bind_some, bin_shr_u64, bin_shl_u64, bin_shr_i64, bin_shl_i64, and_m32', Int.reduceToNat, Int.reducePow, Int.reduceMod, Int.reduceDiv, wrap_u64s, true_or, or_true, true_and, and_true, Option.isSome_none, Option.isSome_some, Nat.reduceLeDiff, Nat.reduceMul, Int.toNat_natCast, Int.cast_ofNat_Int, Int.natCast_zero, Int.natCast_one, List.isEmpty_nil, List.isEmpty_cons, List.replicate_zero, List.replicate_succ, T1, T2, T3, T4, T5, T6, T9, T10, T11, T12, T21, T22, T23, T24, T25, T26, T27, T28, T30, T31, T32, T33, T34, T35, T36, T37, T38, T39, T40, T41, T42, T44, T45, T46, T47, T48, T49, T50, T51, T52, T53, T55, T56, T57, T58, T59, T60, T61, T63, T64, T66, T67, T68, T69, T70, T71, T72, T73, T74, T75, T76, T77, T78, T79, T80, T81, T82, T83, T84, T86, T87, T88, T89, T91, T93, T94, T95, T98, T100, T106, T107, T108, T109, T110, T112, T113]
        exact endM_pl
      · simp (config := { maxSteps := 4000000, implicitDefEqProofs := false }) only [WK0, WK1, WK2, WK3, WK4, WK5, WK6, WK7, WK8, WK9, WK10, WK11, WK12, WK13, WK14, WK15, WK16, WK17, WK18, WK19, WK20, WK21, WK22, WK23, WK24, WK25, WK26, WK27, WK28, WK29, WK30, look_hit, look_miss, List.map_cons, List.map_nil, Nat.add_zero, max_v, min_v, ↓cnd_t, ↓cnd_f, ↓grd_b, ↓grd_u, startEnv, Option.map_some, List.length_nil, List.length_cons, List.nil_append, List.cons_append, List.getElem?_cons_zero, List.getElem?_cons_succ, List.set_cons_zero, List.set_cons_succ, Bool.not_true, Bool.not_false, reduceIte, Nat.reduceEqDiff, Nat.reduceAdd, Nat.reduceLT, blt_lit, beq_lit, Bool.or_true, Bool.true_or, Bool.or_false, Bool.false_or, Bool.and_true, Bool.true_and, Bool.and_self, cond_true, cond_false, List.append_nil, Iv.eta, Option.map_none, idxO_l0, idxO_l1, decide_true, decide_false, reqs_true, Int.zero_sub, wrap_lit, wrapu_lit, Int.reduceLE, Int.reduceLT, Int.reduceAdd, Int.reduceSub, Int.reduceMul, Int.reduceNeg, Int.reduceEq, Option.bind_some, bin_shr_u64, bin_shl_u64, bin_shr_i64, bin_shl_i64, and_m32', Int.reduceToNat, Int.reducePow, Int.reduceMod, Int.reduceDiv, wrap_u64s, true_or, or_true, true_and, and_true, Option.isSome_none, Option.isSome_some, Nat.reduceLeDiff, Nat.reduceMul, Int.toNat_natCast, Int.cast_ofNat_Int, Int.natCast_zero, Int.natCast_one, List.isEmpty_nil, List.isEmpty_cons, List.replicate_zero, List.replicate_succ, T1, T2, T3, T4, T5, T6, T9, T10, T11, T12, T21, T22, T23, T24, T25, T26, T27, T28, T30, T31, T32, T33, T34, T35, T36, T37, T38, T39, T40, T41, T42, T44, T45, T46, T47, T48, T49, T50, T51, T52, T53, T55, T56, T57, T58, T59, T60, T61, T63, T64, T66, T67, T68, T69, T70, T71, T72, T73, T74, T75, T76, T77, T78, T79, T80, T81, T82, T83, T84, T86, T87, T88, T89, T91, T93, T94, T95, T98, T100, T106, T107, T108, T109, T110, T112, T113]
        exact endM_pl
  · cases hM

-- slices.IndexFunc
def idxF : List Iv → Int → Int
  | [], _ => -1
  | v :: r, k => if okI v then idxF r (k + 1) else k
theorem idxF_any : ∀ (L : List Iv) {k : Int}, 0 ≤ k → decide (0 ≤ idxF L k) = !L.all okI
  | [], k, h => rfl
  | v :: r, k, h => by
    unfold idxF
    cases ho : okI v with
    | true =>
      rw [if_pos rfl, idxF_any r (by omega), List.all_cons, ho, Bool.true_and]
    | false =>
      rw [if_neg (by decide), List.all_cons, ho, Bool.false_and]
      simpa using h
def idxO' (h : Heap) : Option (List Iv) → Option (Prop × SV × Heap)
  | some L => some (True, .v (.c (.p (.int .i64 (idxF L 0)))), h)
  | none => none
theorem idxO'_some {h : Heap} {L : List Iv} : idxO' h (some L) = some (True, .v (.c (.p (.int .i64 (idxF L 0)))), h) := rfl
def M_indexW : MT := fun m args h => match args with
  | [.c sl, .c (.p (.fn 36))] => idxO' h (rowOf h sl)
  | _ => none
theorem M_indexW_eq {m : Addr → Option PC} {h : Heap} {sl : Cl} : M_indexW m [.c sl, .c (.p (.fn 36))] h = idxO' h (rowOf h sl) := rfl
theorem slices_IndexFunc_indexW_ok : Mn Try.prog 62 M_indexW := by
  refine mn_of_go (O := orc [⟨36, F_notOk, .inl impl_IsWhole_notOk_ok⟩]) mixed T_ok (orc_sound _) Try.func62 (by kernel_rfl) rfl Try.ntmps62 (by kernel_rfl) Try.results62 ?_
  intro m args hp pre r h' hM hpre
  unfold M_indexW at hM
  split at hM
  · rename_i sl
    cases hs : rowOf hp sl with
    | none => rw [hs] at hM; cases hM
    | some L =>
      rw [hs, idxO'_some] at hM
      simp only [Option.some.injEq, Prod.mk.injEq] at hM
      obtain ⟨rfl, hr, hh⟩ := hM
      subst hr hh
      refine ⟨by simp, ?_⟩
      rcases rowOf_out hs with ⟨i, rfl, hi, hL0, hL1⟩ | ⟨rfl, i, o, rfl⟩ | ⟨rfl, rfl⟩
      · obtain ⟨N, hN⟩ : ∃ N : Int, ((L.length : Nat) : Int) = N := ⟨_, rfl⟩
        simp (config := { maxSteps := 4000000, implicitDefEqProofs := false }) only [F_notOk_eq, WK0, WK1, WK2, WK3, WK4, WK5, WK6, WK7, WK8, WK9, WK10, WK11, WK12, WK13, WK14, WK15, WK16, WK17, WK18, WK19, WK20, WK21, WK22, WK23, WK24, WK25, WK26, WK27, WK28, WK29, WK30, look_hit, look_miss, List.map_cons, List.map_nil, Nat.add_zero, max_v, min_v, ↓cnd_t, ↓cnd_f, ↓grd_b, ↓grd_u, startEnv, Option.map_some, List.length_nil, List.length_cons, List.nil_append, List.cons_append, List.getElem?_cons_zero, List.getElem?_cons_succ, List.set_cons_zero, List.set_cons_succ, Bool.not_true, Bool.not_false, reduceIte, Nat.reduceEqDiff, Nat.reduceAdd, Nat.reduceLT, blt_lit, beq_lit, Bool.or_true, Bool.true_or, Bool.or_false, Bool.false_or, Bool.and_true, Bool.true_and, Bool.and_self, cond_true, cond_false, List.append_nil, Iv.eta, Option.map_none, idxO_l0, idxO_l1, decide_true, decide_false, reqs_true, Int.zero_sub, wrap_lit, wrapu_lit, Int.reduceLE, Int.reduceLT, Int.reduceAdd, Int.reduceSub, Int.reduceMul, Int.reduceNeg, Int.reduceEq, Option.bind_some, bin_shr_u64, bin_shl_u64, bin_shr_i64, bin_shl_i64, and_m32', Int.reduceToNat, Int.reducePow, Int.reduceMod, Int.reduceDiv, wrap_u64s, true_or, or_true, true_and, and_true, Option.isSome_none, Option.isSome_some, Nat.reduceLeDiff, Nat.reduceMul, Int.toNat_natCast, Int.cast_ofNat_Int, Int.natCast_zero, Int.natCast_one, List.isEmpty_nil, List.isEmpty_cons, List.replicate_zero, List.replicate_succ, T1, T2, T3, T4, T5, T6, T9, T10, T11, T12, T21, T22, T23, T24, T25, T26, T27, T28, T30, T31, T32, T33, T34, T35, T36, T37, T38, T39, T40, T41, T42, T44, T45, T46, T47, T48, T49, T50, T51, T52, T53, T55, T56, T57, T58, T59, T60, T61, T63, T64, T66, T67, T68, T69, T70, T71, T72, T73, T74, T75, T76, T77, T78, T79, T80, T81, T82, T83, T84, T86, T87, T88, T89, T91, T93, T94, T95, T98, T100, T106, T107, T108, T109, T110, T112, T113, hN]
        refine go_loop (α := Nat) (fun s => L.length - s) (fun s e h => h = hp ∧ look e 0 = some (.v (.c (.row i 0 L.length 2))) ∧ look e 1 = some (.v (.c (.p (.fn 36)))) ∧ look e 7 = some (.v (.c (.p (.int .i64 N)))) ∧ look e 8 = some (.v (.c (.p (.int .i64 (s : Int))))) ∧ s ≤ L.length ∧ idxF (L.drop s) s = idxF L 0) 0 ⟨rfl, rfl, rfl, rfl, rfl, by omega, rfl⟩ ?_
        rintro X k e h ⟨rfl, l0, l1, l7, l8, hk, hF⟩ hX
        obtain ⟨K, hK⟩ : ∃ K : Int, (k : Int) = K := ⟨_, rfl⟩
        rw [hK] at l8 hF
        by_cases hkl : k < L.length
        · have c0 : decide (K < N) = true := by simp only [decide_eq_true_eq]; omega
          obtain ⟨v, hv⟩ : ∃ v, L[k]? = some v := ⟨_, List.getElem?_eq_getElem hkl⟩
          have hd := loadC_at hv
          have w1 : IntKind.i64.wrap (K + 1) = K + 1 := wrap_om (by omega) (by omega)
          have i1 := fun h => @row_iad h i L.length K (by omega) (by omega)
          have hKn : K.toNat = k := by omega
          rw [hKn] at i1
          have hdr : L.drop k = v :: L.drop (k + 1) := by
            rw [List.drop_eq_getElem_cons hkl]
            congr 1
            have := List.getElem?_eq_getElem hkl
            rw [hv] at this
            exact (Option.some.inj this).symm
          rw [hdr, idxF] at hF
          cases ho : okI v with
          | true =>
            rw [ho, if_pos rfl] at hF
            simp (config := { maxSteps := 4000000, implicitDefEqProofs := false }) only [F_notOk_eq, WK0, WK1, WK2, WK3, WK4, WK5, WK6, WK7, WK8, WK9, WK10, WK11, WK12, WK13, WK14, WK15, WK16, WK17, WK18, WK19, WK20, WK21, WK22, WK23, WK24, WK25, WK26, WK27, WK28, WK29, WK30, look_hit, look_miss, List.map_cons, List.map_nil, Nat.add_zero, max_v, min_v, ↓cnd_t, ↓cnd_f, ↓grd_b, ↓grd_u, startEnv, Option.map_some, List.length_nil, List.length_cons, List.nil_append, List.cons_append, List.getElem?_cons_zero, List.getElem?_cons_succ, List.set_cons_zero, List.set_cons_succ, Bool.not_true, Bool.not_false, reduceIte, Nat.reduceEqDiff, Nat.reduceAdd, Nat.reduceLT, blt_lit, beq_lit, Bool.or_true, Bool.true_or, Bool.or_false, Bool.false_or, Bool.and_true, Bool.true_and, Bool.and_self, cond_true, cond_false, List.append_nil, Iv.eta, Option.map_none, idxO_l0, idxO_l1, decide_true, decide_false, reqs_true, Int.zero_sub, wrap_lit, wrapu_lit, Int.reduceLE, Int.reduceLT, Int.reduceAdd, Int.reduceSub, Int.reduceMul, Int.reduceNeg, Int.reduceEq, Option.bind_some, bin_shr_u64, bin_shl_u64, bin_shr_i64, bin_shl_i64, and_m32', Int.reduceToNat, Int.reducePow, Int.reduceMod, Int.reduceDiv, wrap_u64s, true_or, or_true, true_and, and_true, Option.isSome_none, Option.isSome_some, Nat.reduceLeDiff, Nat.reduceMul, Int.toNat_natCast, Int.cast_ofNat_Int, Int.natCast_zero, Int.natCast_one, List.isEmpty_nil, List.isEmpty_cons, List.replicate_zero, List.replicate_succ, T1, T2, T3, T4, T5, T6, T9, T10, T11, T12, T21, T22, T23, T24, T25, T26, T27, T28, T30, T31, T32, T33, T34, T35, T36, T37, T38, T39, T40, T41, T42, T44, T45, T46, T47, T48, T49, T50, T51, T52, T53, T55, T56, T57, T58, T59, T60, T61, T63, T64, T66, T67, T68, T69, T70, T71, T72, T73, T74, T75, T76, T77, T78, T79, T80, T81, T82, T83, T84, T86, T87, T88, T89, T91, T93, T94, T95, T98, T100, T106, T107, T108, T109, T110, T112, T113, l0, l1, l7, l8, c0, i1, hi, hd, ho, w1, Iv.eta]
            refine hX (k + 1) _ _ (by omega) ⟨rfl, ?_, ?_, ?_, ?_, by omega, ?_⟩
            · simp [look, l0]
            · simp [look, l1]
            · simp [look, l7]
            · rw [← hK]; rfl
            · rw [← hF, ← hK]; rfl
          | false =>
            rw [ho, if_neg (by decide)] at hF
            simp (config := { maxSteps := 4000000, implicitDefEqProofs := false }) only [F_notOk_eq, WK0, WK1, WK2, WK3, WK4, WK5, WK6, WK7, WK8, WK9, WK10, WK11, WK12, WK13, WK14, WK15, WK16, WK17, WK18, WK19, WK20, WK21, WK22, WK23, WK24, WK25, WK26, WK27, WK28, WK29, WK30, look_hit, look_miss, List.map_cons, List.map_nil, Nat.add_zero, max_v, min_v, ↓cnd_t, ↓cnd_f, ↓grd_b, ↓grd_u, startEnv, Option.map_some, List.length_nil, List.length_cons, List.nil_append, List.cons_append, List.getElem?_cons_zero, List.getElem?_cons_succ, List.set_cons_zero, List.set_cons_succ, Bool.not_true, Bool.not_false, reduceIte, Nat.reduceEqDiff, Nat.reduceAdd, Nat.reduceLT, blt_lit, beq_lit, Bool.or_true, Bool.true_or, Bool.or_false, Bool.false_or, Bool.and_true, Bool.true_and, Bool.and_self, cond_true, cond_false, List.append_nil, Iv.eta, Option.map_none, idxO_l0, idxO_l1, decide_true, decide_false, reqs_true, Int.zero_sub, wrap_lit, wrapu_lit, Int.reduceLE, Int.reduceLT, Int.reduceAdd, Int.reduceSub, Int.reduceMul, Int.reduceNeg, Int.reduceEq, Option.bind_some, bin_shr_u64, bin_shl_u64, bin_shr_i64, bin_shl_i64, and_m32', Int.reduceToNat, Int.reducePow, Int.reduceMod, Int.reduceDiv, wrap_u64s, true_or, or_true, true_and, and_true, Option.isSome_none, Option.isSome_some, Nat.reduceLeDiff, Nat.reduceMul, Int.toNat_natCast, Int.cast_ofNat_Int, Int.natCast_zero, Int.natCast_one, List.isEmpty_nil, List.isEmpty_cons, List.replicate_zero, List.replicate_succ, T1, T2, T3, T4, T5, T6, T9, T10, T11, T12, T21, T22, T23, T24, T25, T26, T27, T28, T30, T31, T32, T33, T34, T35, T36, T37, T38, T39, T40, T41, T42, T44, T45, T46, T47, T48, T49, T50, T51, T52, T53, T55, T56, T57, T58, T59, T60, T61, T63, T64, T66, T67, T68, T69, T70, T71, T72, T73, T74, T75, T76, T77, T78, T79, T80, T81, T82, T83, T84, T86, T87, T88, T89, T91, T93, T94, T95, T98, T100, T106, T107, T108, T109, T110, T112, T113, l0, l1, l7, l8, c0, i1, hi, hd, ho, w1, Iv.eta]
            rw [← hF]
            exact endM_pl
        · have c0 : decide (K < N) = false := by simp only [decide_eq_false_iff_not]; omega
          simp (config := { maxSteps := 4000000, implicitDefEqProofs := false }) only [F_notOk_eq, WK0, WK1, WK2, WK3, WK4, WK5, WK6, WK7, WK8, WK9, WK10, WK11, WK12, WK13, WK14, WK15, WK16, WK17, WK18, WK19, WK20, WK21, WK22, WK23, WK24, WK25, WK26, WK27, WK28, WK29, WK30, look_hit, look_miss, List.map_cons, List.map_nil, Nat.add_zero, max_v, min_v, ↓cnd_t, ↓cnd_f, ↓grd_b, ↓grd_u, startEnv, Option.map_some, List.length_nil, List.length_cons, List.nil_append, List.cons_append, List.getElem?_cons_zero, List.getElem?_cons_succ, List.set_cons_zero, List.set_cons_succ, Bool.not_true, Bool.not_false, reduceIte, Nat.reduceEqDiff, Nat.reduceAdd, Nat.reduceLT, blt_lit, beq_lit, Bool.or_true, Bool.true_or, Bool.or_false, Bool.false_or, Bool.and_true, Bool.true_and, Bool.and_self, cond_true, cond_false, List.append_nil, Iv.eta, Option.map_none, idxO_l0, idxO_l1, decide_true, decide_false, reqs_true, Int.zero_sub, wrap_lit, wrapu_lit, Int.reduceLE, Int.reduceLT, Int.reduceAdd, Int.reduceSub, Int.reduceMul, Int.reduceNeg, Int.reduceEq, Option.bind_some, bin_shr_u64, bin_shl_u64, bin_shr_i64, bin_shl_i64, and_m32', Int.reduceToNat, Int.reducePow, Int.reduceMod, Int.reduceDiv, wrap_u64s, true_or, or_true, true_and, and_true, Option.isSome_none, Option.isSome_some, Nat.reduceLeDiff, Nat.reduceMul, Int.toNat_natCast, Int.cast_ofNat_Int, Int.natCast_zero, Int.natCast_one, List.isEmpty_nil, List.isEmpty_cons, List.replicate_zero, List.replicate_succ, T1, T2, T3, T4, T5, T6, T9, T10, T11, T12, T21, T22, T23, T24, T25, T26, T27, T28, T30, T31, T32, T33, T34, T35, T36, T37, T38, T39, T40, T41, T42, T44, T45, T46, T47, T48, T49, T50, T51, T52, T53, T55, T56, T57, T58, T59, T60, T61, T63, T64, T66, T67, T68, T69, T70, T71, T72, T73, T74, T75, T76, T77, T78, T79, T80, T81, T82, T83, T84, T86, T87, T88, T89, T91, T93, T94, T95, T98, T100, T106, T107, T108, T109, T110, T112, T113, l0, l1, l7, l8, c0]
          rw [List.drop_of_length_le (by omega), idxF] at hF
          rw [← hF]
          exact endM_pl
      · simp (config := { maxSteps := 4000000, implicitDefEqProofs := false }) only [F_notOk_eq, WK0, WK1, WK2, WK3, WK4, WK5, WK6, WK7, WK8, WK9, WK10, WK11, WK12, WK13, WK14, WK15, WK16, WK17, WK18, WK19, WK20, WK21, WK22, WK23, WK24, WK25, WK26, WK27, WK28, WK29, WK30, look_hit, look_miss, List.map_cons, List.map_nil, Nat.add_zero, max_v, min_v, ↓cnd_t, ↓cnd_f, ↓grd_b, ↓grd_u, startEnv, Option.map_some, List.length_nil, List.length_cons, List.nil_append, List.cons_append, List.getElem?_cons_zero, List.getElem?_cons_succ, List.set_cons_zero, List.set_cons_succ, Bool.not_true, Bool.not_false, reduceIte, Nat.reduceEqDiff, Nat.reduceAdd, Nat.reduceLT, blt_lit, beq_lit, Bool.or_true, Bool.true_or, Bool.or_false, Bool.false_or, Bool.and_true, Bool.true_and, Bool.and_self, cond_true, cond_false, List.append_nil, Iv.eta, Option.map_none, idxO_l0, idxO_l1, decide_true, decide_false, reqs_true, Int.zero_sub, wrap_lit, wrapu_lit, Int.reduceLE, Int.reduceLT, Int.reduceAdd, Int.reduceSub, Int.reduceMul, Int.reduceNeg, Int.reduceEq, Option.bind_some, bin_shr_u64, bin_shl_u64, bin_shr_i64, bin_shl_i64, and_m32', Int.reduceToNat, Int.reducePow, Int.reduceMod, Int.reduceDiv, wrap_u64s, true_or, or_true, true_and, and_true, Option.isSome_none, Option.isSome_some, Nat.reduceLeDiff, Nat.reduceMul, Int.toNat_natCast, Int.cast_ofNat_Int, Int.natCast_zero, Int.natCast_one, List.isEmpty_nil, List.isEmpty_cons, List.replicate_zero, List.replicate_succ, T1, T2, T3, T4, T5, T6, T9, T10, T11, T12, T21, T22, T23, T24, T25, T26, T27, T28, T30, T31, T32, T33, T34, T35, T36, T37, T38, T39, T40, T41, T42, T44, T45, T46, T47, T48, T49, T50, T51, T52, T53, T55, T56, T57, T58, T59, T60, T61, T63, T64, T66, T67, T68, T69, T70, T71, T72, T73, T74, T75, T76, T77, T78, T79, T80, T81, T82, T83, T84, T86, T87, T88, T89, T91, T93, T94, T95, T98, T100, T106, T107, T108, T109, T110, T112, T113, go_turn_eq, again_n, again_r, again_e]
        repeat' (first | with_reducible refine cnd_split (fun hc => ?_) (fun hc => ?_) | with_reducible refine Reqs.mk ?_ ?_)
        all_goals first | trivial | exact endM_pl
      · simp (config := { maxSteps := 4000000, implicitDefEqProofs := false }) only [F_notOk_eq, WK0, WK1, WK2, WK3, WK4, WK5, WK6, WK7, WK8, WK9, WK10, WK11, WK12, WK13, WK14, WK15, WK16, WK17, WK18, WK19, WK20, WK21, WK22, WK23, WK24, WK25, WK26, WK27, WK28, WK29, WK30, look_hit, look_miss, List.map_cons, List.map_nil, Nat.add_zero, max_v, min_v, ↓cnd_t, ↓cnd_f, ↓grd_b, ↓grd_u, startEnv, Option.map_some, List.length_nil, List.length_cons, List.nil_append, List.cons_append, List.getElem?_cons_zero, List.getElem?_cons_succ, List.set_cons_zero, List.set_cons_succ, Bool.not_true, Bool.not_false, reduceIte, Nat.reduceEqDiff, Nat.reduceAdd, Nat.reduceLT, blt_lit, beq_lit, Bool.or_true, Bool.true_or, Bool.or_false, Bool.false_or, Bool.and_true, Bool.true_and, Bool.and_self, cond_true, cond_false, List.append_nil, Iv.eta, Option.map_none, idxO_l0, idxO_l1, decide_true, decide_false, reqs_true, Int.zero_sub, wrap_lit, wrapu_lit, Int.reduceLE, Int.reduceLT, Int.reduceAdd, Int.reduceSub, Int.reduceMul, Int.reduceNeg, Int.reduceEq, Option.bind_some, bin_shr_u64, bin_shl_u64, bin_shr_i64, bin_shl_i64, and_m32', Int.reduceToNat, Int.reducePow, Int.reduceMod, Int.reduceDiv, wrap_u64s, true_or, or_true, true_and, and_true, Option.isSome_none, Option.isSome_some, Nat.reduceLeDiff, Nat.reduceMul, Int.toNat_natCast, Int.cast_ofNat_Int, Int.natCast_zero, Int.natCast_one, List.isEmpty_nil, List.isEmpty_cons, List.replicate_zero, List.replicate_succ, T1, T2, T3, T4, T5, T6, T9, T10, T11, T12, T21, T22, T23, T24, T25, T26, T27, T28, T30, T31, T32, T33, T34, T35, T36, T37, T38, T39, T40, T41, T42, T44, T45, T46, T47, T48, T49, T50, T51, T52, T53, T55, T56, T57, T58, T59, T60, T61, T63, T64, T66, T67, T68, T69, T70, T71, T72, T73, T74, T75, T76, T77, T78, T79, T80, T81, T82, T83, T84, T86, T87, T88, T89, T91, T93, T94, T95, T98, T100, T106, T107, T108, T109, T110, T112, T113, go_turn_eq, again_n, again_r, again_e]
        repeat' (first | with_reducible refine cnd_split (fun hc => ?_) (fun hc => ?_) | with_reducible refine Reqs.mk ?_ ?_)
        all_goals first | trivial | exact endM_pl
  · cases hM

-- slices.ContainsFunc
def anyW (L : List Iv) : Bool := !L.all okI
def M_containsW : MT := fun m args h => match args with
  | [.c sl, .c (.p (.fn 36))] => boolO h anyW (rowOf h sl)
  | _ => none
theorem M_containsW_eq {m : Addr → Option PC} {h : Heap} {sl : Cl} : M_containsW m [.c sl, .c (.p (.fn 36))] h = boolO h anyW (rowOf h sl) := rfl
theorem slices_ContainsFunc_containsW_ok : Mn Try.prog 35 M_containsW := by
  refine mn_of_go (O := orcM [] [⟨62, M_indexW, false, no_one, slices_IndexFunc_indexW_ok⟩]) mixed T_ok (orcM_sound _ _) Try.func35 (by kernel_rfl) rfl Try.ntmps35 (by kernel_rfl) Try.results35 ?_
  intro m args hp pre r h' hM hpre
  unfold M_containsW at hM
  split at hM
  · rename_i sl
    cases hs : rowOf hp sl with
    | none => rw [hs] at hM; cases hM
    | some L =>
      rw [hs, boolO_some] at hM
      simp only [Option.some.injEq, Prod.mk.injEq] at hM
      obtain ⟨rfl, hr, hh⟩ := hM
      subst hr hh
      refine ⟨by simp, ?_⟩
      have h1 := idxF_any L (k := 0) (by omega)
      have h2 : anyW L = !L.all okI := rfl
      simp (config := { maxSteps := 4000000, implicitDefEqProofs := false }) only [WK0, WK1, WK2, WK3, WK4, WK5, WK6, WK7, WK8, WK9, WK10, WK11, WK12, WK13, WK14, WK15, WK16, WK17, WK18, WK19, WK20, WK21, WK22, WK23, WK24, WK25, WK26, WK27, WK28, WK29, WK30, look_hit, look_miss, List.map_cons, List.map_nil, Nat.add_zero, max_v, min_v, ↓cnd_t, ↓cnd_f, ↓grd_b, ↓grd_u, startEnv, Option.map_some, List.length_nil, List.length_cons, List.nil_append, List.cons_append, List.getElem?_cons_zero, List.getElem?_cons_succ, List.set_cons_zero, List.set_cons_succ, Bool.not_true, Bool.not_false, reduceIte, Nat.reduceEqDiff, Nat.reduceAdd, Nat.reduceLT, blt_lit, beq_lit, Bool.or_true, Bool.true_or, Bool.or_false, Bool.false_or, Bool.and_true, Bool.true_and, Bool.and_self, cond_true, cond_false, List.append_nil, Iv.eta, Option.map_none, idxO_l0, idxO_l1, decide_true, decide_false, reqs_true, Int.zero_sub, wrap_lit, wrapu_lit, Int.reduceLE, Int.reduceLT, Int.reduceAdd, Int.reduceSub, Int.reduceMul, Int.reduceNeg, Int.reduceEq, Option.bind_some, bin_shr_u64, bin_shl_u64, bin_shr_i64, bin_shl_i64, and_m32', Int.reduceToNat, Int.reducePow, Int.reduceMod, Int.reduceDiv, wrap_u64s, true_or, or_true, true_and, and_true, Option.isSome_none, Option.isSome_some, Nat.reduceLeDiff, Nat.reduceMul, Int.toNat_natCast, Int.cast_ofNat_Int, Int.natCast_zero, Int.natCast_one, List.isEmpty_nil, List.isEmpty_cons, List.replicate_zero, List.replicate_succ, T1, T2, T3, T4, T5, T6, T9, T10, T11, T12, T21, T22, T23, T24, T25, T26, T27, T28, T30, T31, T32, T33, T34, T35, T36, T37, T38, T39, T40, T41, T42, T44, T45, T46, T47, T48, T49, T50, T51, T52, T53, T55, T56, T57, T58, T59, T60, T61, T63, T64, T66, T67, T68, T69, T70, T71, T72, T73, T74, T75, T76, T77, T78, T79, T80, T81, T82, T83, T84, T86, T87, T88, T89, T91, T93, T94, T95, T98, T100, T106, T107, T108, T109, T110, T112, T113, M_indexW_eq, hs, idxO'_some, h1, h2]
      repeat' (first | with_reducible refine cnd_split (fun hc => ?_) (fun hc => ?_) | with_reducible refine Reqs.mk ?_ ?_)
      all_goals first | trivial | exact endM_pl
  · cases hM

-- impl.ValidPoly
theorem impl_ValidPoly_pok_ok : Mn Try.prog 11 M_pok := by
  refine mn_of_go (O := orcM [⟨33, F_within, .inl impl_within_within_ok⟩, ⟨36, F_notOk, .inl impl_IsWhole_notOk_ok⟩] [⟨34, M_length, true, fun _ => one_length, impl_length_length_ok⟩, ⟨35, M_containsW, false, no_one, slices_ContainsFunc_containsW_ok⟩]) mixed T_ok (orcM_sound _ _) Try.func11 (by kernel_rfl) rfl Try.ntmps11 (by kernel_rfl) Try.results11 ?_
  intro m args hp pre r h' hM hpre
  unfold M_pok at hM
  split at hM
  · rename_i sl
    cases hs : rowOf hp sl with
    | none => rw [hs] at hM; cases hM
    | some L =>
      rw [hs, boolO_some] at hM
      simp only [Option.some.injEq, Prod.mk.injEq] at hM
      obtain ⟨rfl, hr, hh⟩ := hM
      subst hr hh
      refine ⟨by simp, ?_⟩
      have h2 : anyW L = !L.all okI := rfl
      have h3 : pok L = (L.all okI && within L.length 1 17) := rfl
      cases h4 : within (L.length : Int) 1 17 <;> cases h5 : L.all okI
      all_goals
        rw [h3, h4, h5]
        simp (config := { maxSteps := 4000000, implicitDefEqProofs := false }) only [F_notOk_eq, F_within_eq, WK0, WK1, WK2, WK3, WK4, WK5, WK6, WK7, WK8, WK9, WK10, WK11, WK12, WK13, WK14, WK15, WK16, WK17, WK18, WK19, WK20, WK21, WK22, WK23, WK24, WK25, WK26, WK27, WK28, WK29, WK30, look_hit, look_miss, List.map_cons, List.map_nil, Nat.add_zero, max_v, min_v, ↓cnd_t, ↓cnd_f, ↓grd_b, ↓grd_u, startEnv, Option.map_some, List.length_nil, List.length_cons, List.nil_append, List.cons_append, List.getElem?_cons_zero, List.getElem?_cons_succ, List.set_cons_zero, List.set_cons_succ, Bool.not_true, Bool.not_false, reduceIte, Nat.reduceEqDiff, Nat.reduceAdd, Nat.reduceLT, blt_lit, beq_lit, Bool.or_true, Bool.true_or, Bool.or_false, Bool.false_or, Bool.and_true, Bool.true_and, Bool.and_self, cond_true, cond_false, List.append_nil, Iv.eta, Option.map_none, idxO_l0, idxO_l1, decide_true, decide_false, reqs_true, Int.zero_sub, wrap_lit, wrapu_lit, Int.reduceLE, Int.reduceLT, Int.reduceAdd, Int.reduceSub, Int.reduceMul, Int.reduceNeg, Int.reduceEq, Option.bind_some, bin_shr_u64, bin_shl_u64, bin_shr_i64, bin_shl_i64, and_m32', Int.reduceToNat, Int.reducePow, Int.reduceMod, Int.reduceDiv, wrap_u64s, true_or, or_true, true_and, and_true, Option.isSome_none, Option.isSome_some, Nat.reduceLeDiff, Nat.reduceMul, Int.toNat_natCast, Int.cast_ofNat_Int, Int.natCast_zero, Int.natCast_one, List.isEmpty_nil, List.isEmpty_cons, List.replicate_zero, List.replicate_succ, T1, T2, T3, T4, T5, T6, T9, T10, T11, T12, T21, T22, T23, T24, T25, T26, T27, T28, T30, T31, T32, T33, T34, T35, T36, T37, T38, T39, T40, T41, T42, T44, T45, T46, T47, T48, T49, T50, T51, T52, T53, T55, T56, T57, T58, T59, T60, T61, T63, T64, T66, T67, T68, T69, T70, T71, T72, T73, T74, T75, T76, T77, T78, T79, T80, T81, T82, T83, T84, T86, T87, T88, T89, T91, T93, T94, T95, T98, T100, T106, T107, T108, T109, T110, T112, T113, M_length_eq, M_containsW_eq, hs, lenOO_some, boolO_some, h4, h2, h5]
        repeat' (first | with_reducible refine cnd_split (fun hc => ?_) (fun hc => ?_) | with_reducible refine Reqs.mk ?_ ?_)
        all_goals first | trivial | exact endM_pl
  · cases hM

-- def toS
def ivAt (m : Addr → Option PC) (a : Option Addr) (j : Nat) : Iv := match a with
  | some b => (match cellsAt m (b.add (j * 2)) 0 2 with
    | some [.int _ x, .int _ y] => ⟨x, y⟩
    | _ => ⟨0, 0⟩)
  | none => ⟨0, 0⟩
def ivsAt (m : Addr → Option PC) (a : Option Addr) (n : Nat) : List Iv := (List.range n).map (ivAt m a)
/-- Every interval of a given slice is told. -/
def ToldI (m : Addr → Option PC) (a : Option Addr) (n : Nat) : Prop := ∀ j, j < n → ∃ b x y, a = some b ∧ cellsAt m (b.add (j * 2)) 0 2 = some [.int .i64 x, .int .i64 y]
theorem ivsAt_len {m : Addr → Option PC} {a : Option Addr} {n : Nat} : (ivsAt m a n).length = n := by simp [ivsAt]
theorem ivsAt_get {m : Addr → Option PC} {a : Option Addr} {n j : Nat} (h : j < n) : (ivsAt m a n)[j]? = some (ivAt m a j) := by simp [ivsAt, h]
theorem ToldI.cells {m : Addr → Option PC} {a : Option Addr} {n j : Nat} (h : ToldI m a n) (hj : j < n) : ∃ b, a = some b ∧ cellsAt m (b.add (j * 2)) 0 2 = some [.int .i64 (ivAt m a j).lo, .int .i64 (ivAt m a j).hi] := by
  obtain ⟨b, x, y, rfl, hc⟩ := h j hj
  refine ⟨b, rfl, ?_⟩
  simp only [ivAt, hc]
def rowE (k n : Nat) : Cl := if n = 0 then .emp k 0 else .row k 0 n 2
theorem splice_cells : ∀ (L : List Iv) (j : Nat) (x y : Int), j < L.length → splice (cellsI L) (j * 2) [.int .i64 x, .int .i64 y] = cellsI (L.set j ⟨x, y⟩)
  | [], j, x, y, h => by simp at h
  | u :: r, 0, x, y, h => by simp [splice, cellsI]
  | u :: r, j + 1, x, y, h => by
    have ih := splice_cells r j x y (by simpa using h)
    have e : (j + 1) * 2 = j * 2 + 1 + 1 := by omega
    unfold splice at ih ⊢
    rw [e, List.set_cons_succ, cellsI, cellsI, ← ih]
    simp only [List.take_succ_cons, List.cons_append, List.length_cons, List.length_nil]
    rw [show j * 2 + 1 + 1 + (0 + 1 + 1) = j * 2 + (0 + 1 + 1) + 1 + 1 by omega, List.drop_succ_cons, List.drop_succ_cons]
theorem storeC_at {h : Heap} {i j : Nat} {L : List Iv} {x y : Int} (hj : j < L.length) : storeC h i (j * 2) 2 (some (cellsI L)) (some [.int .i64 x, .int .i64 y]) = some (none, h.set i (cellsI (L.set j ⟨x, y⟩))) := by
  have hl := cellsI_len L
  have h3 : Nat.ble (j * 2 + 2) (cellsI L).length = true := by rw [Nat.ble_eq]; omega
  have h4 : (cellsI L).isEmpty = false := by
    cases hL : cellsI L with
    | nil => rw [hL] at hl; simp at hl; omega
    | cons a b => rfl
  have h5 : Nat.beq [PC.int IntKind.i64 x, PC.int IntKind.i64 y].length 2 = true := rfl
  unfold storeC
  simp only [h3, h4, h5, Bool.not_false, Bool.and_self, cond_true]
  rw [splice_cells L j x y hj]
theorem mks_new {h : Heap} {n : Nat} (h0 : 0 < n) (h1 : n ≤ 1048576) : mksO h (some (tdRow [PC.int .i64 0, PC.int .i64 0])) (some (n : Int)) (some (n : Int)) = some (some (.v (.c (.row h.length 0 n 2))), h ++ [cellsI (List.replicate n ⟨0, 0⟩)]) := by
  have e : (List.replicate n [PC.int IntKind.i64 0, PC.int IntKind.i64 0]).flatten = cellsI (List.replicate n ⟨0, 0⟩) := by
    clear h0 h1
    induction n with
    | zero => rfl
    | succ n ih => rw [List.replicate_succ, List.flatten_cons, ih, List.replicate_succ, cellsI]; rfl
  simp only [mksO, row_row, row_ez, true_and]
  rw [if_pos ⟨by omega, by omega⟩, if_neg (by omega), Int.toNat_natCast, e]
  rfl
theorem mks_0 {h : Heap} : mksO h (some (tdRow [PC.int .i64 0, PC.int .i64 0])) (some 0) (some 0) = some (some (.v (.c (.emp h.length 0))), h ++ [[]]) := rfl
theorem endM_rowE {hp l : Heap} {n : Nat} {cs : List PC} : endM hp.length (.v (.c (rowE hp.length n))) (hp ++ [cs]) (hp ++ cs :: l) (some [.c (rowE hp.length n)]) := by
  refine ⟨⟨[hp.length], ?_, ?_, by simp, by simp, by simp, by simp, ?_⟩⟩
  · unfold rowE
    split <;> simp [resSV, SV.ren, AV.ren]
  · unfold rowE
    split <;> (show hp.length < hp.length + 1; omega)
  · intro j k ds hj hd hne
    cases j with
    | succ j => simp at hj
    | zero =>
      simp at hj hd
      subst hj; subst hd
      exact ⟨bx_get0, by omega⟩
def M_toS : MT := fun m args h => match args with
  | [.c (.p (.sl a n c))] => some (ToldI m a n ∧ n ≤ 1048576, .v (.c (rowE h.length n)), h ++ [cellsI (ivsAt m a n)])
  | _ => none
theorem M_toS_eq {m : Addr → Option PC} {h : Heap} {a : Option Addr} {n c : Nat} : M_toS m [.c (.p (.sl a n c))] h = some (ToldI m a n ∧ n ≤ 1048576, .v (.c (rowE h.length n)), h ++ [cellsI (ivsAt m a n)]) := rfl
theorem addZ (b : Addr) : b.add 0 = b := by cases b; simp [Addr.add]

end Go.Proofs.Ytcnapkdccjibpaa.Eng
