/- What functions of the program compute, and that the program computes it: part 22. -/
import Derived.Test.YtcnapkdccjibpaaGreatDoorTab
import Derived.Test.YtcnapkdccjibpaaGreatDoorEng16
import Derived.Laws.BitsLemmas
import Derived.Laws.Bits64
import Derived.Laws.Bits64b
import Derived.Lib.Mul64
import Derived.Lib.BitFns
import Derived.Laws.Externs
import Derived.Test.YtcnapkdccjibpaaGreatDoorL1
import Derived.Test.YtcnapkdccjibpaaGreatDoorL2
import Derived.Test.YtcnapkdccjibpaaGreatDoorL21
namespace Go.Proofs.YtcnapkdccjibpaaGreatDoor.Eng
open Go Go.RowKit
set_option linter.unusedVariables false
set_option linter.unusedSimpArgs false
set_option maxRecDepth 100000
set_option maxHeartbeats 1000000
-- boxes
/-- What a source's box and the boxes behind it do. -/
theorem setB_get {h : Heap} {i : Nat} {y : List PC} (hi : h[i]? = some y) (l : Heap) : (h ++ l)[i]? = some y := by
  rw [List.getElem?_append_left (List.getElem?_eq_some_iff.1 hi).1, hi]
theorem setB_set {h : Heap} {i : Nat} {y : List PC} (hi : h[i]? = some y) (z : List PC) (l : Heap) : (h ++ l).set i z = h.set i z ++ l := by
  rw [List.set_append_left _ _ (List.getElem?_eq_some_iff.1 hi).1]
theorem setN_set {h : Heap} {i : Nat} (x l y : List PC) (r : Heap) : (h.set i x ++ l :: r).set h.length y = h.set i x ++ y :: r := by
  rw [List.set_append_right _ _ (by simp)]
  simp
theorem endM_srcA {hp : Heap} {i : Nat} {x : List PC} {l : Heap} {a : List PC} : endM hp.length (.v (.agg a)) (hp.set i x) (hp.set i x ++ l) (some [.agg a]) :=
  endM_same rfl trivial rfl (by simp) (by simp) (by rw [List.take_append_of_le_length (by simp), List.take_of_length_le (by simp)])

-- def draws
def dL (m : Addr → Option PC) (a : Option Addr) (n : Nat) : Nat → Int → Sr → Int × Sr
  | 0, y, s => (y, s)
  | k + 1, y, s => dL m a n k (256 * y + srV m a n s) (srN m a n s)
def drawL : List Int := [0, 1, -1, 4294967296, -4294967296, 8589934592, 2147483648, 1152921504606846976, -1152921504606846976, 1152921504606846975]
def dr3 (m : Addr → Option PC) (a : Option Addr) (n : Nat) (q : Int) (s : Sr) : Int × Sr :=
  if q = 0 then (amV drawL (pkV m a n 10 s), pkN m a n 10 s)
  else if q = 1 then ((pkV m a n 400 s - 200) * 4294967296, pkN m a n 400 s)
  else if q = 2 then (pkV m a n 1000 s - 500, pkN m a n 1000 s)
  else dL m a n (3 + pkV m a n 3 (srN m a n s)).toNat (srV m a n s - 128) (pkN m a n 3 (srN m a n s))
def d03 (m : Addr → Option PC) (a : Option Addr) (n : Nat) (s : Sr) : Int × Sr := dr3 m a n (pkV m a n 8 s) (pkN m a n 8 s)
theorem dL_in {m : Addr → Option PC} {a : Option Addr} {n : Nat} : ∀ (k : Nat) {y : Int} {s : Sr} {b : Int}, k ≤ 5 → -(2 ^ (7 + 8 * (5 - k))) ≤ y → y ≤ 2 ^ (7 + 8 * (5 - k)) - 1 → SrOk m a n b s → -140737488355328 ≤ (dL m a n k y s).1 ∧ (dL m a n k y s).1 ≤ 140737488355327 ∧ SrOk m a n (b + k) (dL m a n k y s).2
  | 0, y, s, b, hk, h0, h1, hs => by
    have e : (2 : Int) ^ (7 + 8 * (5 - 0)) = 140737488355328 := by decide
    rw [e] at h0 h1
    exact ⟨h0, by simp only [dL]; omega, hs.mono (by omega)⟩
  | k + 1, y, s, b, hk, h0, h1, hs => by
    have hv := srV_in (x := s) hs.1 hs.2.2.1
    have e : (2 : Int) ^ (7 + 8 * (5 - k)) = 2 ^ (7 + 8 * (5 - (k + 1))) * 256 := by
      have e1 : 7 + 8 * (5 - k) = 7 + 8 * (5 - (k + 1)) + 8 := by omega
      rw [e1, Int.pow_add]; rfl
    have := dL_in k (y := 256 * y + srV m a n s) (by omega) (by rw [e]; omega) (by rw [e]; omega) (srN_ok hs)
    rw [dL]
    exact ⟨this.1, this.2.1, this.2.2.mono (by omega)⟩
theorem amV10 {v : Int} (h : 0 ≤ v ∧ v < 10) : -1152921504606846976 ≤ amV drawL v ∧ amV drawL v ≤ 1152921504606846976 := by
  obtain rfl | rfl | rfl | rfl | rfl | rfl | rfl | rfl | rfl | rfl : v = 0 ∨ v = 1 ∨ v = 2 ∨ v = 3 ∨ v = 4 ∨ v = 5 ∨ v = 6 ∨ v = 7 ∨ v = 8 ∨ v = 9 := by omega
  all_goals decide
theorem dr3_in {m : Addr → Option PC} {a : Option Addr} {n : Nat} {q b : Int} {s : Sr} (hs : SrOk m a n b s) : -1152921504606846976 ≤ (dr3 m a n q s).1 ∧ (dr3 m a n q s).1 ≤ 1152921504606846976 ∧ SrOk m a n (b + 10) (dr3 m a n q s).2 := by
  unfold dr3
  split
  · have hb := pkV_in (m := m) (a := a) (n := n) (k := 10) (x := s)
    have := amV10 ⟨hb.1, hb.2 (by omega)⟩
    exact ⟨this.1, this.2, (pkN_ok hs).mono (by omega)⟩
  · split
    · have hb := pkV_in (m := m) (a := a) (n := n) (k := 400) (x := s)
      have := hb.2 (by omega)
      exact ⟨by simp only; omega, by simp only; omega, (pkN_ok hs).mono (by omega)⟩
    · split
      · have hb := pkV_in (m := m) (a := a) (n := n) (k := 1000) (x := s)
        have := hb.2 (by omega)
        exact ⟨by simp only; omega, by simp only; omega, (pkN_ok hs).mono (by omega)⟩
      · have hv := srV_in (x := s) hs.1 hs.2.2.1
        have hb := pkV_in (m := m) (a := a) (n := n) (k := 3) (x := srN m a n s)
        have hb2 := hb.2 (by omega)
        have h7 : (128 : Int) ≤ 2 ^ (7 + 8 * (5 - (3 + pkV m a n 3 (srN m a n s)).toNat)) := by
          have : (2 : Nat) ^ 7 ≤ 2 ^ (7 + 8 * (5 - (3 + pkV m a n 3 (srN m a n s)).toNat)) := Nat.pow_le_pow_right (by omega) (by omega)
          exact_mod_cast this
        have := dL_in (m := m) (a := a) (n := n) (3 + pkV m a n 3 (srN m a n s)).toNat (y := srV m a n s - 128) (by omega) (by omega) (by omega) (pkN_ok (k := 3) (srN_ok hs))
        exact ⟨by omega, by omega, this.2.2.mono (by omega)⟩
theorem d03_in {m : Addr → Option PC} {a : Option Addr} {n : Nat} {b : Int} {s : Sr} (hs : SrOk m a n b s) : -1152921504606846976 ≤ (d03 m a n s).1 ∧ (d03 m a n s).1 ≤ 1152921504606846976 ∧ SrOk m a n (b + 12) (d03 m a n s).2 := by
  have := dr3_in (q := pkV m a n 8 s) (pkN_ok (k := 8) hs)
  exact ⟨this.1, this.2.1, this.2.2.mono (by omega)⟩
def d03O (m : Addr → Option PC) (h : Heap) (i : Nat) : Option (Option Addr × Nat × Nat × Sr) → Option (Prop × SV × Heap)
  | some (a, n, c, x) => some (SrOk m a n 800000000 x, .v (.c (.p (.int .i64 (d03 m a n x).1))), h.set i (srC a n c (d03 m a n x).2))
  | none => none
def M_draw3 : MT := fun m args h => match args with
  | [.c (.ptr (.own i 0))] => d03O m h i (srOf h[i]?)
  | _ => none
theorem M_draw3_eq {m : Addr → Option PC} {h : Heap} {i : Nat} : M_draw3 m [.c (.ptr (.own i 0))] h = d03O m h i (srOf h[i]?) := rfl
theorem d03O_some {m : Addr → Option PC} {h : Heap} {i : Nat} {a : Option Addr} {n c : Nat} {x : Sr} : d03O m h i (some (a, n, c, x)) = some (SrOk m a n 800000000 x, .v (.c (.p (.int .i64 (d03 m a n x).1))), h.set i (srC a n c (d03 m a n x).2)) := rfl

theorem one_draw3 : OneM M_draw3 := by
  intro m args h p r h' hM
  unfold M_draw3 at hM
  split at hM
  · rename_i i
    cases hs : srOf h[i]? with
    | none => rw [hs] at hM; cases hM
    | some t =>
      obtain ⟨a, n, c, x⟩ := t
      rw [hs] at hM
      simp only [d03O, Option.some.injEq, Prod.mk.injEq] at hM
      obtain ⟨_, _, rfl⟩ := hM
      exact ⟨_, rfl, fun j hj => by rw [List.getElem?_set_ne (Ne.symm hj)]⟩
  · cases hM

-- spec.l03Draw
theorem spec_l03Draw_draw3_ok : Mn Tryz.prog 73 M_draw3 := by
  refine mn_of_go (O := orcM [] [⟨45, M_pick, true, fun _ => one_pick, __spec_l00Src__pick_pick_ok⟩, ⟨75, M_next, true, fun _ => one_next, __spec_l00Src__next_next_ok⟩, ⟨93, M_among, true, fun _ => one_among, __spec_l00Src__among_among_ok⟩]) mixed T_ok (orcM_sound _ _) Tryz.func73 (by kernel_rfl) rfl Tryz.ntmps73 (by kernel_rfl) Tryz.results73 ?_
  intro m args hp pre r h' hM hpre
  unfold M_draw3 at hM
  split at hM
  · rename_i i
    cases hs : srOf hp[i]? with
    | none => rw [hs] at hM; cases hM
    | some t =>
      obtain ⟨a, n, c, x⟩ := t
      rw [hs, d03O_some] at hM
      simp only [Option.some.injEq, Prod.mk.injEq] at hM
      obtain ⟨rfl, hr, hh⟩ := hM
      have hi := srOf_out hs
      have hg := setAt_get hi
      have hgA := setAt_getA hi
      have hsA := setAt_setA hi
      have hN := fun x l r => @setAt_new hp i x l r
      have pr0 : SrOk m a n 900000000 x := hpre.mono (by omega)
      have ok1 := pkN_ok (k := 8) hpre
      unfold d03 dr3 at hr hh
      obtain ⟨q, hq⟩ : ∃ q, pkV m a n 8 x = q := ⟨_, rfl⟩
      obtain ⟨s1, hs1⟩ : ∃ s1, pkN m a n 8 x = s1 := ⟨_, rfl⟩
      rw [hs1] at ok1
      rw [hq, hs1] at hr hh
      have pr1 : SrOk m a n 900000000 s1 := ok1.mono (by omega)
      have pr1' : SrOk m a n 1000000000 s1 := ok1.mono (by omega)
      refine ⟨by simp, ?_⟩
      by_cases q0 : q = 0
      · have e0 : decide (q = 0) = true := by simpa using q0
        rw [if_pos q0] at hr hh
        subst hr hh
        have hQ : amQ 10 (some [PC.int .i64 0, PC.int .i64 1, PC.int .i64 (-1), PC.int .i64 4294967296, PC.int .i64 (-4294967296), PC.int .i64 8589934592, PC.int .i64 2147483648, PC.int .i64 1152921504606846976, PC.int .i64 (-1152921504606846976), PC.int .i64 1152921504606846975]) = some drawL := rfl
        have hl : ((drawL.length : Nat) : Int) = 10 := rfl
        simp (config := { maxSteps := 4000000, implicitDefEqProofs := false }) only [WK0, WK1, WK2, WK3, WK4, WK5, WK6, WK7, WK8, WK9, WK10, WK11, WK12, WK13, WK14, WK15, WK16, WK17, WK18, WK19, WK20, WK21, WK22, WK23, WK24, WK25, WK26, WK27, WK28, WK29, WK30, look_hit, look_miss, List.map_cons, List.map_nil, Nat.add_zero, max_v, min_v, ↓cnd_t, ↓cnd_f, ↓grd_b, ↓grd_u, startEnv, Option.map_some, List.length_nil, List.length_cons, List.nil_append, List.cons_append, List.getElem?_cons_zero, List.getElem?_cons_succ, List.set_cons_zero, List.set_cons_succ, Bool.not_true, Bool.not_false, reduceIte, Nat.reduceEqDiff, Nat.reduceAdd, Nat.reduceLT, blt_lit, beq_lit, Bool.or_true, Bool.true_or, Bool.or_false, Bool.false_or, Bool.and_true, Bool.true_and, Bool.and_self, cond_true, cond_false, List.append_nil, Iv.eta, Option.map_none, idxO_l0, idxO_l1, decide_true, decide_false, reqs_true, Int.zero_sub, wrap_lit, wrapu_lit, Int.reduceLE, Int.reduceLT, Int.reduceAdd, Int.reduceSub, Int.reduceMul, Int.reduceNeg, Int.reduceEq, Option.bind_some, bin_shr_u64, bin_shl_u64, bin_shr_i64, bin_shl_i64, and_m32', Int.reduceToNat, Int.reducePow, Int.reduceMod, Int.reduceDiv, wrap_u64s, true_or, or_true, true_and, and_true, Option.isSome_none, Option.isSome_some, Nat.reduceLeDiff, Nat.reduceMul, Int.toNat_natCast, Int.cast_ofNat_Int, Int.natCast_zero, Int.natCast_one, List.isEmpty_nil, List.isEmpty_cons, List.replicate_zero, List.replicate_succ, T1, T2, T3, T4, T5, T6, T9, T10, T11, T12, T21, T22, T23, T25, T26, T27, T28, T29, T30, T32, T33, T34, T35, T36, T37, T38, T39, T40, T41, T42, T43, T44, T46, T48, T50, T52, T53, T54, T55, T56, T57, T58, T59, T61, T62, T63, T64, T65, T66, T67, T68, T69, T70, T71, T72, T73, T74, T75, T76, T77, T78, T79, T80, T81, T82, T83, T84, T85, T87, T89, T91, T92, T93, T95, T96, T97, T98, T102, T103, T105, T107, T108, T109, T110, T112, T116, T120, T121, T122, T123, T124, T125, T126, T128, T130, T131, T132, T134, T135, T136, T137, T138, T140, T142, T143, T145, T146, T148, T149, T150, T152, T153, T154, T155, T156, T163, T164, T165, T166, T167, M_pick_eq, srOf_C, pkO_some, M_among_eq, amO_some, hQ, hN, hgA, hsA, hi, hg, List.length_set, List.set_set, hq, hs1, e0, hl]
        repeat' (first | with_reducible refine cnd_split (fun hc => ?_) (fun hc => ?_) | with_reducible refine Reqs.mk ?_ ?_)
        all_goals first | assumption | exact endM_src | exact ⟨pr1, by decide, by decide⟩
      · have e0 : decide (q = 0) = false := by simpa using q0
        rw [if_neg q0] at hr hh
        by_cases q1 : q = 1
        · have e1 : decide (q = 1) = true := by simpa using q1
          rw [if_pos q1] at hr hh
          subst hr hh
          have hb := pkV_in (m := m) (a := a) (n := n) (k := 400) (x := s1)
          have hb2 := hb.2 (by omega)
          have w1 : IntKind.i64.wrap (pkV m a n 400 s1 - 200) = pkV m a n 400 s1 - 200 := wrap_om (by omega) (by omega)
          have w2 : IntKind.i64.wrap ((pkV m a n 400 s1 - 200) * 4294967296) = (pkV m a n 400 s1 - 200) * 4294967296 := wrap_om (by omega) (by omega)
          simp (config := { maxSteps := 4000000, implicitDefEqProofs := false }) only [WK0, WK1, WK2, WK3, WK4, WK5, WK6, WK7, WK8, WK9, WK10, WK11, WK12, WK13, WK14, WK15, WK16, WK17, WK18, WK19, WK20, WK21, WK22, WK23, WK24, WK25, WK26, WK27, WK28, WK29, WK30, look_hit, look_miss, List.map_cons, List.map_nil, Nat.add_zero, max_v, min_v, ↓cnd_t, ↓cnd_f, ↓grd_b, ↓grd_u, startEnv, Option.map_some, List.length_nil, List.length_cons, List.nil_append, List.cons_append, List.getElem?_cons_zero, List.getElem?_cons_succ, List.set_cons_zero, List.set_cons_succ, Bool.not_true, Bool.not_false, reduceIte, Nat.reduceEqDiff, Nat.reduceAdd, Nat.reduceLT, blt_lit, beq_lit, Bool.or_true, Bool.true_or, Bool.or_false, Bool.false_or, Bool.and_true, Bool.true_and, Bool.and_self, cond_true, cond_false, List.append_nil, Iv.eta, Option.map_none, idxO_l0, idxO_l1, decide_true, decide_false, reqs_true, Int.zero_sub, wrap_lit, wrapu_lit, Int.reduceLE, Int.reduceLT, Int.reduceAdd, Int.reduceSub, Int.reduceMul, Int.reduceNeg, Int.reduceEq, Option.bind_some, bin_shr_u64, bin_shl_u64, bin_shr_i64, bin_shl_i64, and_m32', Int.reduceToNat, Int.reducePow, Int.reduceMod, Int.reduceDiv, wrap_u64s, true_or, or_true, true_and, and_true, Option.isSome_none, Option.isSome_some, Nat.reduceLeDiff, Nat.reduceMul, Int.toNat_natCast, Int.cast_ofNat_Int, Int.natCast_zero, Int.natCast_one, List.isEmpty_nil, List.isEmpty_cons, List.replicate_zero, List.replicate_succ, T1, T2, T3, T4, T5, T6, T9, T10, T11, T12, T21, T22, T23, T25, T26, T27, T28, T29, T30, T32, T33, T34, T35, T36, T37, T38, T39, T40, T41, T42, T43, T44, T46, T48, T50, T52, T53, T54, T55, T56, T57, T58, T59, T61, T62, T63, T64, T65, T66, T67, T68, T69, T70, T71, T72, T73, T74, T75, T76, T77, T78, T79, T80, T81, T82, T83, T84, T85, T87, T89, T91, T92, T93, T95, T96, T97, T98, T102, T103, T105, T107, T108, T109, T110, T112, T116, T120, T121, T122, T123, T124, T125, T126, T128, T130, T131, T132, T134, T135, T136, T137, T138, T140, T142, T143, T145, T146, T148, T149, T150, T152, T153, T154, T155, T156, T163, T164, T165, T166, T167, M_pick_eq, srOf_C, pkO_some, hi, hg, List.set_set, hq, hs1, e0, e1, w1, w2]
          repeat' (first | with_reducible refine cnd_split (fun hc => ?_) (fun hc => ?_) | with_reducible refine Reqs.mk ?_ ?_)
          all_goals first | assumption | exact endM_src0
        · have e1 : decide (q = 1) = false := by simpa using q1
          rw [if_neg q1] at hr hh
          by_cases q2 : q = 2
          · have e2 : decide (q = 2) = true := by simpa using q2
            rw [if_pos q2] at hr hh
            subst hr hh
            have hb := pkV_in (m := m) (a := a) (n := n) (k := 1000) (x := s1)
            have hb2 := hb.2 (by omega)
            have w1 : IntKind.i64.wrap (pkV m a n 1000 s1 - 500) = pkV m a n 1000 s1 - 500 := wrap_om (by omega) (by omega)
            simp (config := { maxSteps := 4000000, implicitDefEqProofs := false }) only [WK0, WK1, WK2, WK3, WK4, WK5, WK6, WK7, WK8, WK9, WK10, WK11, WK12, WK13, WK14, WK15, WK16, WK17, WK18, WK19, WK20, WK21, WK22, WK23, WK24, WK25, WK26, WK27, WK28, WK29, WK30, look_hit, look_miss, List.map_cons, List.map_nil, Nat.add_zero, max_v, min_v, ↓cnd_t, ↓cnd_f, ↓grd_b, ↓grd_u, startEnv, Option.map_some, List.length_nil, List.length_cons, List.nil_append, List.cons_append, List.getElem?_cons_zero, List.getElem?_cons_succ, List.set_cons_zero, List.set_cons_succ, Bool.not_true, Bool.not_false, reduceIte, Nat.reduceEqDiff, Nat.reduceAdd, Nat.reduceLT, blt_lit, beq_lit, Bool.or_true, Bool.true_or, Bool.or_false, Bool.false_or, Bool.and_true, Bool.true_and, Bool.and_self, cond_true, cond_false, List.append_nil, Iv.eta, Option.map_none, idxO_l0, idxO_l1, decide_true, decide_false, reqs_true, Int.zero_sub, wrap_lit, wrapu_lit, Int.reduceLE, Int.reduceLT, Int.reduceAdd, Int.reduceSub, Int.reduceMul, Int.reduceNeg, Int.reduceEq, Option.bind_some, bin_shr_u64, bin_shl_u64, bin_shr_i64, bin_shl_i64, and_m32', Int.reduceToNat, Int.reducePow, Int.reduceMod, Int.reduceDiv, wrap_u64s, true_or, or_true, true_and, and_true, Option.isSome_none, Option.isSome_some, Nat.reduceLeDiff, Nat.reduceMul, Int.toNat_natCast, Int.cast_ofNat_Int, Int.natCast_zero, Int.natCast_one, List.isEmpty_nil, List.isEmpty_cons, List.replicate_zero, List.replicate_succ, T1, T2, T3, T4, T5, T6, T9, T10, T11, T12, T21, T22, T23, T25, T26, T27, T28, T29, T30, T32, T33, T34, T35, T36, T37, T38, T39, T40, T41, T42, T43, T44, T46, T48, T50, T52, T53, T54, T55, T56, T57, T58, T59, T61, T62, T63, T64, T65, T66, T67, T68, T69, T70, T71, T72, T73, T74, T75, T76, T77, T78, T79, T80, T81, T82, T83, T84, T85, T87, T89, T91, T92, T93, T95, T96, T97, T98, T102, T103, T105, T107, T108, T109, T110, T112, T116, T120, T121, T122, T123, T124, T125, T126, T128, T130, T131, T132, T134, T135, T136, T137, T138, T140, T142, T143, T145, T146, T148, T149, T150, T152, T153, T154, T155, T156, T163, T164, T165, T166, T167, M_pick_eq, srOf_C, pkO_some, hi, hg, List.set_set, hq, hs1, e0, e1, e2, w1]
            repeat' (first | with_reducible refine cnd_split (fun hc => ?_) (fun hc => ?_) | with_reducible refine Reqs.mk ?_ ?_)
            all_goals first | assumption | exact endM_src0
          · have e2 : decide (q = 2) = false := by simpa using q2
            rw [if_neg q2] at hr hh
            have ok2 := srN_ok ok1
            have hv := srV_in (x := s1) ok1.1 ok1.2.2.1
            obtain ⟨v, hvv⟩ : ∃ v, srV m a n s1 = v := ⟨_, rfl⟩
            obtain ⟨s2, hs2⟩ : ∃ s2, srN m a n s1 = s2 := ⟨_, rfl⟩
            rw [hs2] at ok2
            rw [hvv] at hv
            rw [hvv, hs2] at hr hh
            have hb := pkV_in (m := m) (a := a) (n := n) (k := 3) (x := s2)
            have hb2 := hb.2 (by omega)
            have ok3 := pkN_ok (k := 3) ok2
            obtain ⟨w, hw⟩ : ∃ w, pkV m a n 3 s2 = w := ⟨_, rfl⟩
            obtain ⟨s3, hs3⟩ : ∃ s3, pkN m a n 3 s2 = s3 := ⟨_, rfl⟩
            rw [hs3] at ok3
            rw [hw] at hb hb2
            rw [hw, hs3] at hr hh
            have pr2 : SrOk m a n 900000000 s2 := ok2.mono (by omega)
            have w1 : IntKind.i64.wrap (v - 128) = v - 128 := wrap_om (by omega) (by omega)
            have w2 : IntKind.i64.wrap (3 + w) = 3 + w := wrap_om (by omega) (by omega)
            simp (config := { maxSteps := 4000000, implicitDefEqProofs := false }) only [WK0, WK1, WK2, WK3, WK4, WK5, WK6, WK7, WK8, WK9, WK10, WK11, WK12, WK13, WK14, WK15, WK16, WK17, WK18, WK19, WK20, WK21, WK22, WK23, WK24, WK25, WK26, WK27, WK28, WK29, WK30, look_hit, look_miss, List.map_cons, List.map_nil, Nat.add_zero, max_v, min_v, ↓cnd_t, ↓cnd_f, ↓grd_b, ↓grd_u, startEnv, Option.map_some, List.length_nil, List.length_cons, List.nil_append, List.cons_append, List.getElem?_cons_zero, List.getElem?_cons_succ, List.set_cons_zero, List.set_cons_succ, Bool.not_true, Bool.not_false, reduceIte, Nat.reduceEqDiff, Nat.reduceAdd, Nat.reduceLT, blt_lit, beq_lit, Bool.or_true, Bool.true_or, Bool.or_false, Bool.false_or, Bool.and_true, Bool.true_and, Bool.and_self, cond_true, cond_false, List.append_nil, Iv.eta, Option.map_none, idxO_l0, idxO_l1, decide_true, decide_false, reqs_true, Int.zero_sub, wrap_lit, wrapu_lit, Int.reduceLE, Int.reduceLT, Int.reduceAdd, Int.reduceSub, Int.reduceMul, Int.reduceNeg, Int.reduceEq, Option.bind_some, bin_shr_u64, bin_shl_u64, bin_shr_i64, bin_shl_i64, and_m32', Int.reduceToNat, Int.reducePow, Int.reduceMod, Int.reduceDiv, wrap_u64s, true_or, or_true, true_and, and_true, Option.isSome_none, Option.isSome_some, Nat.reduceLeDiff, Nat.reduceMul, Int.toNat_natCast, Int.cast_ofNat_Int, Int.natCast_zero, Int.natCast_one, List.isEmpty_nil, List.isEmpty_cons, List.replicate_zero, List.replicate_succ, T1, T2, T3, T4, T5, T6, T9, T10, T11, T12, T21, T22, T23, T25, T26, T27, T28, T29, T30, T32, T33, T34, T35, T36, T37, T38, T39, T40, T41, T42, T43, T44, T46, T48, T50, T52, T53, T54, T55, T56, T57, T58, T59, T61, T62, T63, T64, T65, T66, T67, T68, T69, T70, T71, T72, T73, T74, T75, T76, T77, T78, T79, T80, T81, T82, T83, T84, T85, T87, T89, T91, T92, T93, T95, T96, T97, T98, T102, T103, T105, T107, T108, T109, T110, T112, T116, T120, T121, T122, T123, T124, T125, T126, T128, T130, T131, T132, T134, T135, T136, T137, T138, T140, T142, T143, T145, T146, T148, T149, T150, T152, T153, T154, T155, T156, T163, T164, T165, T166, T167, M_pick_eq, srOf_C, pkO_some, M_next_eq, nxO_some, hi, hg, List.set_set, hq, hs1, e0, e1, e2, hvv, hs2, hw, hs3, w1, w2]
            repeat' (first | with_reducible refine cnd_split (fun hc => ?_) (fun hc => ?_) | with_reducible refine Reqs.mk ?_ ?_)
            all_goals first | assumption | skip
            have h7 : (128 : Int) ≤ 2 ^ (7 + 8 * (5 - (3 + w).toNat)) := by
              have : (2 : Nat) ^ 7 ≤ 2 ^ (7 + 8 * (5 - (3 + w).toNat)) := Nat.pow_le_pow_right (by omega) (by omega)
              exact_mod_cast this
            refine go_loop (α := Nat × Int × Sr) (fun s => s.1) (fun s e h => h = hp.set i (srC a n c s.2.2) ∧ look e 0 = some (.v (.c (.ptr (.own i 0)))) ∧ look e 3 = some (.v (.c (.p (.int .i64 s.2.1)))) ∧ look e 4 = some (.v (.c (.p (.int .i64 (s.1 : Int))))) ∧
              s.1 ≤ 5 ∧ -(2 ^ (7 + 8 * (5 - s.1))) ≤ s.2.1 ∧ s.2.1 ≤ 2 ^ (7 + 8 * (5 - s.1)) - 1 ∧ SrOk m a n (800000010 - s.1) s.2.2 ∧ dL m a n s.1 s.2.1 s.2.2 = dL m a n (3 + w).toNat (v - 128) s3) ((3 + w).toNat, v - 128, s3) ⟨rfl, rfl, rfl, ?_, by simp only; omega, by simp only; omega, by simp only; omega, ok3.mono (by simp only; omega), rfl⟩ ?_
            · have : (((3 + w).toNat : Nat) : Int) = 3 + w := by omega
              rw [this]; rfl
            rintro X ⟨k, y, s⟩ e h ⟨rfl, l0, l3, l4, hk, y0, y1, hok, hX7⟩ hX
            simp only at l3 l4 hk y0 y1 hok hX7 hX
            cases k with
            | zero =>
              have e7 : ((0 : Nat) : Int) = 0 := rfl
              rw [e7] at l4
              have hX7 : (y, s) = dL m a n (3 + w).toNat (v - 128) s3 := hX7
              rw [← hX7] at hr hh
              subst hr hh
              simp (config := { maxSteps := 4000000, implicitDefEqProofs := false }) only [WK0, WK1, WK2, WK3, WK4, WK5, WK6, WK7, WK8, WK9, WK10, WK11, WK12, WK13, WK14, WK15, WK16, WK17, WK18, WK19, WK20, WK21, WK22, WK23, WK24, WK25, WK26, WK27, WK28, WK29, WK30, look_hit, look_miss, List.map_cons, List.map_nil, Nat.add_zero, max_v, min_v, ↓cnd_t, ↓cnd_f, ↓grd_b, ↓grd_u, startEnv, Option.map_some, List.length_nil, List.length_cons, List.nil_append, List.cons_append, List.getElem?_cons_zero, List.getElem?_cons_succ, List.set_cons_zero, List.set_cons_succ, Bool.not_true, Bool.not_false, reduceIte, Nat.reduceEqDiff, Nat.reduceAdd, Nat.reduceLT, blt_lit, beq_lit, Bool.or_true, Bool.true_or, Bool.or_false, Bool.false_or, Bool.and_true, Bool.true_and, Bool.and_self, cond_true, cond_false, List.append_nil, Iv.eta, Option.map_none, idxO_l0, idxO_l1, decide_true, decide_false, reqs_true, Int.zero_sub, wrap_lit, wrapu_lit, Int.reduceLE, Int.reduceLT, Int.reduceAdd, Int.reduceSub, Int.reduceMul, Int.reduceNeg, Int.reduceEq, Option.bind_some, bin_shr_u64, bin_shl_u64, bin_shr_i64, bin_shl_i64, and_m32', Int.reduceToNat, Int.reducePow, Int.reduceMod, Int.reduceDiv, wrap_u64s, true_or, or_true, true_and, and_true, Option.isSome_none, Option.isSome_some, Nat.reduceLeDiff, Nat.reduceMul, Int.toNat_natCast, Int.cast_ofNat_Int, Int.natCast_zero, Int.natCast_one, List.isEmpty_nil, List.isEmpty_cons, List.replicate_zero, List.replicate_succ, T1, T2, T3, T4, T5, T6, T9, T10, T11, T12, T21, T22, T23, T25, T26, T27, T28, T29, T30, T32, T33, T34, T35, T36, T37, T38, T39, T40, T41, T42, T43, T44, T46, T48, T50, T52, T53, T54, T55, T56, T57, T58, T59, T61, T62, T63, T64, T65, T66, T67, T68, T69, T70, T71, T72, T73, T74, T75, T76, T77, T78, T79, T80, T81, T82, T83, T84, T85, T87, T89, T91, T92, T93, T95, T96, T97, T98, T102, T103, T105, T107, T108, T109, T110, T112, T116, T120, T121, T122, T123, T124, T125, T126, T128, T130, T131, T132, T134, T135, T136, T137, T138, T140, T142, T143, T145, T146, T148, T149, T150, T152, T153, T154, T155, T156, T163, T164, T165, T166, T167, l0, l3, l4]
              exact endM_src0
            | succ k =>
              obtain ⟨K, hK⟩ : ∃ K : Int, ((k + 1 : Nat) : Int) = K := ⟨_, rfl⟩
              rw [hK] at l4
              have c4 : decide (0 < K) = true := by simp only [decide_eq_true_eq]; omega
              have w4 : IntKind.i64.wrap (K - 1) = K - 1 := wrap_om (by omega) (by omega)
              have hK1 : K - 1 = (k : Int) := by omega
              have pr1 : SrOk m a n 1000000000 s := hok.mono (by omega)
              have hv := srV_in (x := s) pr1.1 pr1.2.2.1
              have ex : (2 : Int) ^ (7 + 8 * (5 - k)) = 2 ^ (7 + 8 * (5 - (k + 1))) * 256 := by
                have e1 : 7 + 8 * (5 - k) = 7 + 8 * (5 - (k + 1)) + 8 := by omega
                rw [e1, Int.pow_add]; rfl
              have hb : (2 : Int) ^ (7 + 8 * (5 - (k + 1))) ≤ 2 ^ 39 := by
                have : (2 : Nat) ^ (7 + 8 * (5 - (k + 1))) ≤ 2 ^ 39 := Nat.pow_le_pow_right (by omega) (by omega)
                exact_mod_cast this
              have c39 : (2 : Int) ^ 39 = 549755813888 := by decide
              rw [c39] at hb
              have ws : IntKind.i64.wrap (256 * y) = 256 * y := wrap_om (by omega) (by omega)
              have wt : IntKind.i64.wrap (256 * y + srV m a n s) = 256 * y + srV m a n s := wrap_om (by omega) (by omega)
              rw [dL] at hX7
              simp (config := { maxSteps := 4000000, implicitDefEqProofs := false }) only [WK0, WK1, WK2, WK3, WK4, WK5, WK6, WK7, WK8, WK9, WK10, WK11, WK12, WK13, WK14, WK15, WK16, WK17, WK18, WK19, WK20, WK21, WK22, WK23, WK24, WK25, WK26, WK27, WK28, WK29, WK30, look_hit, look_miss, List.map_cons, List.map_nil, Nat.add_zero, max_v, min_v, ↓cnd_t, ↓cnd_f, ↓grd_b, ↓grd_u, startEnv, Option.map_some, List.length_nil, List.length_cons, List.nil_append, List.cons_append, List.getElem?_cons_zero, List.getElem?_cons_succ, List.set_cons_zero, List.set_cons_succ, Bool.not_true, Bool.not_false, reduceIte, Nat.reduceEqDiff, Nat.reduceAdd, Nat.reduceLT, blt_lit, beq_lit, Bool.or_true, Bool.true_or, Bool.or_false, Bool.false_or, Bool.and_true, Bool.true_and, Bool.and_self, cond_true, cond_false, List.append_nil, Iv.eta, Option.map_none, idxO_l0, idxO_l1, decide_true, decide_false, reqs_true, Int.zero_sub, wrap_lit, wrapu_lit, Int.reduceLE, Int.reduceLT, Int.reduceAdd, Int.reduceSub, Int.reduceMul, Int.reduceNeg, Int.reduceEq, Option.bind_some, bin_shr_u64, bin_shl_u64, bin_shr_i64, bin_shl_i64, and_m32', Int.reduceToNat, Int.reducePow, Int.reduceMod, Int.reduceDiv, wrap_u64s, true_or, or_true, true_and, and_true, Option.isSome_none, Option.isSome_some, Nat.reduceLeDiff, Nat.reduceMul, Int.toNat_natCast, Int.cast_ofNat_Int, Int.natCast_zero, Int.natCast_one, List.isEmpty_nil, List.isEmpty_cons, List.replicate_zero, List.replicate_succ, T1, T2, T3, T4, T5, T6, T9, T10, T11, T12, T21, T22, T23, T25, T26, T27, T28, T29, T30, T32, T33, T34, T35, T36, T37, T38, T39, T40, T41, T42, T43, T44, T46, T48, T50, T52, T53, T54, T55, T56, T57, T58, T59, T61, T62, T63, T64, T65, T66, T67, T68, T69, T70, T71, T72, T73, T74, T75, T76, T77, T78, T79, T80, T81, T82, T83, T84, T85, T87, T89, T91, T92, T93, T95, T96, T97, T98, T102, T103, T105, T107, T108, T109, T110, T112, T116, T120, T121, T122, T123, T124, T125, T126, T128, T130, T131, T132, T134, T135, T136, T137, T138, T140, T142, T143, T145, T146, T148, T149, T150, T152, T153, T154, T155, T156, T163, T164, T165, T166, T167, M_next_eq, srOf_C, nxO_some, l0, l3, l4, c4, hg, List.set_set, ws, wt, w4]
              repeat' (first | with_reducible refine cnd_split (fun hc => ?_) (fun hc => ?_) | with_reducible refine Reqs.mk ?_ ?_)
              all_goals first | assumption | skip
              refine hX (k, 256 * y + srV m a n s, srN m a n s) _ _ (Nat.lt_succ_self _) ⟨rfl, ?_, ?_, ?_, by simp only; omega, by simp only; rw [ex]; omega, by simp only; rw [ex]; omega, (srN_ok hok).mono (by simp only; omega), hX7⟩
              · simp [look, l0]
              · rfl
              · rw [hK1]; rfl
  · cases hM

-- def draws4
def d4w (m : Addr → Option PC) (a : Option Addr) (n : Nat) (q : Int) (s : Sr) : Int × Sr :=
  if q = 0 then (0, s) else if q = 1 then (pkV m a n 20 s, pkN m a n 20 s) else if q = 2 then (4294967296 * (1 + pkV m a n 6 s), pkN m a n 6 s)
  else if q = 3 then (2 ^ (pkV m a n 40 s).toNat, pkN m a n 40 s) else (pkV m a n 60000 s, pkN m a n 60000 s)
def d04 (m : Addr → Option PC) (a : Option Addr) (n : Nat) (s : Sr) : Iv × Sr :=
  (mkI (d03 m a n s).1 ((d03 m a n s).1 + (d4w m a n (pkV m a n 6 (d03 m a n s).2) (pkN m a n 6 (d03 m a n s).2)).1), (d4w m a n (pkV m a n 6 (d03 m a n s).2) (pkN m a n 6 (d03 m a n s).2)).2)
theorem pow40 {v : Int} (h : 0 ≤ v ∧ v < 40) : (1 : Int) ≤ 2 ^ v.toNat ∧ (2 : Int) ^ v.toNat ≤ 549755813888 := by
  have h1 : (1 : Int) ≤ 2 ^ v.toNat := Int.pow_pos (by omega)
  have h2 : (2 : Int) ^ v.toNat ≤ 2 ^ 39 := by
    have : (2 : Nat) ^ v.toNat ≤ 2 ^ 39 := Nat.pow_le_pow_right (by omega) (by omega)
    exact_mod_cast this
  have c39 : (2 : Int) ^ 39 = 549755813888 := by decide
  rw [c39] at h2
  exact ⟨h1, h2⟩
theorem d4w_in {m : Addr → Option PC} {a : Option Addr} {n : Nat} {q b : Int} {s : Sr} (hs : SrOk m a n b s) : 0 ≤ (d4w m a n q s).1 ∧ (d4w m a n q s).1 ≤ 549755813888 ∧ SrOk m a n (b + 2) (d4w m a n q s).2 := by
  have b1 := pkV_in (m := m) (a := a) (n := n) (k := 20) (x := s)
  have b2 := pkV_in (m := m) (a := a) (n := n) (k := 6) (x := s)
  have b3 := pkV_in (m := m) (a := a) (n := n) (k := 40) (x := s)
  have b4 := pkV_in (m := m) (a := a) (n := n) (k := 60000) (x := s)
  have c1 := b1.2 (by omega)
  have c2 := b2.2 (by omega)
  have c4 := b4.2 (by omega)
  have p := pow40 ⟨b3.1, b3.2 (by omega)⟩
  unfold d4w
  split
  · exact ⟨by simp only; omega, by simp only; omega, hs.mono (by omega)⟩
  · split
    · exact ⟨by simp only; omega, by simp only; omega, pkN_ok hs⟩
    · split
      · exact ⟨by simp only; omega, by simp only; omega, pkN_ok hs⟩
      · split
        · exact ⟨by simp only; omega, by simp only; omega, pkN_ok hs⟩
        · exact ⟨by simp only; omega, by simp only; omega, pkN_ok hs⟩
theorem d04_ok {m : Addr → Option PC} {a : Option Addr} {n : Nat} {b : Int} {s : Sr} (hs : SrOk m a n b s) : SrOk m a n (b + 20) (d04 m a n s).2 :=
  (d4w_in (pkN_ok (d03_in hs).2.2)).2.2.mono (by omega)
def d04O (m : Addr → Option PC) (h : Heap) (i : Nat) : Option (Option Addr × Nat × Nat × Sr) → Option (Prop × SV × Heap)
  | some (a, n, c, x) => some (SrOk m a n 700000000 x, .v (.agg [.int .i64 (d04 m a n x).1.lo, .int .i64 (d04 m a n x).1.hi]), h.set i (srC a n c (d04 m a n x).2))
  | none => none
def M_draw4 : MT := fun m args h => match args with
  | [.c (.ptr (.own i 0))] => d04O m h i (srOf h[i]?)
  | _ => none
theorem M_draw4_eq {m : Addr → Option PC} {h : Heap} {i : Nat} : M_draw4 m [.c (.ptr (.own i 0))] h = d04O m h i (srOf h[i]?) := rfl
theorem d04O_some {m : Addr → Option PC} {h : Heap} {i : Nat} {a : Option Addr} {n c : Nat} {x : Sr} : d04O m h i (some (a, n, c, x)) = some (SrOk m a n 700000000 x, .v (.agg [.int .i64 (d04 m a n x).1.lo, .int .i64 (d04 m a n x).1.hi]), h.set i (srC a n c (d04 m a n x).2)) := rfl

theorem one_draw4 : OneM M_draw4 := by
  intro m args h p r h' hM
  unfold M_draw4 at hM
  split at hM
  · rename_i i
    cases hs : srOf h[i]? with
    | none => rw [hs] at hM; cases hM
    | some t =>
      obtain ⟨a, n, c, x⟩ := t
      rw [hs] at hM
      simp only [d04O, Option.some.injEq, Prod.mk.injEq] at hM
      obtain ⟨_, _, rfl⟩ := hM
      exact ⟨_, rfl, fun j hj => by rw [List.getElem?_set_ne (Ne.symm hj)]⟩
  · cases hM

-- spec.l04Draw
theorem spec_l04Draw_draw4_ok : Mn Tryz.prog 43 M_draw4 := by
  refine mn_of_go (O := orcM [⟨61, F_mkI, .inl spec_l04Make_mkI_ok⟩] [⟨45, M_pick, true, fun _ => one_pick, __spec_l00Src__pick_pick_ok⟩, ⟨73, M_draw3, true, fun _ => one_draw3, spec_l03Draw_draw3_ok⟩]) mixed T_ok (orcM_sound _ _) Tryz.func43 (by kernel_rfl) rfl Tryz.ntmps43 (by kernel_rfl) Tryz.results43 ?_
  intro m args hp pre r h' hM hpre
  unfold M_draw4 at hM
  split at hM
  · rename_i i
    cases hs : srOf hp[i]? with
    | none => rw [hs] at hM; cases hM
    | some t =>
      obtain ⟨a, n, c, x⟩ := t
      rw [hs, d04O_some] at hM
      simp only [Option.some.injEq, Prod.mk.injEq] at hM
      obtain ⟨rfl, hr, hh⟩ := hM
      have hi := srOf_out hs
      have hgA := setAt_getA hi
      have hsA := setAt_setA hi
      have hgB := setB_get hi
      have hsB := setB_set hi
      have hN := fun x l r => @setAt_new hp i x l r
      have hS := fun x l y r => @setN_set hp i x l y r
      have pr0 : SrOk m a n 800000000 x := hpre.mono (by omega)
      have q3 := d03_in hpre
      unfold d04 at hr hh
      obtain ⟨lo, hlo⟩ : ∃ lo, (d03 m a n x).1 = lo := ⟨_, rfl⟩
      obtain ⟨s1, hs1⟩ : ∃ s1, (d03 m a n x).2 = s1 := ⟨_, rfl⟩
      rw [hlo, hs1] at q3 hr
      rw [hs1] at hh
      obtain ⟨lo1, lo2, ok1⟩ := q3
      have ok2 := pkN_ok (k := 6) ok1
      have pr1 : SrOk m a n 900000000 s1 := ok1.mono (by omega)
      obtain ⟨q, hq⟩ : ∃ q, pkV m a n 6 s1 = q := ⟨_, rfl⟩
      obtain ⟨s2, hs2⟩ : ∃ s2, pkN m a n 6 s1 = s2 := ⟨_, rfl⟩
      rw [hs2] at ok2
      rw [hq, hs2] at hr hh
      have pr2 : SrOk m a n 900000000 s2 := ok2.mono (by omega)
      have hw := d4w_in (q := q) pr2
      obtain ⟨w, hw'⟩ : ∃ w, (d4w m a n q s2).1 = w := ⟨_, rfl⟩
      rw [hw'] at hr hw
      have ws : IntKind.i64.wrap (lo + w) = lo + w := wrap_om (by omega) (by omega)
      refine ⟨by simp, ?_⟩
      unfold d4w at hw' hh
      by_cases q0 : q = 0
      · have e0 : decide (q = 0) = true := by simpa using q0
        rw [if_pos q0] at hw' hh
        simp only at hw' hh
        obtain rfl : w = 0 := hw'.symm
        subst hr hh
        simp (config := { maxSteps := 4000000, implicitDefEqProofs := false }) only [F_mkI_eq, WK0, WK1, WK2, WK3, WK4, WK5, WK6, WK7, WK8, WK9, WK10, WK11, WK12, WK13, WK14, WK15, WK16, WK17, WK18, WK19, WK20, WK21, WK22, WK23, WK24, WK25, WK26, WK27, WK28, WK29, WK30, look_hit, look_miss, List.map_cons, List.map_nil, Nat.add_zero, max_v, min_v, ↓cnd_t, ↓cnd_f, ↓grd_b, ↓grd_u, startEnv, Option.map_some, List.length_nil, List.length_cons, List.nil_append, List.cons_append, List.getElem?_cons_zero, List.getElem?_cons_succ, List.set_cons_zero, List.set_cons_succ, Bool.not_true, Bool.not_false, reduceIte, Nat.reduceEqDiff, Nat.reduceAdd, Nat.reduceLT, blt_lit, beq_lit, Bool.or_true, Bool.true_or, Bool.or_false, Bool.false_or, Bool.and_true, Bool.true_and, Bool.and_self, cond_true, cond_false, List.append_nil, Iv.eta, Option.map_none, idxO_l0, idxO_l1, decide_true, decide_false, reqs_true, Int.zero_sub, wrap_lit, wrapu_lit, Int.reduceLE, Int.reduceLT, Int.reduceAdd, Int.reduceSub, Int.reduceMul, Int.reduceNeg, Int.reduceEq, Option.bind_some, bin_shr_u64, bin_shl_u64, bin_shr_i64, bin_shl_i64, and_m32', Int.reduceToNat, Int.reducePow, Int.reduceMod, Int.reduceDiv, wrap_u64s, true_or, or_true, true_and, and_true, Option.isSome_none, Option.isSome_some, Nat.reduceLeDiff, Nat.reduceMul, Int.toNat_natCast, Int.cast_ofNat_Int, Int.natCast_zero, Int.natCast_one, List.isEmpty_nil, List.isEmpty_cons, List.replicate_zero, List.replicate_succ, T1, T2, T3, T4, T5, T6, T9, T10, T11, T12, T21, T22, T23, T25, T26, T27, T28, T29, T30, T32, T33, T34, T35, T36, T37, T38, T39, T40, T41, T42, T43, T44, T46, T48, T50, T52, T53, T54, T55, T56, T57, T58, T59, T61, T62, T63, T64, T65, T66, T67, T68, T69, T70, T71, T72, T73, T74, T75, T76, T77, T78, T79, T80, T81, T82, T83, T84, T85, T87, T89, T91, T92, T93, T95, T96, T97, T98, T102, T103, T105, T107, T108, T109, T110, T112, T116, T120, T121, T122, T123, T124, T125, T126, T128, T130, T131, T132, T134, T135, T136, T137, T138, T140, T142, T143, T145, T146, T148, T149, T150, T152, T153, T154, T155, T156, T163, T164, T165, T166, T167, M_pick_eq, srOf_C, pkO_some, M_draw3_eq, d03O_some, hi, hgA, hsA, hgB, hsB, hN, hS, List.length_set, List.set_set, hlo, hs1, hq, hs2, e0, ws]
        repeat' (first | with_reducible refine cnd_split (fun hc => ?_) (fun hc => ?_) | with_reducible refine Reqs.mk ?_ ?_)
        all_goals first | assumption | exact endM_srcA
      · have e0 : decide (q = 0) = false := by simpa using q0
        rw [if_neg q0] at hw' hh
        by_cases q1 : q = 1
        · have e1 : decide (q = 1) = true := by simpa using q1
          rw [if_pos q1] at hw' hh
          simp only at hw' hh
          subst hr hh
          simp (config := { maxSteps := 4000000, implicitDefEqProofs := false }) only [F_mkI_eq, WK0, WK1, WK2, WK3, WK4, WK5, WK6, WK7, WK8, WK9, WK10, WK11, WK12, WK13, WK14, WK15, WK16, WK17, WK18, WK19, WK20, WK21, WK22, WK23, WK24, WK25, WK26, WK27, WK28, WK29, WK30, look_hit, look_miss, List.map_cons, List.map_nil, Nat.add_zero, max_v, min_v, ↓cnd_t, ↓cnd_f, ↓grd_b, ↓grd_u, startEnv, Option.map_some, List.length_nil, List.length_cons, List.nil_append, List.cons_append, List.getElem?_cons_zero, List.getElem?_cons_succ, List.set_cons_zero, List.set_cons_succ, Bool.not_true, Bool.not_false, reduceIte, Nat.reduceEqDiff, Nat.reduceAdd, Nat.reduceLT, blt_lit, beq_lit, Bool.or_true, Bool.true_or, Bool.or_false, Bool.false_or, Bool.and_true, Bool.true_and, Bool.and_self, cond_true, cond_false, List.append_nil, Iv.eta, Option.map_none, idxO_l0, idxO_l1, decide_true, decide_false, reqs_true, Int.zero_sub, wrap_lit, wrapu_lit, Int.reduceLE, Int.reduceLT, Int.reduceAdd, Int.reduceSub, Int.reduceMul, Int.reduceNeg, Int.reduceEq, Option.bind_some, bin_shr_u64, bin_shl_u64, bin_shr_i64, bin_shl_i64, and_m32', Int.reduceToNat, Int.reducePow, Int.reduceMod, Int.reduceDiv, wrap_u64s, true_or, or_true, true_and, and_true, Option.isSome_none, Option.isSome_some, Nat.reduceLeDiff, Nat.reduceMul, Int.toNat_natCast, Int.cast_ofNat_Int, Int.natCast_zero, Int.natCast_one, List.isEmpty_nil, List.isEmpty_cons, List.replicate_zero, List.replicate_succ, T1, T2, T3, T4, T5, T6, T9, T10, T11, T12, T21, T22, T23, T25, T26, T27, T28, T29, T30, T32, T33, T34, T35, T36, T37, T38, T39, T40, T41, T42, T43, T44, T46, T48, T50, T52, T53, T54, T55, T56, T57, T58, T59, T61, T62, T63, T64, T65, T66, T67, T68, T69, T70, T71, T72, T73, T74, T75, T76, T77, T78, T79, T80, T81, T82, T83, T84, T85, T87, T89, T91, T92, T93, T95, T96, T97, T98, T102, T103, T105, T107, T108, T109, T110, T112, T116, T120, T121, T122, T123, T124, T125, T126, T128, T130, T131, T132, T134, T135, T136, T137, T138, T140, T142, T143, T145, T146, T148, T149, T150, T152, T153, T154, T155, T156, T163, T164, T165, T166, T167, M_pick_eq, srOf_C, pkO_some, M_draw3_eq, d03O_some, hi, hgA, hsA, hgB, hsB, hN, hS, List.length_set, List.set_set, hlo, hs1, hq, hs2, e0, e1, hw', ws]
          repeat' (first | with_reducible refine cnd_split (fun hc => ?_) (fun hc => ?_) | with_reducible refine Reqs.mk ?_ ?_)
          all_goals first | assumption | exact endM_srcA
        · have e1 : decide (q = 1) = false := by simpa using q1
          rw [if_neg q1] at hw' hh
          by_cases q2 : q = 2
          · have e2 : decide (q = 2) = true := by simpa using q2
            rw [if_pos q2] at hw' hh
            simp only at hw' hh
            subst hr hh
            have b2 := pkV_in (m := m) (a := a) (n := n) (k := 6) (x := s2)
            have c2 := b2.2 (by omega)
            obtain ⟨u, hu⟩ : ∃ u, pkV m a n 6 s2 = u := ⟨_, rfl⟩
            rw [hu] at hw' b2 c2
            have w1 : IntKind.i64.wrap (1 + u) = 1 + u := wrap_om (by omega) (by omega)
            have w2 : IntKind.i64.wrap (4294967296 * (1 + u)) = w := by rw [hw']; exact wrap_om (by omega) (by omega)
            simp (config := { maxSteps := 4000000, implicitDefEqProofs := false }) only [F_mkI_eq, WK0, WK1, WK2, WK3, WK4, WK5, WK6, WK7, WK8, WK9, WK10, WK11, WK12, WK13, WK14, WK15, WK16, WK17, WK18, WK19, WK20, WK21, WK22, WK23, WK24, WK25, WK26, WK27, WK28, WK29, WK30, look_hit, look_miss, List.map_cons, List.map_nil, Nat.add_zero, max_v, min_v, ↓cnd_t, ↓cnd_f, ↓grd_b, ↓grd_u, startEnv, Option.map_some, List.length_nil, List.length_cons, List.nil_append, List.cons_append, List.getElem?_cons_zero, List.getElem?_cons_succ, List.set_cons_zero, List.set_cons_succ, Bool.not_true, Bool.not_false, reduceIte, Nat.reduceEqDiff, Nat.reduceAdd, Nat.reduceLT, blt_lit, beq_lit, Bool.or_true, Bool.true_or, Bool.or_false, Bool.false_or, Bool.and_true, Bool.true_and, Bool.and_self, cond_true, cond_false, List.append_nil, Iv.eta, Option.map_none, idxO_l0, idxO_l1, decide_true, decide_false, reqs_true, Int.zero_sub, wrap_lit, wrapu_lit, Int.reduceLE, Int.reduceLT, Int.reduceAdd, Int.reduceSub, Int.reduceMul, Int.reduceNeg, Int.reduceEq, Option.bind_some, bin_shr_u64, bin_shl_u64, bin_shr_i64, bin_shl_i64, and_m32', Int.reduceToNat, Int.reducePow, Int.reduceMod, Int.reduceDiv, wrap_u64s, true_or, or_true, true_and, and_true, Option.isSome_none, Option.isSome_some, Nat.reduceLeDiff, Nat.reduceMul, Int.toNat_natCast, Int.cast_ofNat_Int, Int.natCast_zero, Int.natCast_one, List.isEmpty_nil, List.isEmpty_cons, List.replicate_zero, List.replicate_succ, T1, T2, T3, T4, T5, T6, T9, T10, T11, T12, T21, T22, T23, T25, T26, T27, T28, T29, T30, T32, T33, T34, T35, T36, T37, T38, T39, T40, T41, T42, T43, T44, T46, T48, T50, T52, T53, T54, T55, T56, T57, T58, T59, T61, T62, T63, T64, T65, T66, T67, T68, T69, T70, T71, T72, T73, T74, T75, T76, T77, T78, T79, T80, T81, T82, T83, T84, T85, T87, T89, T91, T92, T93, T95, T96, T97, T98, T102, T103, T105, T107, T108, T109, T110, T112, T116, T120, T121, T122, T123, T124, T125, T126, T128, T130, T131, T132, T134, T135, T136, T137, T138, T140, T142, T143, T145, T146, T148, T149, T150, T152, T153, T154, T155, T156, T163, T164, T165, T166, T167, M_pick_eq, srOf_C, pkO_some, M_draw3_eq, d03O_some, hi, hgA, hsA, hgB, hsB, hN, hS, List.length_set, List.set_set, hlo, hs1, hq, hs2, e0, e1, e2, hu, w1, w2, ws]
            repeat' (first | with_reducible refine cnd_split (fun hc => ?_) (fun hc => ?_) | with_reducible refine Reqs.mk ?_ ?_)
            all_goals first | assumption | exact endM_srcA
          · have e2 : decide (q = 2) = false := by simpa using q2
            rw [if_neg q2] at hw' hh
            by_cases q3 : q = 3
            · have e3 : decide (q = 3) = true := by simpa using q3
              rw [if_pos q3] at hw' hh
              simp only at hw' hh
              subst hr hh
              have b3 := pkV_in (m := m) (a := a) (n := n) (k := 40) (x := s2)
              have c3 := b3.2 (by omega)
              obtain ⟨u, hu⟩ : ∃ u, pkV m a n 40 s2 = u := ⟨_, rfl⟩
              rw [hu] at hw' b3 c3
              have wu : u % 18446744073709551616 = u := by omega
              have b1 : decide (0 ≤ u) = true := by simpa using b3.1
              have b2 : decide (u ≤ 64) = true := by simp only [decide_eq_true_eq]; omega
              have w2 : IntKind.i64.wrap (1 * 2 ^ u.toNat) = w := by rw [Int.one_mul, hw']; exact wrap_om (by omega) (by omega)
              simp (config := { maxSteps := 4000000, implicitDefEqProofs := false }) only [F_mkI_eq, WK0, WK1, WK2, WK3, WK4, WK5, WK6, WK7, WK8, WK9, WK10, WK11, WK12, WK13, WK14, WK15, WK16, WK17, WK18, WK19, WK20, WK21, WK22, WK23, WK24, WK25, WK26, WK27, WK28, WK29, WK30, look_hit, look_miss, List.map_cons, List.map_nil, Nat.add_zero, max_v, min_v, ↓cnd_t, ↓cnd_f, ↓grd_b, ↓grd_u, startEnv, Option.map_some, List.length_nil, List.length_cons, List.nil_append, List.cons_append, List.getElem?_cons_zero, List.getElem?_cons_succ, List.set_cons_zero, List.set_cons_succ, Bool.not_true, Bool.not_false, reduceIte, Nat.reduceEqDiff, Nat.reduceAdd, Nat.reduceLT, blt_lit, beq_lit, Bool.or_true, Bool.true_or, Bool.or_false, Bool.false_or, Bool.and_true, Bool.true_and, Bool.and_self, cond_true, cond_false, List.append_nil, Iv.eta, Option.map_none, idxO_l0, idxO_l1, decide_true, decide_false, reqs_true, Int.zero_sub, wrap_lit, wrapu_lit, Int.reduceLE, Int.reduceLT, Int.reduceAdd, Int.reduceSub, Int.reduceMul, Int.reduceNeg, Int.reduceEq, Option.bind_some, bin_shr_u64, bin_shl_u64, bin_shr_i64, bin_shl_i64, and_m32', Int.reduceToNat, Int.reducePow, Int.reduceMod, Int.reduceDiv, wrap_u64s, true_or, or_true, true_and, and_true, Option.isSome_none, Option.isSome_some, Nat.reduceLeDiff, Nat.reduceMul, Int.toNat_natCast, Int.cast_ofNat_Int, Int.natCast_zero, Int.natCast_one, List.isEmpty_nil, List.isEmpty_cons, List.replicate_zero, List.replicate_succ, T1, T2, T3, T4, T5, T6, T9, T10, T11, T12, T21, T22, T23, T25, T26, T27, T28, T29, T30, T32, T33, T34, T35, T36, T37, T38, T39, T40, T41, T42, T43, T44, T46, T48, T50, T52, T53, T54, T55, T56, T57, T58, T59, T61, T62, T63, T64, T65, T66, T67, T68, T69, T70, T71, T72, T73, T74, T75, T76, T77, T78, T79, T80, T81, T82, T83, T84, T85, T87, T89, T91, T92, T93, T95, T96, T97, T98, T102, T103, T105, T107, T108, T109, T110, T112, T116, T120, T121, T122, T123, T124, T125, T126, T128, T130, T131, T132, T134, T135, T136, T137, T138, T140, T142, T143, T145, T146, T148, T149, T150, T152, T153, T154, T155, T156, T163, T164, T165, T166, T167, M_pick_eq, srOf_C, pkO_some, M_draw3_eq, d03O_some, hi, hgA, hsA, hgB, hsB, hN, hS, List.length_set, List.set_set, hlo, hs1, hq, hs2, e0, e1, e2, e3, hu, wu, b1, b2, w2, ws]
              repeat' (first | with_reducible refine cnd_split (fun hc => ?_) (fun hc => ?_) | with_reducible refine Reqs.mk ?_ ?_)
              all_goals first | assumption | exact endM_srcA
            · have e3 : decide (q = 3) = false := by simpa using q3
              rw [if_neg q3] at hw' hh
              simp only at hw' hh
              subst hr hh
              simp (config := { maxSteps := 4000000, implicitDefEqProofs := false }) only [F_mkI_eq, WK0, WK1, WK2, WK3, WK4, WK5, WK6, WK7, WK8, WK9, WK10, WK11, WK12, WK13, WK14, WK15, WK16, WK17, WK18, WK19, WK20, WK21, WK22, WK23, WK24, WK25, WK26, WK27, WK28, WK29, WK30, look_hit, look_miss, List.map_cons, List.map_nil, Nat.add_zero, max_v, min_v, ↓cnd_t, ↓cnd_f, ↓grd_b, ↓grd_u, startEnv, Option.map_some, List.length_nil, List.length_cons, List.nil_append, List.cons_append, List.getElem?_cons_zero, List.getElem?_cons_succ, List.set_cons_zero, List.set_cons_succ, Bool.not_true, Bool.not_false, reduceIte, Nat.reduceEqDiff, Nat.reduceAdd, Nat.reduceLT, blt_lit, beq_lit, Bool.or_true, Bool.true_or, Bool.or_false, Bool.false_or, Bool.and_true, Bool.true_and, Bool.and_self, cond_true, cond_false, List.append_nil, Iv.eta, Option.map_none, idxO_l0, idxO_l1, decide_true, decide_false, reqs_true, Int.zero_sub, wrap_lit, wrapu_lit, Int.reduceLE, Int.reduceLT, Int.reduceAdd, Int.reduceSub, Int.reduceMul, Int.reduceNeg, Int.reduceEq, Option.bind_some, bin_shr_u64, bin_shl_u64, bin_shr_i64, bin_shl_i64, and_m32', Int.reduceToNat, Int.reducePow, Int.reduceMod, Int.reduceDiv, wrap_u64s, true_or, or_true, true_and, and_true, Option.isSome_none, Option.isSome_some, Nat.reduceLeDiff, Nat.reduceMul, Int.toNat_natCast, Int.cast_ofNat_Int, Int.natCast_zero, Int.natCast_one, List.isEmpty_nil, List.isEmpty_cons, List.replicate_zero, List.replicate_succ, T1, T2, T3, T4, T5, T6, T9, T10, T11, T12, T21, T22, T23, T25, T26, T27, T28, T29, T30, T32, T33, T34, T35, T36, T37, T38, T39, T40, T41, T42, T43, T44, T46, T48, T50, T52, T53, T54, T55, T56, T57, T58, T59, T61, T62, T63, T64, T65, T66, T67, T68, T69, T70, T71, T72, T73, T74, T75, T76, T77, T78, T79, T80, T81, T82, T83, T84, T85, T87, T89, T91, T92, T93, T95, T96, T97, T98, T102, T103, T105, T107, T108, T109, T110, T112, T116, T120, T121, T122, T123, T124, T125, T126, T128, T130, T131, T132, T134, T135, T136, T137, T138, T140, T142, T143, T145, T146, T148, T149, T150, T152, T153, T154, T155, T156, T163, T164, T165, T166, T167, M_pick_eq, srOf_C, pkO_some, M_draw3_eq, d03O_some, hi, hgA, hsA, hgB, hsB, hN, hS, List.length_set, List.set_set, hlo, hs1, hq, hs2, e0, e1, e2, e3, hw', ws]
              repeat' (first | with_reducible refine cnd_split (fun hc => ?_) (fun hc => ?_) | with_reducible refine Reqs.mk ?_ ?_)
              all_goals first | assumption | exact endM_srcA
  · cases hM

-- def small draws
def smLo (m : Addr → Option PC) (a : Option Addr) (n : Nat) (most : Int) (s : Sr) : Int := (pkV m a n (2 * most + 1) s - most) * 4294967296 + pkV m a n 65536 (pkN m a n (2 * most + 1) s) * 65536
def smS (m : Addr → Option PC) (a : Option Addr) (n : Nat) (most : Int) (s : Sr) : Sr := pkN m a n 65536 (pkN m a n (2 * most + 1) s)
def sm4 (m : Addr → Option PC) (a : Option Addr) (n : Nat) (most : Int) (s : Sr) : Iv × Sr :=
  if pkV m a n 2 (smS m a n most s) = 0 then (⟨smLo m a n most s, smLo m a n most s⟩, pkN m a n 2 (smS m a n most s))
  else (⟨smLo m a n most s, smLo m a n most s + pkV m a n 5000 (pkN m a n 2 (smS m a n most s))⟩, pkN m a n 5000 (pkN m a n 2 (smS m a n most s)))
theorem smLo_in {m : Addr → Option PC} {a : Option Addr} {n : Nat} {most : Int} {s : Sr} (hm : 0 ≤ most ∧ most ≤ 1000) : -(most * 4294967296) ≤ smLo m a n most s ∧ smLo m a n most s ≤ most * 4294967296 + 4294901760 := by
  have b1 := pkV_in (m := m) (a := a) (n := n) (k := 2 * most + 1) (x := s)
  have b2 := pkV_in (m := m) (a := a) (n := n) (k := 65536) (x := pkN m a n (2 * most + 1) s)
  have c1 := b1.2 (by omega)
  have c2 := b2.2 (by omega)
  unfold smLo
  omega
theorem sm4_in {m : Addr → Option PC} {a : Option Addr} {n : Nat} {most b : Int} {s : Sr} (hs : SrOk m a n b s) (hm : 0 ≤ most ∧ most ≤ 1000) : okI (sm4 m a n most s).1 = true ∧ -(most * 4294967296) ≤ (sm4 m a n most s).1.lo ∧ (sm4 m a n most s).1.hi ≤ most * 4294967296 + 4294906760 ∧ (sm4 m a n most s).1.hi - (sm4 m a n most s).1.lo < 5000 ∧ SrOk m a n (b + 8) (sm4 m a n most s).2 := by
  have h := smLo_in (m := m) (a := a) (n := n) (s := s) hm
  have h1 := pkN_ok (k := 2) (pkN_ok (k := 65536) (pkN_ok (k := 2 * most + 1) hs))
  have b3 := pkV_in (m := m) (a := a) (n := n) (k := 5000) (x := pkN m a n 2 (smS m a n most s))
  have c3 := b3.2 (by omega)
  unfold sm4
  split
  · exact ⟨by rw [okI_mk]; omega, by simp only; omega, by simp only; omega, by simp only; omega, h1.mono (by omega)⟩
  · exact ⟨by rw [okI_mk]; omega, by simp only; omega, by simp only; omega, by simp only; omega, (pkN_ok h1).mono (by omega)⟩
def sm4O (m : Addr → Option PC) (h : Heap) (i : Nat) (most : Int) : Option (Option Addr × Nat × Nat × Sr) → Option (Prop × SV × Heap)
  | some (a, n, c, x) => some (SrOk m a n 700000000 x ∧ 0 ≤ most ∧ most ≤ 1000, .v (.agg [.int .i64 (sm4 m a n most x).1.lo, .int .i64 (sm4 m a n most x).1.hi]), h.set i (srC a n c (sm4 m a n most x).2))
  | none => none
def M_small : MT := fun m args h => match args with
  | [.c (.ptr (.own i 0)), .c (.p (.int .i64 most))] => sm4O m h i most (srOf h[i]?)
  | _ => none
theorem M_small_eq {m : Addr → Option PC} {h : Heap} {i : Nat} {most : Int} : M_small m [.c (.ptr (.own i 0)), .c (.p (.int .i64 most))] h = sm4O m h i most (srOf h[i]?) := rfl
theorem sm4O_some {m : Addr → Option PC} {h : Heap} {i : Nat} {most : Int} {a : Option Addr} {n c : Nat} {x : Sr} : sm4O m h i most (some (a, n, c, x)) = some (SrOk m a n 700000000 x ∧ 0 ≤ most ∧ most ≤ 1000, .v (.agg [.int .i64 (sm4 m a n most x).1.lo, .int .i64 (sm4 m a n most x).1.hi]), h.set i (srC a n c (sm4 m a n most x).2)) := rfl

theorem one_small : OneM M_small := by
  intro m args h p r h' hM
  unfold M_small at hM
  split at hM
  · rename_i i k
    cases hs : srOf h[i]? with
    | none => rw [hs] at hM; cases hM
    | some t =>
      obtain ⟨a, n, c, x⟩ := t
      rw [hs] at hM
      simp only [sm4O, Option.some.injEq, Prod.mk.injEq] at hM
      obtain ⟨_, _, rfl⟩ := hM
      exact ⟨_, rfl, fun j hj => by rw [List.getElem?_set_ne (Ne.symm hj)]⟩
  · cases hM

end Go.Proofs.YtcnapkdccjibpaaGreatDoor.Eng
