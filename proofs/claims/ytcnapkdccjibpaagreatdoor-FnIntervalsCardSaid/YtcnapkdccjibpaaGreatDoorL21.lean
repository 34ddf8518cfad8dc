/- What functions of the program compute, and that the program computes it: part 21. -/
import Derived.Test.YtcnapkdccjibpaaGreatDoorTab
import Derived.Test.YtcnapkdccjibpaaGreatDoorEng16
import Derived.Laws.BitsLemmas
import Derived.Laws.Bits64
import Derived.Laws.Bits64b
import Derived.Lib.Mul64
import Derived.Lib.BitFns
import Derived.Laws.Externs
import Derived.Test.YtcnapkdccjibpaaGreatDoorL1
import Derived.Test.YtcnapkdccjibpaaGreatDoorL7
import Derived.Test.YtcnapkdccjibpaaGreatDoorL19
namespace Go.Proofs.YtcnapkdccjibpaaGreatDoor.Eng
open Go Go.RowKit
set_option linter.unusedVariables false
set_option linter.unusedSimpArgs false
set_option maxRecDepth 100000
set_option maxHeartbeats 1000000
-- src
/-- Where a source of choices stands: how many bytes it has read, its seed. -/
structure Sr where
  p : Int
  s : Int
def srC (a : Option Addr) (n c : Nat) (x : Sr) : List PC := [.sl a n c, .int .i64 x.p, .int .u64 x.s]
def srB (m : Addr → Option PC) (a : Option Addr) (n : Nat) (x : Sr) : Int := if x.p < n then byteAt m a x.p.toNat else 0
def srS (m : Addr → Option PC) (a : Option Addr) (n : Nat) (x : Sr) : Int := (x.s * 6364136223846793005 + srB m a n x + 1442695040888963407) % 18446744073709551616
def srV (m : Addr → Option PC) (a : Option Addr) (n : Nat) (x : Sr) : Int := if x.p + 1 ≤ n then srB m a n x else srS m a n x / 1099511627776 % 256
def srN (m : Addr → Option PC) (a : Option Addr) (n : Nat) (x : Sr) : Sr := ⟨x.p + 1, srS m a n x⟩
/-- A source that is fit to be read. -/
def SrOk (m : Addr → Option PC) (a : Option Addr) (n : Nat) (b : Int) (x : Sr) : Prop := Told m a n ∧ n ≤ 1048576 ∧ 0 ≤ x.p ∧ x.p ≤ b ∧ inU x.s
theorem srB_in {m : Addr → Option PC} {a : Option Addr} {n : Nat} {x : Sr} (h : Told m a n) (h0 : 0 ≤ x.p) : 0 ≤ srB m a n x ∧ srB m a n x < 256 := by
  unfold srB
  split
  · obtain ⟨b, v, rfl, hv, v0, v1⟩ := h x.p.toNat (by omega)
    rw [byteAt_of hv]; exact ⟨v0, v1⟩
  · omega
theorem srV_in {m : Addr → Option PC} {a : Option Addr} {n : Nat} {x : Sr} (h : Told m a n) (h0 : 0 ≤ x.p) : 0 ≤ srV m a n x ∧ srV m a n x < 256 := by
  unfold srV
  split
  · exact srB_in h h0
  · omega
theorem srN_ok {m : Addr → Option PC} {a : Option Addr} {n : Nat} {b : Int} {x : Sr} (h : SrOk m a n b x) : SrOk m a n (b + 1) (srN m a n x) := by
  obtain ⟨h1, h2, h3, h4, h5⟩ := h
  refine ⟨h1, h2, by simp only [srN]; omega, by simp only [srN]; omega, ?_⟩
  simp only [srN, srS, inU]
  omega
theorem SrOk.mono {m : Addr → Option PC} {a : Option Addr} {n : Nat} {b c : Int} {x : Sr} (h : SrOk m a n b x) (hb : b ≤ c) : SrOk m a n c x := by
  obtain ⟨h1, h2, h3, h4, h5⟩ := h
  exact ⟨h1, h2, h3, by omega, h5⟩
theorem setAt_get {h : Heap} {i : Nat} {y : List PC} (hi : h[i]? = some y) (x : List PC) : (h.set i x)[i]? = some x := by
  have := (List.getElem?_eq_some_iff.1 hi).1
  rw [List.getElem?_set_self this]
theorem setAt_getA {h : Heap} {i : Nat} {y : List PC} (hi : h[i]? = some y) (x : List PC) (l : Heap) : (h.set i x ++ l)[i]? = some x := by
  have := (List.getElem?_eq_some_iff.1 hi).1
  rw [List.getElem?_append_left (by simpa using this), setAt_get hi]
theorem setAt_setA {h : Heap} {i : Nat} {y : List PC} (hi : h[i]? = some y) (x z : List PC) (l : Heap) : (h.set i x ++ l).set i z = h.set i z ++ l := by
  have := (List.getElem?_eq_some_iff.1 hi).1
  rw [List.set_append_left _ _ (by simpa using this), List.set_set]
theorem setAt_new {h : Heap} {i : Nat} (x : List PC) (l : List PC) (r : Heap) : (h.set i x ++ l :: r)[h.length]? = some l := by
  rw [List.getElem?_append_right (by simp)]
  simp
theorem endM_src {hp : Heap} {i : Nat} {x : List PC} {l : Heap} {a : PC} : endM hp.length (.v (.c (.p a))) (hp.set i x) (hp.set i x ++ l) (some [.c (.p a)]) :=
  endM_same rfl trivial rfl (by simp) (by simp) (by rw [List.take_append_of_le_length (by simp), List.take_of_length_le (by simp)])
theorem endM_src0 {hp : Heap} {i : Nat} {x : List PC} {a : PC} : endM hp.length (.v (.c (.p a))) (hp.set i x) (hp.set i x) (some [.c (.p a)]) :=
  endM_same rfl trivial rfl (by simp) (by simp) (by rw [List.take_of_length_le (by simp)])
/-- The cells of a source's box, read. -/
def srOf : Option (List PC) → Option (Option Addr × Nat × Nat × Sr)
  | some [.sl a n c, .int .i64 p, .int .u64 s] => some (a, n, c, ⟨p, s⟩)
  | _ => none
theorem srOf_out {o : Option (List PC)} {a : Option Addr} {n c : Nat} {x : Sr} (h : srOf o = some (a, n, c, x)) : o = some (srC a n c x) := by
  unfold srOf at h
  split at h
  · simp only [Option.some.injEq, Prod.mk.injEq] at h
    obtain ⟨rfl, rfl, rfl, rfl⟩ := h
    rfl
  · cases h
theorem srOf_C {a : Option Addr} {n c : Nat} {x : Sr} : srOf (some (srC a n c x)) = some (a, n, c, x) := rfl
theorem and_255' {a : Int} : (((BitVec.ofInt IntKind.u64.bits a &&& BitVec.ofInt IntKind.u64.bits 255).toNat : Nat) : Int) = a % 256 := by
  have h1 : (BitVec.ofInt IntKind.u64.bits a).toNat = (a % 18446744073709551616).toNat := by rw [bits_u64]; simp
  have h2 : (BitVec.ofInt IntKind.u64.bits 255).toNat = 255 := by rw [bits_u64]; simp
  rw [BitVec.toNat_and, h1, h2, Nat.and_two_pow_sub_one_eq_mod _ 8]
  omega
def nxO (m : Addr → Option PC) (h : Heap) (i : Nat) : Option (Option Addr × Nat × Nat × Sr) → Option (Prop × SV × Heap)
  | some (a, n, c, x) => some (SrOk m a n 1000000000 x, .v (.c (.p (.int .i64 (srV m a n x)))), h.set i (srC a n c (srN m a n x)))
  | none => none
def M_next : MT := fun m args h => match args with
  | [.c (.ptr (.own i 0))] => nxO m h i (srOf h[i]?)
  | _ => none
theorem M_next_eq {m : Addr → Option PC} {h : Heap} {i : Nat} : M_next m [.c (.ptr (.own i 0))] h = nxO m h i (srOf h[i]?) := rfl
theorem nxO_some {m : Addr → Option PC} {h : Heap} {i : Nat} {a : Option Addr} {n c : Nat} {x : Sr} : nxO m h i (some (a, n, c, x)) = some (SrOk m a n 1000000000 x, .v (.c (.p (.int .i64 (srV m a n x)))), h.set i (srC a n c (srN m a n x))) := rfl

theorem one_next : OneM M_next := by
  intro m args h p r h' hM
  unfold M_next at hM
  split at hM
  · rename_i i
    cases hs : srOf h[i]? with
    | none => rw [hs] at hM; cases hM
    | some t =>
      obtain ⟨a, n, c, x⟩ := t
      rw [hs] at hM
      simp only [nxO, Option.some.injEq, Prod.mk.injEq] at hM
      obtain ⟨_, _, rfl⟩ := hM
      exact ⟨_, rfl, fun j hj => by rw [List.getElem?_set_ne (Ne.symm hj)]⟩
  · cases hM

-- (*spec.l00Src).next
theorem __spec_l00Src__next_next_ok : Mn Tryz.prog 75 M_next := by
  refine mn_of_go (O := orc []) mixed T_ok (orc_sound _) Tryz.func75 (by kernel_rfl) rfl Tryz.ntmps75 (by kernel_rfl) Tryz.results75 ?_
  intro m args hp pre r h' hM hpre
  unfold M_next at hM
  split at hM
  · rename_i i
    cases hs : srOf hp[i]? with
    | none => rw [hs] at hM; cases hM
    | some t =>
      obtain ⟨a, n, c, x⟩ := t
      rw [hs, nxO_some] at hM
      simp only [Option.some.injEq, Prod.mk.injEq] at hM
      obtain ⟨rfl, hr, hh⟩ := hM
      have hi := srOf_out hs
      have hg := setAt_get hi
      obtain ⟨k1, k2, k3, k4, k5⟩ := hpre
      refine ⟨by simp, ?_⟩
      have hb := srB_in (x := x) k1 k3
      obtain ⟨p, s⟩ := x
      simp only at k3 k4 k5
      unfold inU at k5
      simp only [srC] at hi
      have w1 : IntKind.i64.wrap (p + 1) = p + 1 := wrap_om (by omega) (by omega)
      by_cases c1 : p < (n : Int)
      · have e1 : decide (p < (n : Int)) = true := by simpa using c1
        have e2 : decide (p + 1 ≤ (n : Int)) = true := by simp only [decide_eq_true_eq]; omega
        have j0 : decide (0 ≤ p) = true := by simpa using k3
        obtain ⟨b, v, rfl, hv, v0, v1⟩ := k1 p.toNat (by omega)
        have wv : IntKind.i64.wrap v = v := wrap_om (by omega) (by omega)
        have hB : srB m (some b) n ⟨p, s⟩ = v := by unfold srB; rw [if_pos c1, byteAt_of hv]
        simp (config := { maxSteps := 4000000, implicitDefEqProofs := false }) only [WK0, WK1, WK2, WK3, WK4, WK5, WK6, WK7, WK8, WK9, WK10, WK11, WK12, WK13, WK14, WK15, WK16, WK17, WK18, WK19, WK20, WK21, WK22, WK23, WK24, WK25, WK26, WK27, WK28, WK29, WK30, look_hit, look_miss, List.map_cons, List.map_nil, Nat.add_zero, max_v, min_v, ↓cnd_t, ↓cnd_f, ↓grd_b, ↓grd_u, startEnv, Option.map_some, List.length_nil, List.length_cons, List.nil_append, List.cons_append, List.getElem?_cons_zero, List.getElem?_cons_succ, List.set_cons_zero, List.set_cons_succ, Bool.not_true, Bool.not_false, reduceIte, Nat.reduceEqDiff, Nat.reduceAdd, Nat.reduceLT, blt_lit, beq_lit, Bool.or_true, Bool.true_or, Bool.or_false, Bool.false_or, Bool.and_true, Bool.true_and, Bool.and_self, cond_true, cond_false, List.append_nil, Iv.eta, Option.map_none, idxO_l0, idxO_l1, decide_true, decide_false, reqs_true, Int.zero_sub, wrap_lit, wrapu_lit, Int.reduceLE, Int.reduceLT, Int.reduceAdd, Int.reduceSub, Int.reduceMul, Int.reduceNeg, Int.reduceEq, Option.bind_some, bin_shr_u64, bin_shl_u64, bin_shr_i64, bin_shl_i64, and_m32', Int.reduceToNat, Int.reducePow, Int.reduceMod, Int.reduceDiv, wrap_u64s, true_or, or_true, true_and, and_true, Option.isSome_none, Option.isSome_some, Nat.reduceLeDiff, Nat.reduceMul, Int.toNat_natCast, Int.cast_ofNat_Int, Int.natCast_zero, Int.natCast_one, List.isEmpty_nil, List.isEmpty_cons, List.replicate_zero, List.replicate_succ, T1, T2, T3, T4, T5, T6, T9, T10, T11, T12, T21, T22, T23, T25, T26, T27, T28, T29, T30, T32, T33, T34, T35, T36, T37, T38, T39, T40, T41, T42, T43, T44, T46, T48, T50, T52, T53, T54, T55, T56, T57, T58, T59, T61, T62, T63, T64, T65, T66, T67, T68, T69, T70, T71, T72, T73, T74, T75, T76, T77, T78, T79, T80, T81, T82, T83, T84, T85, T87, T89, T91, T92, T93, T95, T96, T97, T98, T102, T103, T105, T107, T108, T109, T110, T112, T116, T120, T121, T122, T123, T124, T125, T126, T128, T130, T131, T132, T134, T135, T136, T137, T138, T140, T142, T143, T145, T146, T148, T149, T150, T152, T153, T154, T155, T156, T163, T164, T165, T166, T167, hi, hg, w1, List.set_set, e1, e2, j0, hv, wv, Nat.mul_one, Nat.zero_add]
        subst hh
        rw [srV, if_pos (by simp only; omega), hB] at hr
        rw [srN, srC, srS, hB, ← hr]
        have : (((s * 6364136223846793005 % 18446744073709551616 + v % 18446744073709551616) % 18446744073709551616 + 1442695040888963407) % 18446744073709551616) = (s * 6364136223846793005 + v + 1442695040888963407) % 18446744073709551616 := by omega
        simp only [this]
        exact endM_src0
      · have e1 : decide (p < (n : Int)) = false := by simpa using c1
        have e2 : decide (p + 1 ≤ (n : Int)) = false := by simp only [decide_eq_false_iff_not]; omega
        have hB : srB m a n ⟨p, s⟩ = 0 := by unfold srB; rw [if_neg c1]
        simp (config := { maxSteps := 4000000, implicitDefEqProofs := false }) only [WK0, WK1, WK2, WK3, WK4, WK5, WK6, WK7, WK8, WK9, WK10, WK11, WK12, WK13, WK14, WK15, WK16, WK17, WK18, WK19, WK20, WK21, WK22, WK23, WK24, WK25, WK26, WK27, WK28, WK29, WK30, look_hit, look_miss, List.map_cons, List.map_nil, Nat.add_zero, max_v, min_v, ↓cnd_t, ↓cnd_f, ↓grd_b, ↓grd_u, startEnv, Option.map_some, List.length_nil, List.length_cons, List.nil_append, List.cons_append, List.getElem?_cons_zero, List.getElem?_cons_succ, List.set_cons_zero, List.set_cons_succ, Bool.not_true, Bool.not_false, reduceIte, Nat.reduceEqDiff, Nat.reduceAdd, Nat.reduceLT, blt_lit, beq_lit, Bool.or_true, Bool.true_or, Bool.or_false, Bool.false_or, Bool.and_true, Bool.true_and, Bool.and_self, cond_true, cond_false, List.append_nil, Iv.eta, Option.map_none, idxO_l0, idxO_l1, decide_true, decide_false, reqs_true, Int.zero_sub, wrap_lit, wrapu_lit, Int.reduceLE, Int.reduceLT, Int.reduceAdd, Int.reduceSub, Int.reduceMul, Int.reduceNeg, Int.reduceEq, Option.bind_some, bin_shr_u64, bin_shl_u64, bin_shr_i64, bin_shl_i64, and_m32', Int.reduceToNat, Int.reducePow, Int.reduceMod, Int.reduceDiv, wrap_u64s, true_or, or_true, true_and, and_true, Option.isSome_none, Option.isSome_some, Nat.reduceLeDiff, Nat.reduceMul, Int.toNat_natCast, Int.cast_ofNat_Int, Int.natCast_zero, Int.natCast_one, List.isEmpty_nil, List.isEmpty_cons, List.replicate_zero, List.replicate_succ, T1, T2, T3, T4, T5, T6, T9, T10, T11, T12, T21, T22, T23, T25, T26, T27, T28, T29, T30, T32, T33, T34, T35, T36, T37, T38, T39, T40, T41, T42, T43, T44, T46, T48, T50, T52, T53, T54, T55, T56, T57, T58, T59, T61, T62, T63, T64, T65, T66, T67, T68, T69, T70, T71, T72, T73, T74, T75, T76, T77, T78, T79, T80, T81, T82, T83, T84, T85, T87, T89, T91, T92, T93, T95, T96, T97, T98, T102, T103, T105, T107, T108, T109, T110, T112, T116, T120, T121, T122, T123, T124, T125, T126, T128, T130, T131, T132, T134, T135, T136, T137, T138, T140, T142, T143, T145, T146, T148, T149, T150, T152, T153, T154, T155, T156, T163, T164, T165, T166, T167, hi, hg, w1, List.set_set, e1, e2, and_255']
        subst hh
        rw [srV, if_neg (by simp only; omega), srS, hB] at hr
        rw [srN, srC, srS, hB, ← hr]
        have e3 : (((s * 6364136223846793005 % 18446744073709551616 + 0) % 18446744073709551616 + 1442695040888963407) % 18446744073709551616) = (s * 6364136223846793005 + 0 + 1442695040888963407) % 18446744073709551616 := by omega
        simp only [e3]
        obtain ⟨z, hz⟩ : ∃ z, (s * 6364136223846793005 + 0 + 1442695040888963407) % 18446744073709551616 = z := ⟨_, rfl⟩
        simp only [hz]
        obtain ⟨y, hy⟩ : ∃ y, z / 1099511627776 % 256 = y := ⟨_, rfl⟩
        have hy' : 0 ≤ y ∧ y < 256 := by rw [← hy]; exact ⟨Int.emod_nonneg _ (by decide), Int.emod_lt_of_pos _ (by decide)⟩
        have e4 : y % 18446744073709551616 = y := by clear hy hz e3; omega
        have e5 : IntKind.i64.wrap y = y := wrap_om (by omega) (by omega)
        simp only [hy, e4, e5]
        exact endM_src0
  · cases hM

-- def pick
def pkV (m : Addr → Option PC) (a : Option Addr) (n : Nat) (k : Int) (x : Sr) : Int := if k ≤ 1 then 0 else if 200 < k then (srV m a n x * 256 + srV m a n (srN m a n x)) % k else srV m a n x % k
def pkN (m : Addr → Option PC) (a : Option Addr) (n : Nat) (k : Int) (x : Sr) : Sr := if k ≤ 1 then x else if 200 < k then srN m a n (srN m a n x) else srN m a n x
theorem pkV_in {m : Addr → Option PC} {a : Option Addr} {n : Nat} {k : Int} {x : Sr} : 0 ≤ pkV m a n k x ∧ (1 ≤ k → pkV m a n k x < k) := by
  unfold pkV
  split
  · omega
  · split
    · exact ⟨Int.emod_nonneg _ (by omega), fun _ => Int.emod_lt_of_pos _ (by omega)⟩
    · exact ⟨Int.emod_nonneg _ (by omega), fun _ => Int.emod_lt_of_pos _ (by omega)⟩
theorem pkN_ok {m : Addr → Option PC} {a : Option Addr} {n : Nat} {b k : Int} {x : Sr} (h : SrOk m a n b x) : SrOk m a n (b + 2) (pkN m a n k x) := by
  unfold pkN
  split
  · exact h.mono (by omega)
  · split
    · exact (srN_ok (srN_ok h)).mono (by omega)
    · exact (srN_ok h).mono (by omega)
def pkO (m : Addr → Option PC) (h : Heap) (i : Nat) (k : Int) : Option (Option Addr × Nat × Nat × Sr) → Option (Prop × SV × Heap)
  | some (a, n, c, x) => some (SrOk m a n 900000000 x, .v (.c (.p (.int .i64 (pkV m a n k x)))), h.set i (srC a n c (pkN m a n k x)))
  | none => none
def M_pick : MT := fun m args h => match args with
  | [.c (.ptr (.own i 0)), .c (.p (.int .i64 k))] => pkO m h i k (srOf h[i]?)
  | _ => none
theorem M_pick_eq {m : Addr → Option PC} {h : Heap} {i : Nat} {k : Int} : M_pick m [.c (.ptr (.own i 0)), .c (.p (.int .i64 k))] h = pkO m h i k (srOf h[i]?) := rfl
theorem pkO_some {m : Addr → Option PC} {h : Heap} {i : Nat} {k : Int} {a : Option Addr} {n c : Nat} {x : Sr} : pkO m h i k (some (a, n, c, x)) = some (SrOk m a n 900000000 x, .v (.c (.p (.int .i64 (pkV m a n k x)))), h.set i (srC a n c (pkN m a n k x))) := rfl
theorem set_same {h : Heap} {i : Nat} {y : List PC} (hi : h[i]? = some y) : h.set i y = h := by
  obtain ⟨h1, h2⟩ := List.getElem?_eq_some_iff.1 hi
  rw [← h2, List.set_getElem_self]

theorem one_pick : OneM M_pick := by
  intro m args h p r h' hM
  unfold M_pick at hM
  split at hM
  · rename_i i k
    cases hs : srOf h[i]? with
    | none => rw [hs] at hM; cases hM
    | some t =>
      obtain ⟨a, n, c, x⟩ := t
      rw [hs] at hM
      simp only [pkO, Option.some.injEq, Prod.mk.injEq] at hM
      obtain ⟨_, _, rfl⟩ := hM
      exact ⟨_, rfl, fun j hj => by rw [List.getElem?_set_ne (Ne.symm hj)]⟩
  · cases hM

-- (*spec.l00Src).pick
theorem __spec_l00Src__pick_pick_ok : Mn Tryz.prog 45 M_pick := by
  refine mn_of_go (O := orcM [] [⟨75, M_next, true, fun _ => one_next, __spec_l00Src__next_next_ok⟩]) mixed T_ok (orcM_sound _ _) Tryz.func45 (by kernel_rfl) rfl Tryz.ntmps45 (by kernel_rfl) Tryz.results45 ?_
  intro m args hp pre r h' hM hpre
  unfold M_pick at hM
  split at hM
  · rename_i i k
    cases hs : srOf hp[i]? with
    | none => rw [hs] at hM; cases hM
    | some t =>
      obtain ⟨a, n, c, x⟩ := t
      rw [hs, pkO_some] at hM
      simp only [Option.some.injEq, Prod.mk.injEq] at hM
      obtain ⟨rfl, hr, hh⟩ := hM
      have hi := srOf_out hs
      have hg := setAt_get hi
      refine ⟨by simp, ?_⟩
      have v1 := srV_in (x := x) hpre.1 hpre.2.2.1
      have ok2 := srN_ok hpre
      have v2 := srV_in (x := srN m a n x) hpre.1 ok2.2.2.1
      have p1 : SrOk m a n 1000000000 x := hpre.mono (by omega)
      have p2 : SrOk m a n 1000000000 (srN m a n x) := ok2.mono (by omega)
      by_cases c1 : k ≤ 1
      · have e1 : decide (k ≤ 1) = true := by simpa using c1
        simp (config := { maxSteps := 4000000, implicitDefEqProofs := false }) only [WK0, WK1, WK2, WK3, WK4, WK5, WK6, WK7, WK8, WK9, WK10, WK11, WK12, WK13, WK14, WK15, WK16, WK17, WK18, WK19, WK20, WK21, WK22, WK23, WK24, WK25, WK26, WK27, WK28, WK29, WK30, look_hit, look_miss, List.map_cons, List.map_nil, Nat.add_zero, max_v, min_v, ↓cnd_t, ↓cnd_f, ↓grd_b, ↓grd_u, startEnv, Option.map_some, List.length_nil, List.length_cons, List.nil_append, List.cons_append, List.getElem?_cons_zero, List.getElem?_cons_succ, List.set_cons_zero, List.set_cons_succ, Bool.not_true, Bool.not_false, reduceIte, Nat.reduceEqDiff, Nat.reduceAdd, Nat.reduceLT, blt_lit, beq_lit, Bool.or_true, Bool.true_or, Bool.or_false, Bool.false_or, Bool.and_true, Bool.true_and, Bool.and_self, cond_true, cond_false, List.append_nil, Iv.eta, Option.map_none, idxO_l0, idxO_l1, decide_true, decide_false, reqs_true, Int.zero_sub, wrap_lit, wrapu_lit, Int.reduceLE, Int.reduceLT, Int.reduceAdd, Int.reduceSub, Int.reduceMul, Int.reduceNeg, Int.reduceEq, Option.bind_some, bin_shr_u64, bin_shl_u64, bin_shr_i64, bin_shl_i64, and_m32', Int.reduceToNat, Int.reducePow, Int.reduceMod, Int.reduceDiv, wrap_u64s, true_or, or_true, true_and, and_true, Option.isSome_none, Option.isSome_some, Nat.reduceLeDiff, Nat.reduceMul, Int.toNat_natCast, Int.cast_ofNat_Int, Int.natCast_zero, Int.natCast_one, List.isEmpty_nil, List.isEmpty_cons, List.replicate_zero, List.replicate_succ, T1, T2, T3, T4, T5, T6, T9, T10, T11, T12, T21, T22, T23, T25, T26, T27, T28, T29, T30, T32, T33, T34, T35, T36, T37, T38, T39, T40, T41, T42, T43, T44, T46, T48, T50, T52, T53, T54, T55, T56, T57, T58, T59, T61, T62, T63, T64, T65, T66, T67, T68, T69, T70, T71, T72, T73, T74, T75, T76, T77, T78, T79, T80, T81, T82, T83, T84, T85, T87, T89, T91, T92, T93, T95, T96, T97, T98, T102, T103, T105, T107, T108, T109, T110, T112, T116, T120, T121, T122, T123, T124, T125, T126, T128, T130, T131, T132, T134, T135, T136, T137, T138, T140, T142, T143, T145, T146, T148, T149, T150, T152, T153, T154, T155, T156, T163, T164, T165, T166, T167, hi, hg, e1]
        have h1 : pkV m a n k x = 0 := by unfold pkV; rw [if_pos c1]
        have h2 : pkN m a n k x = x := by unfold pkN; rw [if_pos c1]
        rw [h1] at hr
        rw [h2, set_same hi] at hh
        subst hh
        rw [← hr]
        exact endM_same rfl trivial rfl rfl (Nat.le_refl _) List.take_length
      · have e1 : decide (k ≤ 1) = false := by simpa using c1
        have hk : decide (k = 0) = false := by simp only [decide_eq_false_iff_not]; omega
        by_cases c2 : 200 < k
        · have e2 : decide (200 < k) = true := by simpa using c2
          have w1 : IntKind.i64.wrap (srV m a n x * 256) = srV m a n x * 256 := wrap_om (by omega) (by omega)
          have w2 : IntKind.i64.wrap (srV m a n x * 256 + srV m a n (srN m a n x)) = srV m a n x * 256 + srV m a n (srN m a n x) := wrap_om (by omega) (by omega)
          simp (config := { maxSteps := 4000000, implicitDefEqProofs := false }) only [WK0, WK1, WK2, WK3, WK4, WK5, WK6, WK7, WK8, WK9, WK10, WK11, WK12, WK13, WK14, WK15, WK16, WK17, WK18, WK19, WK20, WK21, WK22, WK23, WK24, WK25, WK26, WK27, WK28, WK29, WK30, look_hit, look_miss, List.map_cons, List.map_nil, Nat.add_zero, max_v, min_v, ↓cnd_t, ↓cnd_f, ↓grd_b, ↓grd_u, startEnv, Option.map_some, List.length_nil, List.length_cons, List.nil_append, List.cons_append, List.getElem?_cons_zero, List.getElem?_cons_succ, List.set_cons_zero, List.set_cons_succ, Bool.not_true, Bool.not_false, reduceIte, Nat.reduceEqDiff, Nat.reduceAdd, Nat.reduceLT, blt_lit, beq_lit, Bool.or_true, Bool.true_or, Bool.or_false, Bool.false_or, Bool.and_true, Bool.true_and, Bool.and_self, cond_true, cond_false, List.append_nil, Iv.eta, Option.map_none, idxO_l0, idxO_l1, decide_true, decide_false, reqs_true, Int.zero_sub, wrap_lit, wrapu_lit, Int.reduceLE, Int.reduceLT, Int.reduceAdd, Int.reduceSub, Int.reduceMul, Int.reduceNeg, Int.reduceEq, Option.bind_some, bin_shr_u64, bin_shl_u64, bin_shr_i64, bin_shl_i64, and_m32', Int.reduceToNat, Int.reducePow, Int.reduceMod, Int.reduceDiv, wrap_u64s, true_or, or_true, true_and, and_true, Option.isSome_none, Option.isSome_some, Nat.reduceLeDiff, Nat.reduceMul, Int.toNat_natCast, Int.cast_ofNat_Int, Int.natCast_zero, Int.natCast_one, List.isEmpty_nil, List.isEmpty_cons, List.replicate_zero, List.replicate_succ, T1, T2, T3, T4, T5, T6, T9, T10, T11, T12, T21, T22, T23, T25, T26, T27, T28, T29, T30, T32, T33, T34, T35, T36, T37, T38, T39, T40, T41, T42, T43, T44, T46, T48, T50, T52, T53, T54, T55, T56, T57, T58, T59, T61, T62, T63, T64, T65, T66, T67, T68, T69, T70, T71, T72, T73, T74, T75, T76, T77, T78, T79, T80, T81, T82, T83, T84, T85, T87, T89, T91, T92, T93, T95, T96, T97, T98, T102, T103, T105, T107, T108, T109, T110, T112, T116, T120, T121, T122, T123, T124, T125, T126, T128, T130, T131, T132, T134, T135, T136, T137, T138, T140, T142, T143, T145, T146, T148, T149, T150, T152, T153, T154, T155, T156, T163, T164, T165, T166, T167, M_next_eq, srOf_C, nxO_some, hi, hg, e1, e2, bin_rem_c, hk, w1, w2, List.set_set]
          have h1 : pkV m a n k x = (srV m a n x * 256 + srV m a n (srN m a n x)) % k := by unfold pkV; rw [if_neg c1, if_pos c2]
          have h2 : pkN m a n k x = srN m a n (srN m a n x) := by unfold pkN; rw [if_neg c1, if_pos c2]
          rw [h1, ← Int.tmod_eq_emod_of_nonneg (by omega)] at hr
          rw [h2] at hh
          subst hh
          rw [← hr]
          repeat' (first | with_reducible refine cnd_split (fun hc => ?_) (fun hc => ?_) | with_reducible refine Reqs.mk ?_ ?_)
          all_goals first | assumption | exact endM_src0
        · have e2 : decide (200 < k) = false := by simpa using c2
          simp (config := { maxSteps := 4000000, implicitDefEqProofs := false }) only [WK0, WK1, WK2, WK3, WK4, WK5, WK6, WK7, WK8, WK9, WK10, WK11, WK12, WK13, WK14, WK15, WK16, WK17, WK18, WK19, WK20, WK21, WK22, WK23, WK24, WK25, WK26, WK27, WK28, WK29, WK30, look_hit, look_miss, List.map_cons, List.map_nil, Nat.add_zero, max_v, min_v, ↓cnd_t, ↓cnd_f, ↓grd_b, ↓grd_u, startEnv, Option.map_some, List.length_nil, List.length_cons, List.nil_append, List.cons_append, List.getElem?_cons_zero, List.getElem?_cons_succ, List.set_cons_zero, List.set_cons_succ, Bool.not_true, Bool.not_false, reduceIte, Nat.reduceEqDiff, Nat.reduceAdd, Nat.reduceLT, blt_lit, beq_lit, Bool.or_true, Bool.true_or, Bool.or_false, Bool.false_or, Bool.and_true, Bool.true_and, Bool.and_self, cond_true, cond_false, List.append_nil, Iv.eta, Option.map_none, idxO_l0, idxO_l1, decide_true, decide_false, reqs_true, Int.zero_sub, wrap_lit, wrapu_lit, Int.reduceLE, Int.reduceLT, Int.reduceAdd, Int.reduceSub, Int.reduceMul, Int.reduceNeg, Int.reduceEq, Option.bind_some, bin_shr_u64, bin_shl_u64, bin_shr_i64, bin_shl_i64, and_m32', Int.reduceToNat, Int.reducePow, Int.reduceMod, Int.reduceDiv, wrap_u64s, true_or, or_true, true_and, and_true, Option.isSome_none, Option.isSome_some, Nat.reduceLeDiff, Nat.reduceMul, Int.toNat_natCast, Int.cast_ofNat_Int, Int.natCast_zero, Int.natCast_one, List.isEmpty_nil, List.isEmpty_cons, List.replicate_zero, List.replicate_succ, T1, T2, T3, T4, T5, T6, T9, T10, T11, T12, T21, T22, T23, T25, T26, T27, T28, T29, T30, T32, T33, T34, T35, T36, T37, T38, T39, T40, T41, T42, T43, T44, T46, T48, T50, T52, T53, T54, T55, T56, T57, T58, T59, T61, T62, T63, T64, T65, T66, T67, T68, T69, T70, T71, T72, T73, T74, T75, T76, T77, T78, T79, T80, T81, T82, T83, T84, T85, T87, T89, T91, T92, T93, T95, T96, T97, T98, T102, T103, T105, T107, T108, T109, T110, T112, T116, T120, T121, T122, T123, T124, T125, T126, T128, T130, T131, T132, T134, T135, T136, T137, T138, T140, T142, T143, T145, T146, T148, T149, T150, T152, T153, T154, T155, T156, T163, T164, T165, T166, T167, M_next_eq, srOf_C, nxO_some, hi, hg, e1, e2, bin_rem_c, hk, List.set_set]
          have h1 : pkV m a n k x = srV m a n x % k := by unfold pkV; rw [if_neg c1, if_neg c2]
          have h2 : pkN m a n k x = srN m a n x := by unfold pkN; rw [if_neg c1, if_neg c2]
          rw [h1, ← Int.tmod_eq_emod_of_nonneg (by omega)] at hr
          rw [h2] at hh
          subst hh
          rw [← hr]
          repeat' (first | with_reducible refine cnd_split (fun hc => ?_) (fun hc => ?_) | with_reducible refine Reqs.mk ?_ ?_)
          all_goals first | assumption | exact endM_src0
  · cases hM

-- (*spec.l00Src).one
def oneO (m : Addr → Option PC) (h : Heap) (i : Nat) (k : Int) : Option (Option Addr × Nat × Nat × Sr) → Option (Prop × SV × Heap)
  | some (a, n, c, x) => some (SrOk m a n 900000000 x, .v (.c (.p (.bool (decide (pkV m a n k x = 0))))), h.set i (srC a n c (pkN m a n k x)))
  | none => none
def M_one : MT := fun m args h => match args with
  | [.c (.ptr (.own i 0)), .c (.p (.int .i64 k))] => oneO m h i k (srOf h[i]?)
  | _ => none
theorem M_one_eq {m : Addr → Option PC} {h : Heap} {i : Nat} {k : Int} : M_one m [.c (.ptr (.own i 0)), .c (.p (.int .i64 k))] h = oneO m h i k (srOf h[i]?) := rfl
theorem oneO_some {m : Addr → Option PC} {h : Heap} {i : Nat} {k : Int} {a : Option Addr} {n c : Nat} {x : Sr} : oneO m h i k (some (a, n, c, x)) = some (SrOk m a n 900000000 x, .v (.c (.p (.bool (decide (pkV m a n k x = 0))))), h.set i (srC a n c (pkN m a n k x))) := rfl
theorem one_one : OneM M_one := by
  intro m args h p r h' hM
  unfold M_one at hM
  split at hM
  · rename_i i k
    cases hs : srOf h[i]? with
    | none => rw [hs] at hM; cases hM
    | some t =>
      obtain ⟨a, n, c, x⟩ := t
      rw [hs] at hM
      simp only [oneO, Option.some.injEq, Prod.mk.injEq] at hM
      obtain ⟨_, _, rfl⟩ := hM
      exact ⟨_, rfl, fun j hj => by rw [List.getElem?_set_ne (Ne.symm hj)]⟩
  · cases hM
theorem __spec_l00Src__one_one_ok : Mn Tryz.prog 74 M_one := by
  refine mn_of_go (O := orcM [] [⟨45, M_pick, true, fun _ => one_pick, __spec_l00Src__pick_pick_ok⟩]) mixed T_ok (orcM_sound _ _) Tryz.func74 (by kernel_rfl) rfl Tryz.ntmps74 (by kernel_rfl) Tryz.results74 ?_
  intro m args hp pre r h' hM hpre
  unfold M_one at hM
  split at hM
  · rename_i i k
    cases hs : srOf hp[i]? with
    | none => rw [hs] at hM; cases hM
    | some t =>
      obtain ⟨a, n, c, x⟩ := t
      rw [hs, oneO_some] at hM
      simp only [Option.some.injEq, Prod.mk.injEq] at hM
      obtain ⟨rfl, hr, hh⟩ := hM
      have hi := srOf_out hs
      have hg := setAt_get hi
      refine ⟨by simp, ?_⟩
      simp (config := { maxSteps := 4000000, implicitDefEqProofs := false }) only [WK0, WK1, WK2, WK3, WK4, WK5, WK6, WK7, WK8, WK9, WK10, WK11, WK12, WK13, WK14, WK15, WK16, WK17, WK18, WK19, WK20, WK21, WK22, WK23, WK24, WK25, WK26, WK27, WK28, WK29, WK30, look_hit, look_miss, List.map_cons, List.map_nil, Nat.add_zero, max_v, min_v, ↓cnd_t, ↓cnd_f, ↓grd_b, ↓grd_u, startEnv, Option.map_some, List.length_nil, List.length_cons, List.nil_append, List.cons_append, List.getElem?_cons_zero, List.getElem?_cons_succ, List.set_cons_zero, List.set_cons_succ, Bool.not_true, Bool.not_false, reduceIte, Nat.reduceEqDiff, Nat.reduceAdd, Nat.reduceLT, blt_lit, beq_lit, Bool.or_true, Bool.true_or, Bool.or_false, Bool.false_or, Bool.and_true, Bool.true_and, Bool.and_self, cond_true, cond_false, List.append_nil, Iv.eta, Option.map_none, idxO_l0, idxO_l1, decide_true, decide_false, reqs_true, Int.zero_sub, wrap_lit, wrapu_lit, Int.reduceLE, Int.reduceLT, Int.reduceAdd, Int.reduceSub, Int.reduceMul, Int.reduceNeg, Int.reduceEq, Option.bind_some, bin_shr_u64, bin_shl_u64, bin_shr_i64, bin_shl_i64, and_m32', Int.reduceToNat, Int.reducePow, Int.reduceMod, Int.reduceDiv, wrap_u64s, true_or, or_true, true_and, and_true, Option.isSome_none, Option.isSome_some, Nat.reduceLeDiff, Nat.reduceMul, Int.toNat_natCast, Int.cast_ofNat_Int, Int.natCast_zero, Int.natCast_one, List.isEmpty_nil, List.isEmpty_cons, List.replicate_zero, List.replicate_succ, T1, T2, T3, T4, T5, T6, T9, T10, T11, T12, T21, T22, T23, T25, T26, T27, T28, T29, T30, T32, T33, T34, T35, T36, T37, T38, T39, T40, T41, T42, T43, T44, T46, T48, T50, T52, T53, T54, T55, T56, T57, T58, T59, T61, T62, T63, T64, T65, T66, T67, T68, T69, T70, T71, T72, T73, T74, T75, T76, T77, T78, T79, T80, T81, T82, T83, T84, T85, T87, T89, T91, T92, T93, T95, T96, T97, T98, T102, T103, T105, T107, T108, T109, T110, T112, T116, T120, T121, T122, T123, T124, T125, T126, T128, T130, T131, T132, T134, T135, T136, T137, T138, T140, T142, T143, T145, T146, T148, T149, T150, T152, T153, T154, T155, T156, T163, T164, T165, T166, T167, M_pick_eq, srOf_C, pkO_some, hi, hg]
      subst hh
      rw [← hr]
      repeat' (first | with_reducible refine cnd_split (fun hc => ?_) (fun hc => ?_) | with_reducible refine Reqs.mk ?_ ?_)
      all_goals first | assumption | exact endM_src0
  · cases hM

-- (*spec.l00Src).among
def intsC : List PC → Option (List Int)
  | [] => some []
  | .int .i64 v :: r => match intsC r with
    | some l => some (v :: l)
    | none => none
  | _ => none
def amV (l : List Int) (k : Int) : Int := l.getD k.toNat 0
def amO (m : Addr → Option PC) (h : Heap) (i : Nat) : Option (List Int) → Option (Option Addr × Nat × Nat × Sr) → Option (Prop × SV × Heap)
  | some l, some (a, n, c, x) => some (SrOk m a n 900000000 x ∧ 0 < l.length ∧ l.length ≤ 200, .v (.c (.p (.int .i64 (amV l (pkV m a n l.length x))))), h.set i (srC a n c (pkN m a n l.length x)))
  | _, _ => none
def amQ (z : Nat) : Option (List PC) → Option (List Int)
  | some cs => match intsC cs with
    | some l => if z = l.length then some l else none
    | none => none
  | none => none
def M_among : MT := fun m args h => match args with
  | [.c (.ptr (.own i 0)), .c (.row j 0 z 1)] => amO m h i (amQ z h[j]?) (srOf h[i]?)
  | _ => none
theorem M_among_eq {m : Addr → Option PC} {h : Heap} {i j z : Nat} : M_among m [.c (.ptr (.own i 0)), .c (.row j 0 z 1)] h = amO m h i (amQ z h[j]?) (srOf h[i]?) := rfl
theorem amO_some {m : Addr → Option PC} {h : Heap} {i : Nat} {l : List Int} {a : Option Addr} {n c : Nat} {x : Sr} : amO m h i (some l) (some (a, n, c, x)) = some (SrOk m a n 900000000 x ∧ 0 < l.length ∧ l.length ≤ 200, .v (.c (.p (.int .i64 (amV l (pkV m a n l.length x))))), h.set i (srC a n c (pkN m a n l.length x))) := rfl
theorem intsC_get : ∀ {cs : List PC} {l : List Int}, intsC cs = some l → cs.length = l.length ∧ ∀ k, k < l.length → cs[k]? = some (.int .i64 (l.getD k 0))
  | [], l, h => by simp only [intsC, Option.some.injEq] at h; subst h; simp
  | .int .i64 v :: r, l, h => by
    simp only [intsC] at h
    split at h
    · rename_i l' hl
      simp only [Option.some.injEq] at h
      subst h
      have := intsC_get hl
      refine ⟨by simp [this.1], fun k hk => ?_⟩
      cases k with
      | zero => simp
      | succ k => simp at hk; simpa using this.2 k hk
    · cases h
  | .int .i8 v :: r, l, h => by simp [intsC] at h
  | .int .i16 v :: r, l, h => by simp [intsC] at h
  | .int .i32 v :: r, l, h => by simp [intsC] at h
  | .int .u8 v :: r, l, h => by simp [intsC] at h
  | .int .u16 v :: r, l, h => by simp [intsC] at h
  | .int .u32 v :: r, l, h => by simp [intsC] at h
  | .int .u64 v :: r, l, h => by simp [intsC] at h
  | .bool _ :: r, l, h => by simp [intsC] at h
  | .str _ :: r, l, h => by simp [intsC] at h
  | .fn _ :: r, l, h => by simp [intsC] at h
  | .sl _ _ _ :: r, l, h => by simp [intsC] at h
  | .nf :: r, l, h => by simp [intsC] at h
  | .np :: r, l, h => by simp [intsC] at h
theorem amQ_out {z : Nat} {o : Option (List PC)} {l : List Int} (h : amQ z o = some l) : ∃ cs, o = some cs ∧ z = l.length ∧ cs.length = l.length ∧ ∀ k, k < l.length → cs[k]? = some (.int .i64 (l.getD k 0)) := by
  unfold amQ at h
  split at h
  · split at h
    · rename_i cs l' hl
      split at h
      · rename_i hz
        simp only [Option.some.injEq] at h
        subst h
        exact ⟨_, rfl, hz, intsC_get hl⟩
      · cases h
    · cases h
  · cases h
theorem one_among : OneM M_among := by
  intro m args h p r h' hM
  unfold M_among at hM
  split at hM
  · rename_i i j z
    cases hs : srOf h[i]? with
    | none => cases hq : amQ z h[j]? <;> (rw [hs, hq] at hM; cases hM)
    | some t =>
      cases hq : amQ z h[j]? with
      | none => rw [hs, hq] at hM; cases hM
      | some l =>
        obtain ⟨a, n, c, x⟩ := t
        rw [hs, hq, amO_some] at hM
        simp only [Option.some.injEq, Prod.mk.injEq] at hM
        obtain ⟨_, _, rfl⟩ := hM
        exact ⟨_, rfl, fun j hj => by rw [List.getElem?_set_ne (Ne.symm hj)]⟩
  · cases hM
theorem __spec_l00Src__among_among_ok : Mn Tryz.prog 93 M_among := by
  refine mn_of_go (O := orcM [] [⟨45, M_pick, true, fun _ => one_pick, __spec_l00Src__pick_pick_ok⟩]) mixed T_ok (orcM_sound _ _) Tryz.func93 (by kernel_rfl) rfl Tryz.ntmps93 (by kernel_rfl) Tryz.results93 ?_
  intro m args hp pre r h' hM hpre
  unfold M_among at hM
  split at hM
  · rename_i i j z
    cases hs : srOf hp[i]? with
    | none => cases hq : amQ z hp[j]? <;> (rw [hs, hq] at hM; cases hM)
    | some t =>
      cases hq : amQ z hp[j]? with
      | none => rw [hs, hq] at hM; cases hM
      | some l =>
        obtain ⟨a, n, c, x⟩ := t
        rw [hs, hq, amO_some] at hM
        simp only [Option.some.injEq, Prod.mk.injEq] at hM
        obtain ⟨rfl, hr, hh⟩ := hM
        have hi := srOf_out hs
        have hg := setAt_get hi
        obtain ⟨cs, hj, rfl, hl, hc⟩ := amQ_out hq
        have hij : i ≠ j := by
          rintro rfl
          rw [hi] at hj
          obtain rfl := Option.some.inj hj
          have := hc 0 hpre.2.1
          simp [srC] at this
        have hjs : ∀ y, (hp.set i y)[j]? = some cs := fun y => by rw [List.getElem?_set_ne hij, hj]
        refine ⟨by simp, ?_⟩
        obtain ⟨N, hN⟩ : ∃ N : Int, (l.length : Int) = N := ⟨_, rfl⟩
        rw [hN] at hr hh
        obtain ⟨v, hv⟩ : ∃ v, pkV m a n N x = v := ⟨_, rfl⟩
        have hb := pkV_in (m := m) (a := a) (n := n) (k := N) (x := x)
        have b2 := hb.2 (by omega)
        rw [hv] at hr hb b2
        have j0 : (decide (0 ≤ v) && decide (v < (l.length : Int))) = true := by simp only [Bool.and_eq_true, decide_eq_true_eq]; omega
        have i1 : ∀ y, iadO (hp.set i y) (some (tdRow [PC.int .i64 0])) (some (.c (.row j 0 l.length 1))) (some (.int .i64 v)) = some (some (.v (.c (.ptr (.own j v.toNat)))), hp.set i y) := by
          intro y
          rw [iadO_row rfl j0]; simp
        have hcv : cs[v.toNat]? = some (PC.int .i64 (amV l v)) := hc _ (by omega)
        simp (config := { maxSteps := 4000000, implicitDefEqProofs := false }) only [WK0, WK1, WK2, WK3, WK4, WK5, WK6, WK7, WK8, WK9, WK10, WK11, WK12, WK13, WK14, WK15, WK16, WK17, WK18, WK19, WK20, WK21, WK22, WK23, WK24, WK25, WK26, WK27, WK28, WK29, WK30, look_hit, look_miss, List.map_cons, List.map_nil, Nat.add_zero, max_v, min_v, ↓cnd_t, ↓cnd_f, ↓grd_b, ↓grd_u, startEnv, Option.map_some, List.length_nil, List.length_cons, List.nil_append, List.cons_append, List.getElem?_cons_zero, List.getElem?_cons_succ, List.set_cons_zero, List.set_cons_succ, Bool.not_true, Bool.not_false, reduceIte, Nat.reduceEqDiff, Nat.reduceAdd, Nat.reduceLT, blt_lit, beq_lit, Bool.or_true, Bool.true_or, Bool.or_false, Bool.false_or, Bool.and_true, Bool.true_and, Bool.and_self, cond_true, cond_false, List.append_nil, Iv.eta, Option.map_none, idxO_l0, idxO_l1, decide_true, decide_false, reqs_true, Int.zero_sub, wrap_lit, wrapu_lit, Int.reduceLE, Int.reduceLT, Int.reduceAdd, Int.reduceSub, Int.reduceMul, Int.reduceNeg, Int.reduceEq, Option.bind_some, bin_shr_u64, bin_shl_u64, bin_shr_i64, bin_shl_i64, and_m32', Int.reduceToNat, Int.reducePow, Int.reduceMod, Int.reduceDiv, wrap_u64s, true_or, or_true, true_and, and_true, Option.isSome_none, Option.isSome_some, Nat.reduceLeDiff, Nat.reduceMul, Int.toNat_natCast, Int.cast_ofNat_Int, Int.natCast_zero, Int.natCast_one, List.isEmpty_nil, List.isEmpty_cons, List.replicate_zero, List.replicate_succ, T1, T2, T3, T4, T5, T6, T9, T10, T11, T12, T21, T22, T23, T25, T26, T27, T28, T29, T30, T32, T33, T34, T35, T36, T37, T38, T39, T40, T41, T42, T43, T44, T46, T48, T50, T52, T53, T54, T55, T56, T57, T58, T59, T61, T62, T63, T64, T65, T66, T67, T68, T69, T70, T71, T72, T73, T74, T75, T76, T77, T78, T79, T80, T81, T82, T83, T84, T85, T87, T89, T91, T92, T93, T95, T96, T97, T98, T102, T103, T105, T107, T108, T109, T110, T112, T116, T120, T121, T122, T123, T124, T125, T126, T128, T130, T131, T132, T134, T135, T136, T137, T138, T140, T142, T143, T145, T146, T148, T149, T150, T152, T153, T154, T155, T156, T163, T164, T165, T166, T167, M_pick_eq, srOf_C, pkO_some, hi, hg, hjs, hN, hv, i1, hcv]
        subst hh
        rw [← hr]
        repeat' (first | with_reducible refine cnd_split (fun hc => ?_) (fun hc => ?_) | with_reducible refine Reqs.mk ?_ ?_)
        all_goals first | exact hpre.1 | exact endM_src0
  · cases hM

-- boxend
theorem endM_box {hp h1 : Heap} {i : Nat} {cs : List PC} (hl : hp.length ≤ i) (hi : h1[i]? = some cs) (hlen : hp.length ≤ h1.length) (htk : h1.take hp.length = hp) : endM hp.length (.v (.c (.ptr (.own hp.length 0)))) (hp ++ [cs]) h1 (some [.c (.ptr (.own i 0))]) := by
  refine ⟨⟨[i], ?_, ?_, by simp, hlen, ?_, by simp, ?_⟩⟩
  · simp [resSV, SV.ren, AV.ren]
  · show hp.length < hp.length + 1
    omega
  · rw [htk]; simp
  · intro j k ds hj hd hne
    cases j with
    | succ j => simp at hj
    | zero =>
      simp at hj hd
      subst hj; subst hd
      exact ⟨hi, by omega⟩
def M_from : MT := fun m args h => match args with
  | [.c (.p (.sl a n c))] => some (True, .v (.c (.ptr (.own h.length 0))), h ++ [srC a n c ⟨0, 0⟩])
  | _ => none
theorem M_from_eq {m : Addr → Option PC} {h : Heap} {a : Option Addr} {n c : Nat} : M_from m [.c (.p (.sl a n c))] h = some (True, .v (.c (.ptr (.own h.length 0))), h ++ [srC a n c ⟨0, 0⟩]) := rfl

-- spec.l00From
theorem spec_l00From_from_ok : Mn Tryz.prog 42 M_from := by
  refine mn_of_go (O := orc []) mixed T_ok (orc_sound _) Tryz.func42 (by kernel_rfl) rfl Tryz.ntmps42 (by kernel_rfl) Tryz.results42 ?_
  intro m args hp pre r h' hM hpre
  unfold M_from at hM
  split at hM
  · simp only [Option.some.injEq, Prod.mk.injEq] at hM
    obtain ⟨rfl, hr, hh⟩ := hM
    subst hr hh
    refine ⟨by simp, ?_⟩
    simp (config := { maxSteps := 4000000, implicitDefEqProofs := false }) only [WK0, WK1, WK2, WK3, WK4, WK5, WK6, WK7, WK8, WK9, WK10, WK11, WK12, WK13, WK14, WK15, WK16, WK17, WK18, WK19, WK20, WK21, WK22, WK23, WK24, WK25, WK26, WK27, WK28, WK29, WK30, look_hit, look_miss, List.map_cons, List.map_nil, Nat.add_zero, max_v, min_v, ↓cnd_t, ↓cnd_f, ↓grd_b, ↓grd_u, startEnv, Option.map_some, List.length_nil, List.length_cons, List.nil_append, List.cons_append, List.getElem?_cons_zero, List.getElem?_cons_succ, List.set_cons_zero, List.set_cons_succ, Bool.not_true, Bool.not_false, reduceIte, Nat.reduceEqDiff, Nat.reduceAdd, Nat.reduceLT, blt_lit, beq_lit, Bool.or_true, Bool.true_or, Bool.or_false, Bool.false_or, Bool.and_true, Bool.true_and, Bool.and_self, cond_true, cond_false, List.append_nil, Iv.eta, Option.map_none, idxO_l0, idxO_l1, decide_true, decide_false, reqs_true, Int.zero_sub, wrap_lit, wrapu_lit, Int.reduceLE, Int.reduceLT, Int.reduceAdd, Int.reduceSub, Int.reduceMul, Int.reduceNeg, Int.reduceEq, Option.bind_some, bin_shr_u64, bin_shl_u64, bin_shr_i64, bin_shl_i64, and_m32', Int.reduceToNat, Int.reducePow, Int.reduceMod, Int.reduceDiv, wrap_u64s, true_or, or_true, true_and, and_true, Option.isSome_none, Option.isSome_some, Nat.reduceLeDiff, Nat.reduceMul, Int.toNat_natCast, Int.cast_ofNat_Int, Int.natCast_zero, Int.natCast_one, List.isEmpty_nil, List.isEmpty_cons, List.replicate_zero, List.replicate_succ, T1, T2, T3, T4, T5, T6, T9, T10, T11, T12, T21, T22, T23, T25, T26, T27, T28, T29, T30, T32, T33, T34, T35, T36, T37, T38, T39, T40, T41, T42, T43, T44, T46, T48, T50, T52, T53, T54, T55, T56, T57, T58, T59, T61, T62, T63, T64, T65, T66, T67, T68, T69, T70, T71, T72, T73, T74, T75, T76, T77, T78, T79, T80, T81, T82, T83, T84, T85, T87, T89, T91, T92, T93, T95, T96, T97, T98, T102, T103, T105, T107, T108, T109, T110, T112, T116, T120, T121, T122, T123, T124, T125, T126, T128, T130, T131, T132, T134, T135, T136, T137, T138, T140, T142, T143, T145, T146, T148, T149, T150, T152, T153, T154, T155, T156, T163, T164, T165, T166, T167, srC]
    exact endM_box (Nat.le_refl _) (by simp) (by simp) (by simp)
  · cases hM

-- def number
def xr (x v : Int) : Int := IntKind.i64.wrap ((BitVec.ofInt IntKind.i64.bits (x * 256) ^^^ BitVec.ofInt IntKind.i64.bits v).toNat : Nat)
theorem xr_in {x v : Int} {k : Nat} (hk : k ≤ 6) (h0 : 0 ≤ x) (h1 : x < 2 ^ (8 * k)) (h2 : 0 ≤ v) (h3 : v < 256) : 0 ≤ xr x v ∧ xr x v < 2 ^ (8 * (k + 1)) := by
  have hp : (2 : Int) ^ (8 * (k + 1)) = 2 ^ (8 * k) * 256 := by
    have e8 : (2 : Int) ^ (8 * 1) = 256 := by decide
    rw [Nat.mul_add, Int.pow_add, e8]
  have hb : (2 : Int) ^ (8 * (k + 1)) ≤ 2 ^ 56 := by
    have : (2 : Nat) ^ (8 * (k + 1)) ≤ 2 ^ 56 := Nat.pow_le_pow_right (by omega) (by omega)
    exact_mod_cast this
  have c56 : (2 : Int) ^ 56 = 72057594037927936 := by decide
  have e1 : (BitVec.ofInt IntKind.i64.bits (x * 256)).toNat = (x * 256).toNat := by rw [bits_i64]; simp; omega
  have e2 : (BitVec.ofInt IntKind.i64.bits v).toNat = v.toNat := by rw [bits_i64]; simp; omega
  have l1 : (x * 256).toNat < 2 ^ (8 * (k + 1)) := by
    have : ((x * 256).toNat : Int) < 2 ^ (8 * (k + 1)) := by omega
    exact_mod_cast this
  have l2 : v.toNat < 2 ^ (8 * (k + 1)) := by
    have h256 : (256 : Int) ≤ 2 ^ (8 * (k + 1)) := by
      have : (2 : Nat) ^ 8 ≤ 2 ^ (8 * (k + 1)) := Nat.pow_le_pow_right (by omega) (by omega)
      exact_mod_cast this
    have : (v.toNat : Int) < 2 ^ (8 * (k + 1)) := by omega
    exact_mod_cast this
  have l3 := Nat.xor_lt_two_pow l1 l2
  have l4 : (((x * 256).toNat ^^^ v.toNat : Nat) : Int) < 2 ^ (8 * (k + 1)) := by exact_mod_cast l3
  unfold xr
  rw [BitVec.toNat_xor, e1, e2, wrap_om (by omega) (by omega)]
  omega
def nmX (m : Addr → Option PC) (a : Option Addr) (n : Nat) : Nat → Int → Sr → Int × Sr
  | 0, x, s => (x, s)
  | k + 1, x, s => nmX m a n k (xr x (srV m a n s)) (srN m a n s)
theorem nmX_in {m : Addr → Option PC} {a : Option Addr} {n : Nat} : ∀ (k : Nat) {x : Int} {s : Sr} {b : Int}, k ≤ 7 → 0 ≤ x → x < 2 ^ (8 * (7 - k)) → SrOk m a n b s → 0 ≤ (nmX m a n k x s).1 ∧ (nmX m a n k x s).1 < 2 ^ 56 ∧ SrOk m a n (b + k) (nmX m a n k x s).2
  | 0, x, s, b, hk, h0, h1, hs => ⟨h0, h1, hs.mono (by omega)⟩
  | k + 1, x, s, b, hk, h0, h1, hs => by
    have hv := srV_in (x := s) hs.1 hs.2.2.1
    have hx := xr_in (x := x) (v := srV m a n s) (k := 7 - (k + 1)) (by omega) h0 h1 hv.1 hv.2
    have e : 7 - (k + 1) + 1 = 7 - k := by omega
    rw [e] at hx
    have := nmX_in k (by omega) hx.1 hx.2 (srN_ok hs)
    rw [nmX]
    exact ⟨this.1, this.2.1, this.2.2.mono (by omega)⟩
/-- What a number is made of: the first draws, then two more. -/
def nm1 (m : Addr → Option PC) (a : Option Addr) (n : Nat) (most y : Int) (s : Sr) : Int × Sr :=
  if pkV m a n 5 s = 0 then (y / 2 ^ (pkV m a n 40 (pkN m a n 5 s)).toNat, pkN m a n 40 (pkN m a n 5 s))
  else if pkV m a n 5 s = 1 then (amV [0, 1, most, most / 2] (pkV m a n 4 (pkN m a n 5 s)), pkN m a n 4 (pkN m a n 5 s))
  else (y, pkN m a n 5 s)
def nm2 (m : Addr → Option PC) (a : Option Addr) (n : Nat) (y : Int) (s : Sr) : Int × Sr := (if pkV m a n 2 s = 0 then -y else y, pkN m a n 2 s)
def num (m : Addr → Option PC) (a : Option Addr) (n : Nat) (most : Int) (s : Sr) : Int × Sr :=
  nm2 m a n (nm1 m a n most ((nmX m a n 7 0 s).1 % (most + 1)) (nmX m a n 7 0 s).2).1 (nm1 m a n most ((nmX m a n 7 0 s).1 % (most + 1)) (nmX m a n 7 0 s).2).2
theorem amV4 {most v : Int} (h : 0 ≤ v ∧ v < 4) (hm : 1 ≤ most) : 0 ≤ amV [0, 1, most, most / 2] v ∧ amV [0, 1, most, most / 2] v ≤ most := by
  obtain rfl | rfl | rfl | rfl : v = 0 ∨ v = 1 ∨ v = 2 ∨ v = 3 := by omega
  all_goals (simp [amV]; try omega)
theorem nm1_in {m : Addr → Option PC} {a : Option Addr} {n : Nat} {most y b : Int} {s : Sr} (hm : 1 ≤ most) (h0 : 0 ≤ y) (h1 : y ≤ most) (hs : SrOk m a n b s) : 0 ≤ (nm1 m a n most y s).1 ∧ (nm1 m a n most y s).1 ≤ most ∧ SrOk m a n (b + 4) (nm1 m a n most y s).2 := by
  have hs1 := pkN_ok (k := 5) hs
  unfold nm1
  split
  · refine ⟨?_, ?_, (pkN_ok hs1).mono (by omega)⟩
    · exact Int.ediv_nonneg h0 (Int.le_of_lt (Int.pow_pos (by omega)))
    · exact Int.le_trans (Int.ediv_le_self _ h0) h1
  · split
    · have hb := pkV_in (m := m) (a := a) (n := n) (k := 4) (x := pkN m a n 5 s)
      have := amV4 (most := most) ⟨hb.1, hb.2 (by omega)⟩ hm
      exact ⟨this.1, this.2, (pkN_ok hs1).mono (by omega)⟩
    · exact ⟨h0, h1, hs1.mono (by omega)⟩
theorem num_in {m : Addr → Option PC} {a : Option Addr} {n : Nat} {most b : Int} {s : Sr} (hm : 1 ≤ most) (hs : SrOk m a n b s) : -most ≤ (num m a n most s).1 ∧ (num m a n most s).1 ≤ most ∧ SrOk m a n (b + 20) (num m a n most s).2 := by
  have h7 := nmX_in 7 (x := 0) (by omega) (by omega) (by decide) hs
  have hy := Int.emod_nonneg (nmX m a n 7 0 s).1 (show most + 1 ≠ 0 by omega)
  have hy2 := Int.emod_lt_of_pos (nmX m a n 7 0 s).1 (show 0 < most + 1 by omega)
  have h1 := nm1_in hm hy (show (nmX m a n 7 0 s).1 % (most + 1) ≤ most by omega) h7.2.2
  unfold num nm2
  refine ⟨?_, ?_, (pkN_ok h1.2.2).mono (by omega)⟩
  · simp only; split <;> omega
  · simp only; split <;> omega
def numO (m : Addr → Option PC) (h : Heap) (i : Nat) (most : Int) : Option (Option Addr × Nat × Nat × Sr) → Option (Prop × SV × Heap)
  | some (a, n, c, x) => some (SrOk m a n 800000000 x ∧ 1 ≤ most ∧ most ≤ 1152921504606846976, .v (.c (.p (.int .i64 (num m a n most x).1))), h.set i (srC a n c (num m a n most x).2))
  | none => none
def M_number : MT := fun m args h => match args with
  | [.c (.ptr (.own i 0)), .c (.p (.int .i64 most))] => numO m h i most (srOf h[i]?)
  | _ => none
theorem M_number_eq {m : Addr → Option PC} {h : Heap} {i : Nat} {most : Int} : M_number m [.c (.ptr (.own i 0)), .c (.p (.int .i64 most))] h = numO m h i most (srOf h[i]?) := rfl
theorem numO_some {m : Addr → Option PC} {h : Heap} {i : Nat} {most : Int} {a : Option Addr} {n c : Nat} {x : Sr} : numO m h i most (some (a, n, c, x)) = some (SrOk m a n 800000000 x ∧ 1 ≤ most ∧ most ≤ 1152921504606846976, .v (.c (.p (.int .i64 (num m a n most x).1))), h.set i (srC a n c (num m a n most x).2)) := rfl

theorem one_number : OneM M_number := by
  intro m args h p r h' hM
  unfold M_number at hM
  split at hM
  · rename_i i k
    cases hs : srOf h[i]? with
    | none => rw [hs] at hM; cases hM
    | some t =>
      obtain ⟨a, n, c, x⟩ := t
      rw [hs] at hM
      simp only [numO, Option.some.injEq, Prod.mk.injEq] at hM
      obtain ⟨_, _, rfl⟩ := hM
      exact ⟨_, rfl, fun j hj => by rw [List.getElem?_set_ne (Ne.symm hj)]⟩
  · cases hM

-- def e8fix
theorem concat_set {h : Heap} {x y : List PC} : (h ++ [x]).set h.length y = h ++ [y] := by
  rw [List.set_append_right _ _ (Nat.le_refl _)]; simp
theorem concat_get {h : Heap} {x : List PC} : (h ++ [x])[h.length]? = some x := by simp
theorem endM_val {hp l : Heap} {a : PC} : endM hp.length (.v (.c (.p a))) hp (hp ++ l) (some [.c (.p a)]) :=
  endM_same rfl trivial rfl rfl (by simp) (by simp)
theorem endM_agg {hp l : Heap} {a : List PC} : endM hp.length (.v (.agg a)) hp (hp ++ l) (some [.agg a]) :=
  endM_same rfl trivial rfl rfl (by simp) (by simp)
theorem sr0_ok {m : Addr → Option PC} {a : Option Addr} {n : Nat} {b : Int} (h : Told m a n) (hn : n ≤ 1048576) (hb : 0 ≤ b) : SrOk m a n b ⟨0, 0⟩ := ⟨h, hn, Int.le_refl _, hb, by unfold inU; simp only; omega⟩
def e8fix (m : Addr → Option PC) (a : Option Addr) (n : Nat) (most : Int) : Int := (num m a n most ⟨0, 0⟩).1
theorem e8fix_in {m : Addr → Option PC} {a : Option Addr} {n : Nat} {most : Int} (h : Told m a n) (hn : n ≤ 1048576) (hm : 1 ≤ most) : -most ≤ e8fix m a n most ∧ e8fix m a n most ≤ most := by
  have := num_in hm (sr0_ok (b := 0) h hn (by omega))
  exact ⟨this.1, this.2.1⟩
def M_e8fix : MT := fun m args h => match args with
  | [.c (.p (.sl a n c)), .c (.p (.int .i64 most))] => some (Told m a n ∧ n ≤ 1048576 ∧ 1 ≤ most ∧ most ≤ 1152921504606846976, .v (.c (.p (.int .i64 (e8fix m a n most)))), h)
  | _ => none
theorem M_e8fix_eq {m : Addr → Option PC} {h : Heap} {a : Option Addr} {n c : Nat} {most : Int} : M_e8fix m [.c (.p (.sl a n c)), .c (.p (.int .i64 most))] h = some (Told m a n ∧ n ≤ 1048576 ∧ 1 ≤ most ∧ most ≤ 1152921504606846976, .v (.c (.p (.int .i64 (e8fix m a n most)))), h) := rfl
def M_d8Long : MT := fun m args h => match args with
  | [.c (.p (.sl a n c)), .c (.p (.sl a' n' c'))] => some (True, .v (.c (.p (.bool (decide (1048576 < (n : Int)) || decide (1048576 < (n' : Int)))))), h)
  | _ => none
theorem M_d8Long_eq {m : Addr → Option PC} {h : Heap} {a a' : Option Addr} {n c n' c' : Nat} : M_d8Long m [.c (.p (.sl a n c)), .c (.p (.sl a' n' c'))] h = some (True, .v (.c (.p (.bool (decide (1048576 < (n : Int)) || decide (1048576 < (n' : Int)))))), h) := rfl

end Go.Proofs.YtcnapkdccjibpaaGreatDoor.Eng
