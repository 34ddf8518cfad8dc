/- What functions of the program compute, and that the program computes it: part 23. -/
import Derived.Test.YtcnapkdccjibpaaGreatDoorTab
import Derived.Test.YtcnapkdccjibpaaGreatDoorEng16
import Derived.Laws.BitsLemmas
import Derived.Laws.Bits64
import Derived.Laws.Bits64b
import Derived.Lib.Mul64
import Derived.Lib.BitFns
import Derived.Laws.Externs
import Derived.Test.YtcnapkdccjibpaaGreatDoorL1
import Derived.Test.YtcnapkdccjibpaaGreatDoorL2
import Derived.Test.YtcnapkdccjibpaaGreatDoorL19
import Derived.Test.YtcnapkdccjibpaaGreatDoorL20
import Derived.Test.YtcnapkdccjibpaaGreatDoorL21
import Derived.Test.YtcnapkdccjibpaaGreatDoorL22
namespace Go.Proofs.YtcnapkdccjibpaaGreatDoor.Eng
open Go Go.RowKit
set_option linter.unusedVariables false
set_option linter.unusedSimpArgs false
set_option maxRecDepth 100000
set_option maxHeartbeats 1000000
-- spec.l04Small
theorem spec_l04Small_small_ok : Mn Tryz.prog 44 M_small := by
  refine mn_of_go (O := orcM [⟨61, F_mkI, .inl spec_l04Make_mkI_ok⟩] [⟨45, M_pick, true, fun _ => one_pick, __spec_l00Src__pick_pick_ok⟩, ⟨74, M_one, true, fun _ => one_one, __spec_l00Src__one_one_ok⟩]) mixed T_ok (orcM_sound _ _) Tryz.func44 (by kernel_rfl) rfl Tryz.ntmps44 (by kernel_rfl) Tryz.results44 ?_
  intro m args hp pre r h' hM hpre
  unfold M_small at hM
  split at hM
  · rename_i i most
    cases hs : srOf hp[i]? with
    | none => rw [hs] at hM; cases hM
    | some t =>
      obtain ⟨a, n, c, x⟩ := t
      rw [hs, sm4O_some] at hM
      simp only [Option.some.injEq, Prod.mk.injEq] at hM
      obtain ⟨rfl, hr, hh⟩ := hM
      have hi := srOf_out hs
      have hgA := setAt_getA hi
      have hsA := setAt_setA hi
      have hgB := setB_get hi
      have hsB := setB_set hi
      have hN := fun x l r => @setAt_new hp i x l r
      have hS := fun x l y r => @setN_set hp i x l y r
      obtain ⟨ok0, m1, m2⟩ := hpre
      have pr0 : SrOk m a n 900000000 x := ok0.mono (by omega)
      have b1 := pkV_in (m := m) (a := a) (n := n) (k := 2 * most + 1) (x := x)
      have b2 := pkV_in (m := m) (a := a) (n := n) (k := 65536) (x := pkN m a n (2 * most + 1) x)
      have ok1 := pkN_ok (k := 2 * most + 1) ok0
      have ok2 := pkN_ok (k := 65536) ok1
      have hL := smLo_in (m := m) (a := a) (n := n) (s := x) ⟨m1, m2⟩
      unfold sm4 smS at hr hh
      unfold smLo at hr hL
      have c1 := b1.2 (by omega)
      have c2 := b2.2 (by omega)
      obtain ⟨u, hu⟩ : ∃ u, pkV m a n (2 * most + 1) x = u := ⟨_, rfl⟩
      obtain ⟨s1, hs1⟩ : ∃ s1, pkN m a n (2 * most + 1) x = s1 := ⟨_, rfl⟩
      rw [hs1] at b2 c2 ok1 ok2 hr hh hL
      rw [hu] at b1 c1 hr hL
      obtain ⟨v, hv⟩ : ∃ v, pkV m a n 65536 s1 = v := ⟨_, rfl⟩
      obtain ⟨s2, hs2⟩ : ∃ s2, pkN m a n 65536 s1 = s2 := ⟨_, rfl⟩
      rw [hs2] at ok2 hr hh
      rw [hv] at b2 c2 hr hL
      have pr1 : SrOk m a n 900000000 s1 := ok1.mono (by omega)
      have pr2 : SrOk m a n 900000000 s2 := ok2.mono (by omega)
      have w1 : IntKind.i64.wrap (2 * most) = 2 * most := wrap_om (by omega) (by omega)
      have w2 : IntKind.i64.wrap (2 * most + 1) = 2 * most + 1 := wrap_om (by omega) (by omega)
      have w3 : IntKind.i64.wrap (u - most) = u - most := wrap_om (by omega) (by omega)
      have w4 : IntKind.i64.wrap ((u - most) * 4294967296) = (u - most) * 4294967296 := wrap_om (by omega) (by omega)
      have w5 : IntKind.i64.wrap (v * 65536) = v * 65536 := wrap_om (by omega) (by omega)
      have w6 : IntKind.i64.wrap ((u - most) * 4294967296 + v * 65536) = (u - most) * 4294967296 + v * 65536 := wrap_om (by omega) (by omega)
      obtain ⟨lo, hlo⟩ : ∃ lo, (u - most) * 4294967296 + v * 65536 = lo := ⟨_, rfl⟩
      rw [hlo] at w6 hr hL
      have ok3 := pkN_ok (k := 2) ok2
      have b3 := pkV_in (m := m) (a := a) (n := n) (k := 5000) (x := pkN m a n 2 s2)
      have c3 := b3.2 (by omega)
      obtain ⟨s3, hs3⟩ : ∃ s3, pkN m a n 2 s2 = s3 := ⟨_, rfl⟩
      rw [hs3] at ok3 b3 c3 hr hh
      obtain ⟨y, hy⟩ : ∃ y, pkV m a n 5000 s3 = y := ⟨_, rfl⟩
      rw [hy] at b3 c3 hr
      have pr3 : SrOk m a n 900000000 s3 := ok3.mono (by omega)
      have w7 : IntKind.i64.wrap (lo + y) = lo + y := wrap_om (by omega) (by omega)
      have k1 : mkI lo lo = ⟨lo, lo⟩ := mkI_ok (by rw [okI_mk]; omega)
      have k2 : mkI lo (lo + y) = ⟨lo, lo + y⟩ := mkI_ok (by rw [okI_mk]; omega)
      refine ⟨by simp, ?_⟩
      by_cases q2 : pkV m a n 2 s2 = 0
      · have e2 : decide (pkV m a n 2 s2 = 0) = true := by simpa using q2
        rw [if_pos q2] at hr hh
        simp only at hr hh
        subst hr hh
        simp (config := { maxSteps := 4000000, implicitDefEqProofs := false }) only [F_mkI_eq, WK0, WK1, WK2, WK3, WK4, WK5, WK6, WK7, WK8, WK9, WK10, WK11, WK12, WK13, WK14, WK15, WK16, WK17, WK18, WK19, WK20, WK21, WK22, WK23, WK24, WK25, WK26, WK27, WK28, WK29, WK30, look_hit, look_miss, List.map_cons, List.map_nil, Nat.add_zero, max_v, min_v, ↓cnd_t, ↓cnd_f, ↓grd_b, ↓grd_u, startEnv, Option.map_some, List.length_nil, List.length_cons, List.nil_append, List.cons_append, List.getElem?_cons_zero, List.getElem?_cons_succ, List.set_cons_zero, List.set_cons_succ, Bool.not_true, Bool.not_false, reduceIte, Nat.reduceEqDiff, Nat.reduceAdd, Nat.reduceLT, blt_lit, beq_lit, Bool.or_true, Bool.true_or, Bool.or_false, Bool.false_or, Bool.and_true, Bool.true_and, Bool.and_self, cond_true, cond_false, List.append_nil, Iv.eta, Option.map_none, idxO_l0, idxO_l1, decide_true, decide_false, reqs_true, Int.zero_sub, wrap_lit, wrapu_lit, Int.reduceLE, Int.reduceLT, Int.reduceAdd, Int.reduceSub, Int.reduceMul, Int.reduceNeg, Int.reduceEq, Option.bind_some, bin_shr_u64, bin_shl_u64, bin_shr_i64, bin_shl_i64, and_m32', Int.reduceToNat, Int.reducePow, Int.reduceMod, Int.reduceDiv, wrap_u64s, true_or, or_true, true_and, and_true, Option.isSome_none, Option.isSome_some, Nat.reduceLeDiff, Nat.reduceMul, Int.toNat_natCast, Int.cast_ofNat_Int, Int.natCast_zero, Int.natCast_one, List.isEmpty_nil, List.isEmpty_cons, List.replicate_zero, List.replicate_succ, T1, T2, T3, T4, T5, T6, T9, T10, T11, T12, T21, T22, T23, T25, T26, T27, T28, T29, T30, T32, T33, T34, T35, T36, T37, T38, T39, T40, T41, T42, T43, T44, T46, T48, T50, T52, T53, T54, T55, T56, T57, T58, T59, T61, T62, T63, T64, T65, T66, T67, T68, T69, T70, T71, T72, T73, T74, T75, T76, T77, T78, T79, T80, T81, T82, T83, T84, T85, T87, T89, T91, T92, T93, T95, T96, T97, T98, T102, T103, T105, T107, T108, T109, T110, T112, T116, T120, T121, T122, T123, T124, T125, T126, T128, T130, T131, T132, T134, T135, T136, T137, T138, T140, T142, T143, T145, T146, T148, T149, T150, T152, T153, T154, T155, T156, T163, T164, T165, T166, T167, M_pick_eq, srOf_C, pkO_some, M_one_eq, oneO_some, hi, hgA, hsA, hgB, hsB, hN, hS, List.length_set, List.set_set, w1, w2, hu, hs1, w3, w4, hv, hs2, w5, w6, hlo, hs3, e2, hy, k1, k2, w7]
        repeat' (first | with_reducible refine cnd_split (fun hc => ?_) (fun hc => ?_) | with_reducible refine Reqs.mk ?_ ?_)
        all_goals first | assumption | exact endM_srcA
      · have e2 : decide (pkV m a n 2 s2 = 0) = false := by simpa using q2
        rw [if_neg q2] at hr hh
        simp only at hr hh
        subst hr hh
        simp (config := { maxSteps := 4000000, implicitDefEqProofs := false }) only [F_mkI_eq, WK0, WK1, WK2, WK3, WK4, WK5, WK6, WK7, WK8, WK9, WK10, WK11, WK12, WK13, WK14, WK15, WK16, WK17, WK18, WK19, WK20, WK21, WK22, WK23, WK24, WK25, WK26, WK27, WK28, WK29, WK30, look_hit, look_miss, List.map_cons, List.map_nil, Nat.add_zero, max_v, min_v, ↓cnd_t, ↓cnd_f, ↓grd_b, ↓grd_u, startEnv, Option.map_some, List.length_nil, List.length_cons, List.nil_append, List.cons_append, List.getElem?_cons_zero, List.getElem?_cons_succ, List.set_cons_zero, List.set_cons_succ, Bool.not_true, Bool.not_false, reduceIte, Nat.reduceEqDiff, Nat.reduceAdd, Nat.reduceLT, blt_lit, beq_lit, Bool.or_true, Bool.true_or, Bool.or_false, Bool.false_or, Bool.and_true, Bool.true_and, Bool.and_self, cond_true, cond_false, List.append_nil, Iv.eta, Option.map_none, idxO_l0, idxO_l1, decide_true, decide_false, reqs_true, Int.zero_sub, wrap_lit, wrapu_lit, Int.reduceLE, Int.reduceLT, Int.reduceAdd, Int.reduceSub, Int.reduceMul, Int.reduceNeg, Int.reduceEq, Option.bind_some, bin_shr_u64, bin_shl_u64, bin_shr_i64, bin_shl_i64, and_m32', Int.reduceToNat, Int.reducePow, Int.reduceMod, Int.reduceDiv, wrap_u64s, true_or, or_true, true_and, and_true, Option.isSome_none, Option.isSome_some, Nat.reduceLeDiff, Nat.reduceMul, Int.toNat_natCast, Int.cast_ofNat_Int, Int.natCast_zero, Int.natCast_one, List.isEmpty_nil, List.isEmpty_cons, List.replicate_zero, List.replicate_succ, T1, T2, T3, T4, T5, T6, T9, T10, T11, T12, T21, T22, T23, T25, T26, T27, T28, T29, T30, T32, T33, T34, T35, T36, T37, T38, T39, T40, T41, T42, T43, T44, T46, T48, T50, T52, T53, T54, T55, T56, T57, T58, T59, T61, T62, T63, T64, T65, T66, T67, T68, T69, T70, T71, T72, T73, T74, T75, T76, T77, T78, T79, T80, T81, T82, T83, T84, T85, T87, T89, T91, T92, T93, T95, T96, T97, T98, T102, T103, T105, T107, T108, T109, T110, T112, T116, T120, T121, T122, T123, T124, T125, T126, T128, T130, T131, T132, T134, T135, T136, T137, T138, T140, T142, T143, T145, T146, T148, T149, T150, T152, T153, T154, T155, T156, T163, T164, T165, T166, T167, M_pick_eq, srOf_C, pkO_some, M_one_eq, oneO_some, hi, hgA, hsA, hgB, hsB, hN, hS, List.length_set, List.set_set, w1, w2, hu, hs1, w3, w4, hv, hs2, w5, w6, hlo, hs3, e2, hy, k1, k2, w7]
        repeat' (first | with_reducible refine cnd_split (fun hc => ?_) (fun hc => ?_) | with_reducible refine Reqs.mk ?_ ?_)
        all_goals first | assumption | exact endM_srcA
  · cases hM

-- def A2Intervals
def goodI (D : Iv) : Bool := okI D && (decide (-288230376151711744 ≤ D.lo) && decide (D.hi ≤ 288230376151711744))
def triA (m : Addr → Option PC) (a : Option Addr) (n : Nat) (s : Sr) : Iv × Sr := if goodI (d04 m a n s).1 then d04 m a n s else sm4 m a n 50 (d04 m a n s).2
def triF (m : Addr → Option PC) (a : Option Addr) (n : Nat) (A : Iv) (s : Sr) : Int := A.lo + pkV m a n (min (A.hi - A.lo) 60000 + 1) s
def triT (m : Addr → Option PC) (a : Option Addr) (n : Nat) (A : Iv) (f : Int) (s : Sr) : Int := f + pkV m a n (min (A.hi - f) 60000 + 1) s
/-- An interval, a part of it, and how the source stands behind them. -/
def triP (m : Addr → Option PC) (a : Option Addr) (n : Nat) (A : Iv) (s : Sr) : Iv × Sr :=
  (⟨triF m a n A s, triT m a n A (triF m a n A s) (pkN m a n (min (A.hi - A.lo) 60000 + 1) s)⟩, pkN m a n (min (A.hi - triF m a n A s) 60000 + 1) (pkN m a n (min (A.hi - A.lo) 60000 + 1) s))
def tri (m : Addr → Option PC) (a : Option Addr) (n : Nat) (s : Sr) : Iv × Iv × Sr := ((triA m a n s).1, triP m a n (triA m a n s).1 (triA m a n s).2)
theorem goodI_iff {D : Iv} : goodI D = true ↔ okI D = true ∧ -288230376151711744 ≤ D.lo ∧ D.hi ≤ 288230376151711744 := by simp [goodI]
theorem triA_in {m : Addr → Option PC} {a : Option Addr} {n : Nat} {b : Int} {s : Sr} (hs : SrOk m a n b s) : goodI (triA m a n s).1 = true ∧ SrOk m a n (b + 30) (triA m a n s).2 := by
  have h1 := d04_ok hs
  unfold triA
  split
  · rename_i h; exact ⟨h, h1.mono (by omega)⟩
  · have h2 := sm4_in (most := 50) h1 (by omega)
    have h3 := okI_iff.1 h2.1
    exact ⟨goodI_iff.2 ⟨h2.1, by omega, by omega⟩, h2.2.2.2.2.mono (by omega)⟩
theorem triF_in {m : Addr → Option PC} {a : Option Addr} {n : Nat} {A : Iv} {s : Sr} (h : A.lo ≤ A.hi) : A.lo ≤ triF m a n A s ∧ triF m a n A s ≤ A.hi := by
  have hb := pkV_in (m := m) (a := a) (n := n) (k := min (A.hi - A.lo) 60000 + 1) (x := s)
  have := hb.2 (by omega)
  unfold triF
  omega
theorem triT_in {m : Addr → Option PC} {a : Option Addr} {n : Nat} {A : Iv} {f : Int} {s : Sr} (h : f ≤ A.hi) : f ≤ triT m a n A f s ∧ triT m a n A f s ≤ A.hi := by
  have hb := pkV_in (m := m) (a := a) (n := n) (k := min (A.hi - f) 60000 + 1) (x := s)
  have := hb.2 (by omega)
  unfold triT
  omega
theorem tri_in {m : Addr → Option PC} {a : Option Addr} {n : Nat} {b : Int} {s : Sr} (hs : SrOk m a n b s) : goodI (tri m a n s).1 = true ∧ Part (tri m a n s).2.1 (tri m a n s).1 ∧ SrOk m a n (b + 40) (tri m a n s).2.2 := by
  have h1 := triA_in hs
  have h2 := goodI_iff.1 h1.1
  have h3 := okI_iff.1 h2.1
  have f := triF_in (m := m) (a := a) (n := n) (s := (triA m a n s).2) h3.2.1
  have t := triT_in (m := m) (a := a) (n := n) (s := pkN m a n (min ((triA m a n s).1.hi - (triA m a n s).1.lo) 60000 + 1) (triA m a n s).2) f.2
  refine ⟨h1.1, ⟨?_, h2.1, f.1, t.2⟩, (pkN_ok (pkN_ok h1.2)).mono (by omega)⟩
  show okI ⟨_, _⟩ = true
  rw [okI_mk]; omega
def t1 (m : Addr → Option PC) (a : Option Addr) (n : Nat) : Iv × Iv × Sr := tri m a n ⟨0, 0⟩
def t2 (m : Addr → Option PC) (a : Option Addr) (n : Nat) : Iv × Iv × Sr := tri m a n (t1 m a n).2.2
def t3 (m : Addr → Option PC) (a : Option Addr) (n : Nat) : Iv × Iv × Sr := tri m a n (t2 m a n).2.2
def c2 (x : Iv) : List PC := [.int .i64 x.lo, .int .i64 x.hi]
def c4 (x y : Iv) : List PC := [.int .i64 x.lo, .int .i64 x.hi, .int .i64 y.lo, .int .i64 y.hi]
def c6 (x y z : Iv) : List PC := [.int .i64 x.lo, .int .i64 x.hi, .int .i64 y.lo, .int .i64 y.hi, .int .i64 z.lo, .int .i64 z.hi]
def M_a2 : MT := fun m args h => match args, h with
  | [.c (.p (.sl a n c))], [] => some (Told m a n ∧ n ≤ 1048576, .tup [.c (.row 0 0 3 2), .c (.row 1 0 3 2)], [c6 (t1 m a n).1 (t2 m a n).1 (t3 m a n).1, c6 (t1 m a n).2.1 (t2 m a n).2.1 (t3 m a n).2.1])
  | _, _ => none
theorem M_a2_eq {m : Addr → Option PC} {a : Option Addr} {n c : Nat} : M_a2 m [.c (.p (.sl a n c))] [] = some (Told m a n ∧ n ≤ 1048576, .tup [.c (.row 0 0 3 2), .c (.row 1 0 3 2)], [c6 (t1 m a n).1 (t2 m a n).1 (t3 m a n).1, c6 (t1 m a n).2.1 (t2 m a n).2.1 (t3 m a n).2.1]) := rfl
section
variable {m : Addr → Option PC} {s a1 a2 b1 b2 u1 u2 v1 v2 w1 w2 x1 x2 y1 y2 p1 p2 q1 q2 z1 z2 : PC} {S : List PC}
theorem a2_app0 : appO [S, [], [], [a1, a2], [u1, u2]] m (some (tdRow [z1, z2])) (some [.c (.emp 1 0), .c (.row 4 0 1 2)]) = some (some (.v (.c (.row 5 0 1 2))), [S, [], [], [a1, a2], [u1, u2], [u1, u2]]) := rfl
theorem a2_app1 : appO [S, [], [], [a1, a2], [u1, u2], [x1, x2], [v1, v2]] m (some (tdRow [z1, z2])) (some [.c (.emp 2 0), .c (.row 6 0 1 2)]) = some (some (.v (.c (.row 7 0 1 2))), [S, [], [], [a1, a2], [u1, u2], [x1, x2], [v1, v2], [v1, v2]]) := rfl
variable {A T L U P : List PC}
theorem a2_app2 : appO [S, [], [], A, T, [x1, x2], U, P, [b1, b2], [u1, u2]] m (some (tdRow [z1, z2])) (some [.c (.row 5 0 1 2), .c (.row 9 0 1 2)]) = some (some (.v (.c (.row 10 0 2 2))), [S, [], [], A, T, [], U, P, [b1, b2], [u1, u2], [x1, x2, u1, u2]]) := rfl
theorem a2_app3 : appO [S, [], [], A, T, [], U, [y1, y2], [b1, b2], [u1, u2], L, [v1, v2]] m (some (tdRow [z1, z2])) (some [.c (.row 7 0 1 2), .c (.row 11 0 1 2)]) = some (some (.v (.c (.row 12 0 2 2))), [S, [], [], A, T, [], U, [], [b1, b2], [u1, u2], L, [v1, v2], [y1, y2, v1, v2]]) := rfl
variable {A' T' U' : List PC}
theorem a2_app4 : appO [S, [], [], A, T, [], U, [], A', T', [x1, x2, y1, y2], U', P, [b1, b2], [u1, u2]] m (some (tdRow [z1, z2])) (some [.c (.row 10 0 2 2), .c (.row 14 0 1 2)]) = some (some (.v (.c (.row 15 0 3 2))), [S, [], [], A, T, [], U, [], A', T', [], U', P, [b1, b2], [u1, u2], [x1, x2, y1, y2, u1, u2]]) := rfl
theorem a2_app5 : appO [S, [], [], A, T, [], U, [], A', T', [], U', [x1, x2, y1, y2], [b1, b2], [u1, u2], L, [v1, v2]] m (some (tdRow [z1, z2])) (some [.c (.row 12 0 2 2), .c (.row 16 0 1 2)]) = some (some (.v (.c (.row 17 0 3 2))), [S, [], [], A, T, [], U, [], A', T', [], U', [], [b1, b2], [u1, u2], L, [v1, v2], [x1, x2, y1, y2, v1, v2]]) := rfl
end
def a2I (m : Addr → Option PC) (a : Option Addr) (n c : Nat) (k : Nat) (e : Env) (h : Heap) : Prop := match k with
  | 0 => h = [srC a n c ⟨0, 0⟩, [], []] ∧ look e 5 = some (.v (.c (.emp 1 0))) ∧ look e 6 = some (.v (.c (.emp 2 0)))
  | 1 => (∃ A T U, h = [srC a n c (t1 m a n).2.2, [], [], A, T, c2 (t1 m a n).1, U, c2 (t1 m a n).2.1]) ∧ look e 5 = some (.v (.c (.row 5 0 1 2))) ∧ look e 6 = some (.v (.c (.row 7 0 1 2)))
  | 2 => (∃ A T U A' T' U', h = [srC a n c (t2 m a n).2.2, [], [], A, T, [], U, [], A', T', c4 (t1 m a n).1 (t2 m a n).1, U', c4 (t1 m a n).2.1 (t2 m a n).2.1]) ∧ look e 5 = some (.v (.c (.row 10 0 2 2))) ∧ look e 6 = some (.v (.c (.row 12 0 2 2)))
  | _ => (∃ A T U A' T' U' A'' T'' U'', h = [srC a n c (t3 m a n).2.2, [], [], A, T, [], U, [], A', T', [], U', [], A'', T'', c6 (t1 m a n).1 (t2 m a n).1 (t3 m a n).1, U'', c6 (t1 m a n).2.1 (t2 m a n).2.1 (t3 m a n).2.1]) ∧ look e 5 = some (.v (.c (.row 15 0 3 2))) ∧ look e 6 = some (.v (.c (.row 17 0 3 2)))

theorem a2_end {s A T U A' T' U' A'' T'' U'' L P : List PC} (hL : L ≠ []) (hP : P ≠ []) : endM 0 (.tup [.c (.row 0 0 3 2), .c (.row 1 0 3 2)]) [L, P] [s, [], [], A, T, [], U, [], A', T', [], U', [], A'', T'', L, U'', P] (some [.c (.row 15 0 3 2), .c (.row 17 0 3 2)]) := by
  refine ⟨⟨[15, 17], ?_, ?_, by simp, by simp, by simp, by simp, ?_⟩⟩
  · simp [resSV, SV.ren, AV.ren]
  · intro x hx
    simp at hx
    rcases hx with rfl | rfl <;> simp [AV.plain]
  · intro j k ds hj hd hne
    cases j with
    | zero => simp at hj hd; subst hj; subst hd; simp
    | succ j =>
      cases j with
      | zero => simp at hj hd; subst hj; subst hd; simp
      | succ j => simp at hj

end Go.Proofs.YtcnapkdccjibpaaGreatDoor.Eng
