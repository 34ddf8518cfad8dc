/- What functions of the program compute, and that the program computes it: part 29. -/
import Derived.Test.YtcnapkdccjibpaaGreatDoorShelf
import Derived.Test.YtcnapkdccjibpaaGreatDoorTab
import Derived.Test.YtcnapkdccjibpaaGreatDoorEng16
import Derived.Laws.BitsLemmas
import Derived.Laws.Bits64
import Derived.Laws.Bits64b
import Derived.Lib.Mul64
import Derived.Lib.BitFns
import Derived.Laws.Externs
import Derived.Test.YtcnapkdccjibpaaGreatDoorL1
import Derived.Test.YtcnapkdccjibpaaGreatDoorL2
import Derived.Test.YtcnapkdccjibpaaGreatDoorL4
import Derived.Test.YtcnapkdccjibpaaGreatDoorL5
import Derived.Test.YtcnapkdccjibpaaGreatDoorL7
namespace Go.Proofs.YtcnapkdccjibpaaGreatDoor.Eng
open Go Go.RowKit
set_option linter.unusedVariables false
set_option linter.unusedSimpArgs false
set_option maxRecDepth 100000
set_option maxHeartbeats 1000000
-- texts
theorem endS_s {a0 : List UInt8} {t : List UInt8} {r : SV} {h : Heap} (hr : .v (.c (.p (.str (bs (t))))) = r) (e : a0 = t) : endS r [] h (some [.c (.p (.str (bs a0)))]) := by
  subst e; subst hr; exact ⟨rfl, by simp [SV.res, AV.res, Cl.res], rfl⟩
def pw10 (n : Int) : Int := 10 ^ n.toNat
def F_pow10 : FT
  | [.c (.p (.int .i64 n))], _ => some (0 ≤ n ∧ n ≤ 18, .v (.c (.p (.int .i64 (pw10 n)))), [])
  | _, _ => none
theorem F_pow10_eq {n : Int} {g : List PC} : F_pow10 [.c (.p (.int .i64 n))] g = some (0 ≤ n ∧ n ≤ 18, .v (.c (.p (.int .i64 (pw10 n)))), []) := rfl
def F_dec : FT
  | [.c (.p (.int .i64 n))], _ => some (-9223372036854775808 ≤ n ∧ n ≤ 9223372036854775807, .v (.c (.p (.str (bs (Lib.itoa n))))), [])
  | _, _ => none
theorem F_dec_eq {n : Int} {g : List PC} : F_dec [.c (.p (.int .i64 n))] g = some (-9223372036854775808 ≤ n ∧ n ≤ 9223372036854775807, .v (.c (.p (.str (bs (Lib.itoa n))))), []) := rfl
def F_fmtInt : FT
  | [.c (.p (.int .i64 n)), .c (.p (.int .i64 b))], _ => some ((-9223372036854775808 ≤ n ∧ n ≤ 9223372036854775807) ∧ b = 10, .v (.c (.p (.str (bs (Lib.itoa n))))), [])
  | _, _ => none
theorem F_fmtInt_eq {n : Int} {b : Int} {g : List PC} : F_fmtInt [.c (.p (.int .i64 n)), .c (.p (.int .i64 b))] g = some ((-9223372036854775808 ≤ n ∧ n ≤ 9223372036854775807) ∧ b = 10, .v (.c (.p (.str (bs (Lib.itoa n))))), []) := rfl
def F_repeat1 : FT
  | [.c (.p (.str s)), .c (.p (.int .i64 c))], _ => some ((0 ≤ c ∧ c ≤ 1000) ∧ (s.data.toList).length ≤ 1000, .v (.c (.p (.str (bs (Lib.repeatL (s.data.toList) c.toNat))))), [])
  | _, _ => none
theorem F_repeat1_eq {s : ByteArray} {c : Int} {g : List PC} : F_repeat1 [.c (.p (.str s)), .c (.p (.int .i64 c))] g = some ((0 ≤ c ∧ c ≤ 1000) ∧ (s.data.toList).length ≤ 1000, .v (.c (.p (.str (bs (Lib.repeatL (s.data.toList) c.toNat))))), []) := rfl
/-- A number of units of the last of d digits, as bytes. -/
def zeros (d : Int) (l : List UInt8) : List UInt8 := List.replicate (d.toNat - l.length) 48 ++ l
def unitsL (m d : Int) : List UInt8 := (if m < 0 then [45] else []) ++ Lib.itoa (absZ m / pw10 d) ++ (if d = 0 then [] else [46] ++ zeros d (Lib.itoa (absZ m % pw10 d)))
def F_units : FT
  | [.c (.p (.int .i64 m)), .c (.p (.int .i64 d))], _ => some ((-9223372036854775808 < m ∧ m ≤ 9223372036854775807) ∧ 0 ≤ d ∧ d ≤ 9, .v (.c (.p (.str (bs (unitsL m d))))), [])
  | _, _ => none
theorem F_units_eq {m : Int} {d : Int} {g : List PC} : F_units [.c (.p (.int .i64 m)), .c (.p (.int .i64 d))] g = some ((-9223372036854775808 < m ∧ m ≤ 9223372036854775807) ∧ 0 ≤ d ∧ d ≤ 9, .v (.c (.p (.str (bs (unitsL m d))))), []) := rfl
def textD (n d : Int) : List UInt8 := if fixOk n && within d 0 9 then unitsL (mulFloor n (pw10 d) 32).1 d else []
def textU (n d : Int) : List UInt8 := if fixOk n && within d 0 9 then unitsL (-(mulFloor (-n) (pw10 d) 32).1) d else []
def F_textD : FT
  | [.c (.p (.int .i64 n)), .c (.p (.int .i64 d))], _ => some (True, .v (.c (.p (.str (bs (textD n d))))), [])
  | _, _ => none
theorem F_textD_eq {n : Int} {d : Int} {g : List PC} : F_textD [.c (.p (.int .i64 n)), .c (.p (.int .i64 d))] g = some (True, .v (.c (.p (.str (bs (textD n d))))), []) := rfl
def F_textU : FT
  | [.c (.p (.int .i64 n)), .c (.p (.int .i64 d))], _ => some (True, .v (.c (.p (.str (bs (textU n d))))), [])
  | _, _ => none
theorem F_textU_eq {n : Int} {d : Int} {g : List PC} : F_textU [.c (.p (.int .i64 n)), .c (.p (.int .i64 d))] g = some (True, .v (.c (.p (.str (bs (textU n d))))), []) := rfl
def F_textB : FT
  | [.c (.p (.int .i64 n)), .c (.p (.int .i64 d)), .c (.p (.bool up))], _ => some (True, .v (.c (.p (.str (bs (if up then textU n d else textD n d))))), [])
  | _, _ => none
theorem F_textB_eq {n : Int} {d : Int} {up : Bool} {g : List PC} : F_textB [.c (.p (.int .i64 n)), .c (.p (.int .i64 d)), .c (.p (.bool up))] g = some (True, .v (.c (.p (.str (bs (if up then textU n d else textD n d))))), []) := rfl
def wholeL : List UInt8 := [119, 104, 111, 108, 101]
def ivL (a : Iv) : List UInt8 := if okI a then [91] ++ textD a.lo 9 ++ [44, 32] ++ textU a.hi 9 ++ [93] else wholeL
def F_ivText : FT
  | [.agg [.int .i64 a1, .int .i64 a2]], _ => some (True, .v (.c (.p (.str (bs (ivL (Iv.mk a1 a2)))))), [])
  | _, _ => none
theorem F_ivText_eq {a1 : Int} {a2 : Int} {g : List PC} : F_ivText [.agg [.int .i64 a1, .int .i64 a2]] g = some (True, .v (.c (.p (.str (bs (ivL (Iv.mk a1 a2)))))), []) := rfl
theorem pw10_in {n : Int} (h : 0 ≤ n ∧ n ≤ 18) : 1 ≤ pw10 n ∧ pw10 n ≤ 1000000000000000000 := by
  have : ∀ k : Nat, k < 19 → (1 : Int) ≤ 10 ^ k ∧ (10 : Int) ^ k ≤ 1000000000000000000 := by decide
  exact this n.toNat (by omega)
theorem pw10_0 : pw10 0 = 1 := rfl
theorem pw10_s {n : Int} (h : 0 ≤ n) : pw10 (n + 1) = pw10 n * 10 := by
  unfold pw10
  rw [show (n + 1).toNat = n.toNat + 1 by omega, Int.pow_succ]

-- lib texts
theorem hr_plain {w w' : World} (h : Below w.heap.size w w') : HR w [] [] w' := ⟨rfl, fun i cs h => by simp at h, fun i j ci cj _ h => by simp at h, h⟩
theorem below_grown (w : World) (k : Nat) (os : Array Obj) : Below w.heap.size w (Go.Sort.grow (w.drewN k) os) :=
  ⟨rfl, rfl, rfl, by simp [Go.Sort.grow, World.drewN], fun j hj => by simp only [Go.Sort.grow, World.drewN]; exact Array.getElem?_append_left hj⟩
theorem tab_pow10 {w : World} (ht : Tabs w) : Lib.TabIs Tryz.prog w "internal/strconv.uint64pow10" .u64 Lib.pow10Tab := by
  have hg : Tryz.prog.globalNamed "internal/strconv.uint64pow10" = some 5 := by kernel_rfl
  obtain ⟨e, t, h⟩ := ht.tab (5, .u64, Lib.pow10Tab) (by
    show _ ∈ laidTabs
    have : Lib.pow10Tab = [1, 10, 100, 1000, 10000, 100000, 1000000, 10000000, 100000000, 1000000000, 10000000000, 100000000000, 1000000000000, 10000000000000, 100000000000000, 1000000000000000, 10000000000000000, 100000000000000000, 1000000000000000000, 10000000000000000000] := by decide
    rw [this]
    exact List.mem_cons_self)
  unfold Lib.TabIs World.var?
  rw [hg]
  simp only [Option.bind_some, h]

-- strconv.FormatInt
theorem strconv_FormatInt_fmtInt_ok : Fn Tryz.prog 122 F_fmtInt := by
  refine ⟨enters_of Tryz.func122 (by kernel_rfl) rfl, fun args g pre r new hF hp hwf G w hG => ?_⟩
  unfold F_fmtInt at hF
  clear hwf
  split at hF
  · rename_i n b
    simp only [Option.some.injEq, Prod.mk.injEq] at hF
    obtain ⟨rfl, hr, rfl⟩ := hF
    obtain ⟨⟨h0, h1⟩, rfl⟩ := hp
    refine (Go.Proofs.Tryz.strconv_FormatInt_10 n h0 h1 w (tab_pow10 hG.tabs)).mono ?_
    rintro e w' ⟨rfl, k, os, rfl⟩
    subst hr
    exact ⟨[], rfl, hr_plain (below_grown w k os), trivial⟩
  · cases hF

-- strings.Repeat
theorem strings_Repeat_repeat1_ok : Fn Tryz.prog 100 F_repeat1 := by
  refine ⟨enters_of Tryz.func100 (by kernel_rfl) rfl, fun args g pre r new hF hp hwf G w hG => ?_⟩
  unfold F_repeat1 at hF
  clear hwf
  split at hF
  · rename_i s c
    simp only [Option.some.injEq, Prod.mk.injEq] at hF
    obtain ⟨rfl, hr, rfl⟩ := hF
    obtain ⟨⟨h0, h1⟩, hs⟩ := hp
    obtain ⟨n, rfl⟩ : ∃ n : Nat, c = n := ⟨c.toNat, by omega⟩
    have hsz : s.size ≤ 1000 := by
      have : s.size = s.data.toList.length := by rw [Array.length_toList]; rfl
      omega
    have hm : s.size * n ≤ 1000 * 1000 := Nat.mul_le_mul hsz (by omega)
    refine (Go.Proofs.Tryz.strings_Repeat s n w (by omega) (by omega)).mono ?_
    rintro e w' ⟨rfl, hb⟩
    subst hr
    exact ⟨[], rfl, hr_plain hb, trivial⟩
  · cases hF

-- impl.Decimal
theorem impl_Decimal_dec_ok : Fn Tryz.prog 99 F_dec := by
  refine fn_of_go (O := orc [⟨122, F_fmtInt, .inl strconv_FormatInt_fmtInt_ok⟩]) mixed T_ok (orc_sound _) Tryz.func99 (by kernel_rfl) rfl Tryz.ntmps99 (by kernel_rfl) Tryz.results99 ?_
  intro args g pre r new hF hpre
  unfold F_dec at hF
  split at hF
  · rename_i n
    simp only [Option.some.injEq, Prod.mk.injEq] at hF
    obtain ⟨rfl, hr, rfl⟩ := hF
    refine ⟨by simp, ?_⟩
    simp (config := { maxSteps := 4000000, implicitDefEqProofs := false }) only [F_fmtInt_eq, WK0, WK1, WK2, WK3, WK4, WK5, WK6, WK7, WK8, WK9, WK10, WK11, WK12, WK13, WK14, WK15, WK16, WK17, WK18, WK19, WK20, WK21, WK22, WK23, WK24, WK25, WK26, WK27, WK28, WK29, WK30, look_hit, look_miss, List.map_cons, List.map_nil, Nat.add_zero, max_v, min_v, ↓cnd_t, ↓cnd_f, ↓grd_b, ↓grd_u, startEnv, Option.map_some, List.length_nil, List.length_cons, List.nil_append, List.cons_append, List.getElem?_cons_zero, List.getElem?_cons_succ, List.set_cons_zero, List.set_cons_succ, Bool.not_true, Bool.not_false, reduceIte, Nat.reduceEqDiff, Nat.reduceAdd, Nat.reduceLT, blt_lit, beq_lit, Bool.or_true, Bool.true_or, Bool.or_false, Bool.false_or, Bool.and_true, Bool.true_and, Bool.and_self, cond_true, cond_false, List.append_nil, Iv.eta, Option.map_none, idxO_l0, idxO_l1, decide_true, decide_false, reqs_true, Int.zero_sub, wrap_lit, wrapu_lit, Int.reduceLE, Int.reduceLT, Int.reduceAdd, Int.reduceSub, Int.reduceMul, Int.reduceNeg, Int.reduceEq, Option.bind_some, bin_shr_u64, bin_shl_u64, bin_shr_i64, bin_shl_i64, and_m32', Int.reduceToNat, Int.reducePow, Int.reduceMod, Int.reduceDiv, wrap_u64s, true_or, or_true, true_and, and_true, Option.isSome_none, Option.isSome_some, Nat.reduceLeDiff, Nat.reduceMul, Int.toNat_natCast, Int.cast_ofNat_Int, Int.natCast_zero, Int.natCast_one, List.isEmpty_nil, List.isEmpty_cons, List.replicate_zero, List.replicate_succ, T1, T2, T3, T4, T5, T6, T9, T10, T11, T12, T21, T22, T23, T25, T26, T27, T28, T29, T30, T32, T33, T34, T35, T36, T37, T38, T39, T40, T41, T42, T43, T44, T46, T48, T50, T52, T53, T54, T55, T56, T57, T58, T59, T61, T62, T63, T64, T65, T66, T67, T68, T69, T70, T71, T72, T73, T74, T75, T76, T77, T78, T79, T80, T81, T82, T83, T84, T85, T87, T89, T91, T92, T93, T95, T96, T97, T98, T102, T103, T105, T107, T108, T109, T110, T112, T116, T120, T121, T122, T123, T124, T125, T126, T128, T130, T131, T132, T134, T135, T136, T137, T138, T140, T142, T143, T145, T146, T148, T149, T150, T152, T153, T154, T155, T156, T163, T164, T165, T166, T167]
    repeat' (first | with_reducible refine cnd_split (fun hc => ?_) (fun hc => ?_) | with_reducible refine Reqs.mk ?_ ?_)
    all_goals first
      | trivial
      | (refine endS_s (t := (Lib.itoa n)) hr ?_; rfl)
      | exact ⟨hpre, rfl⟩
  · cases hF

-- impl.powerOfTen
theorem impl_powerOfTen_pow10_ok : Fn Tryz.prog 71 F_pow10 := by
  refine fn_of_go (O := orc []) mixed T_ok (orc_sound _) Tryz.func71 (by kernel_rfl) rfl Tryz.ntmps71 (by kernel_rfl) Tryz.results71 ?_
  intro args g pre r new hF hpre
  unfold F_pow10 at hF
  split at hF
  · rename_i n
    simp only [Option.some.injEq, Prod.mk.injEq] at hF
    obtain ⟨rfl, hr, rfl⟩ := hF
    refine ⟨by simp, ?_⟩
    simp (config := { maxSteps := 4000000, implicitDefEqProofs := false }) only [WK0, WK1, WK2, WK3, WK4, WK5, WK6, WK7, WK8, WK9, WK10, WK11, WK12, WK13, WK14, WK15, WK16, WK17, WK18, WK19, WK20, WK21, WK22, WK23, WK24, WK25, WK26, WK27, WK28, WK29, WK30, look_hit, look_miss, List.map_cons, List.map_nil, Nat.add_zero, max_v, min_v, ↓cnd_t, ↓cnd_f, ↓grd_b, ↓grd_u, startEnv, Option.map_some, List.length_nil, List.length_cons, List.nil_append, List.cons_append, List.getElem?_cons_zero, List.getElem?_cons_succ, List.set_cons_zero, List.set_cons_succ, Bool.not_true, Bool.not_false, reduceIte, Nat.reduceEqDiff, Nat.reduceAdd, Nat.reduceLT, blt_lit, beq_lit, Bool.or_true, Bool.true_or, Bool.or_false, Bool.false_or, Bool.and_true, Bool.true_and, Bool.and_self, cond_true, cond_false, List.append_nil, Iv.eta, Option.map_none, idxO_l0, idxO_l1, decide_true, decide_false, reqs_true, Int.zero_sub, wrap_lit, wrapu_lit, Int.reduceLE, Int.reduceLT, Int.reduceAdd, Int.reduceSub, Int.reduceMul, Int.reduceNeg, Int.reduceEq, Option.bind_some, bin_shr_u64, bin_shl_u64, bin_shr_i64, bin_shl_i64, and_m32', Int.reduceToNat, Int.reducePow, Int.reduceMod, Int.reduceDiv, wrap_u64s, true_or, or_true, true_and, and_true, Option.isSome_none, Option.isSome_some, Nat.reduceLeDiff, Nat.reduceMul, Int.toNat_natCast, Int.cast_ofNat_Int, Int.natCast_zero, Int.natCast_one, List.isEmpty_nil, List.isEmpty_cons, List.replicate_zero, List.replicate_succ, T1, T2, T3, T4, T5, T6, T9, T10, T11, T12, T21, T22, T23, T25, T26, T27, T28, T29, T30, T32, T33, T34, T35, T36, T37, T38, T39, T40, T41, T42, T43, T44, T46, T48, T50, T52, T53, T54, T55, T56, T57, T58, T59, T61, T62, T63, T64, T65, T66, T67, T68, T69, T70, T71, T72, T73, T74, T75, T76, T77, T78, T79, T80, T81, T82, T83, T84, T85, T87, T89, T91, T92, T93, T95, T96, T97, T98, T102, T103, T105, T107, T108, T109, T110, T112, T116, T120, T121, T122, T123, T124, T125, T126, T128, T130, T131, T132, T134, T135, T136, T137, T138, T140, T142, T143, T145, T146, T148, T149, T150, T152, T153, T154, T155, T156, T163, T164, T165, T166, T167]
    refine go_loop (α := Nat) (fun j => j) (fun j e h => look e 4 = some (.v (.c (.p (.int .i64 n)))) ∧ look e 5 = some (.v (.c (.p (.int .i64 (n - (j : Int)))))) ∧ look e 3 = some (.v (.c (.p (.int .i64 (pw10 (n - (j : Int))))))) ∧ (j : Int) ≤ n) n.toNat ⟨rfl, ?_, ?_, by omega⟩ ?_
    · show some (SV.v (.c (.p (.int .i64 0)))) = _
      congr 5; omega
    · show some (SV.v (.c (.p (.int .i64 1)))) = _
      rw [show n - ((n.toNat : Nat) : Int) = 0 by omega]; rfl
    · rintro X j e h ⟨l4, l5, l3, hj⟩ hX
      cases j with
      | zero =>
        obtain ⟨C, eC⟩ : ∃ C : Int, n - ((0 : Nat) : Int) = C := ⟨_, rfl⟩
        rw [eC] at l5 l3
        have e0 : decide (C < n) = false := by simp only [decide_eq_false_iff_not]; omega
        simp (config := { maxSteps := 4000000, implicitDefEqProofs := false }) only [WK0, WK1, WK2, WK3, WK4, WK5, WK6, WK7, WK8, WK9, WK10, WK11, WK12, WK13, WK14, WK15, WK16, WK17, WK18, WK19, WK20, WK21, WK22, WK23, WK24, WK25, WK26, WK27, WK28, WK29, WK30, look_hit, look_miss, List.map_cons, List.map_nil, Nat.add_zero, max_v, min_v, ↓cnd_t, ↓cnd_f, ↓grd_b, ↓grd_u, startEnv, Option.map_some, List.length_nil, List.length_cons, List.nil_append, List.cons_append, List.getElem?_cons_zero, List.getElem?_cons_succ, List.set_cons_zero, List.set_cons_succ, Bool.not_true, Bool.not_false, reduceIte, Nat.reduceEqDiff, Nat.reduceAdd, Nat.reduceLT, blt_lit, beq_lit, Bool.or_true, Bool.true_or, Bool.or_false, Bool.false_or, Bool.and_true, Bool.true_and, Bool.and_self, cond_true, cond_false, List.append_nil, Iv.eta, Option.map_none, idxO_l0, idxO_l1, decide_true, decide_false, reqs_true, Int.zero_sub, wrap_lit, wrapu_lit, Int.reduceLE, Int.reduceLT, Int.reduceAdd, Int.reduceSub, Int.reduceMul, Int.reduceNeg, Int.reduceEq, Option.bind_some, bin_shr_u64, bin_shl_u64, bin_shr_i64, bin_shl_i64, and_m32', Int.reduceToNat, Int.reducePow, Int.reduceMod, Int.reduceDiv, wrap_u64s, true_or, or_true, true_and, and_true, Option.isSome_none, Option.isSome_some, Nat.reduceLeDiff, Nat.reduceMul, Int.toNat_natCast, Int.cast_ofNat_Int, Int.natCast_zero, Int.natCast_one, List.isEmpty_nil, List.isEmpty_cons, List.replicate_zero, List.replicate_succ, T1, T2, T3, T4, T5, T6, T9, T10, T11, T12, T21, T22, T23, T25, T26, T27, T28, T29, T30, T32, T33, T34, T35, T36, T37, T38, T39, T40, T41, T42, T43, T44, T46, T48, T50, T52, T53, T54, T55, T56, T57, T58, T59, T61, T62, T63, T64, T65, T66, T67, T68, T69, T70, T71, T72, T73, T74, T75, T76, T77, T78, T79, T80, T81, T82, T83, T84, T85, T87, T89, T91, T92, T93, T95, T96, T97, T98, T102, T103, T105, T107, T108, T109, T110, T112, T116, T120, T121, T122, T123, T124, T125, T126, T128, T130, T131, T132, T134, T135, T136, T137, T138, T140, T142, T143, T145, T146, T148, T149, T150, T152, T153, T154, T155, T156, T163, T164, T165, T166, T167, l4, l5, l3, e0]
        refine endS_i (t := (pw10 n)) hr ?_
        rw [← eC]; simp
      | succ j =>
        obtain ⟨C, eC⟩ : ∃ C : Int, n - ((j + 1 : Nat) : Int) = C := ⟨_, rfl⟩
        rw [eC] at l5 l3
        have e0 : decide (C < n) = true := by simp only [decide_eq_true_eq]; omega
        have b0 := @pw10_in C (by omega)
        have b1 := @pw10_in (C + 1) (by omega)
        have b2 := @pw10_s C (by omega)
        have e1 : IntKind.i64.wrap (C + 1) = n - (j : Int) := by rw [wrap_om (by omega) (by omega)]; omega
        have e2 : IntKind.i64.wrap (pw10 C * 10) = pw10 (n - (j : Int)) := by rw [wrap_om (by omega) (by omega), show n - (j : Int) = C + 1 by omega, b2]
        simp (config := { maxSteps := 4000000, implicitDefEqProofs := false }) only [WK0, WK1, WK2, WK3, WK4, WK5, WK6, WK7, WK8, WK9, WK10, WK11, WK12, WK13, WK14, WK15, WK16, WK17, WK18, WK19, WK20, WK21, WK22, WK23, WK24, WK25, WK26, WK27, WK28, WK29, WK30, look_hit, look_miss, List.map_cons, List.map_nil, Nat.add_zero, max_v, min_v, ↓cnd_t, ↓cnd_f, ↓grd_b, ↓grd_u, startEnv, Option.map_some, List.length_nil, List.length_cons, List.nil_append, List.cons_append, List.getElem?_cons_zero, List.getElem?_cons_succ, List.set_cons_zero, List.set_cons_succ, Bool.not_true, Bool.not_false, reduceIte, Nat.reduceEqDiff, Nat.reduceAdd, Nat.reduceLT, blt_lit, beq_lit, Bool.or_true, Bool.true_or, Bool.or_false, Bool.false_or, Bool.and_true, Bool.true_and, Bool.and_self, cond_true, cond_false, List.append_nil, Iv.eta, Option.map_none, idxO_l0, idxO_l1, decide_true, decide_false, reqs_true, Int.zero_sub, wrap_lit, wrapu_lit, Int.reduceLE, Int.reduceLT, Int.reduceAdd, Int.reduceSub, Int.reduceMul, Int.reduceNeg, Int.reduceEq, Option.bind_some, bin_shr_u64, bin_shl_u64, bin_shr_i64, bin_shl_i64, and_m32', Int.reduceToNat, Int.reducePow, Int.reduceMod, Int.reduceDiv, wrap_u64s, true_or, or_true, true_and, and_true, Option.isSome_none, Option.isSome_some, Nat.reduceLeDiff, Nat.reduceMul, Int.toNat_natCast, Int.cast_ofNat_Int, Int.natCast_zero, Int.natCast_one, List.isEmpty_nil, List.isEmpty_cons, List.replicate_zero, List.replicate_succ, T1, T2, T3, T4, T5, T6, T9, T10, T11, T12, T21, T22, T23, T25, T26, T27, T28, T29, T30, T32, T33, T34, T35, T36, T37, T38, T39, T40, T41, T42, T43, T44, T46, T48, T50, T52, T53, T54, T55, T56, T57, T58, T59, T61, T62, T63, T64, T65, T66, T67, T68, T69, T70, T71, T72, T73, T74, T75, T76, T77, T78, T79, T80, T81, T82, T83, T84, T85, T87, T89, T91, T92, T93, T95, T96, T97, T98, T102, T103, T105, T107, T108, T109, T110, T112, T116, T120, T121, T122, T123, T124, T125, T126, T128, T130, T131, T132, T134, T135, T136, T137, T138, T140, T142, T143, T145, T146, T148, T149, T150, T152, T153, T154, T155, T156, T163, T164, T165, T166, T167, l4, l5, l3, e0, e1, e2]
        refine hX j _ _ (Nat.lt_succ_self j) ⟨?_, ?_, ?_, by omega⟩
        all_goals (try simp only [look])
        all_goals simp [l4]
  · cases hF

-- digits
/-- The digits of what is left. -/
def decB (u : Nat) : List UInt8 := if u = 0 then [] else Lib.decDigits u
theorem decB_step {u : Nat} (h : u ≠ 0) : decB u = decB (u / 10) ++ [UInt8.ofNat (48 + u % 10)] := by
  unfold decB
  rw [if_neg h]
  by_cases h2 : u < 10
  · rw [if_pos (by omega), Lib.decDigits, dif_pos h2, Nat.mod_eq_of_lt h2]; rfl
  · rw [if_neg (by omega), Lib.decDigits, dif_neg h2]
theorem itoa_B (n : Int) : Lib.itoa n = if n = 0 then [48] else if n < 0 then [45] ++ decB n.natAbs else decB n.natAbs := by
  unfold Lib.itoa decB
  by_cases h : n = 0
  · subst h; rw [if_pos rfl, if_neg (by decide)]; rw [Lib.decDigits, dif_pos (by decide)]; rfl
  · rw [if_neg h]
    by_cases h2 : n < 0
    · rw [if_pos h2, if_pos h2, if_neg (by omega)]; rfl
    · rw [if_neg h2, if_neg h2, if_neg (by omega), show n.toNat = n.natAbs by omega]
theorem decB_len : ∀ (k u : Nat), u < 10 ^ k → (decB u).length ≤ k
  | 0, u, h => by have : u = 0 := by simpa using h
                  subst this; exact Nat.le_refl _
  | k + 1, u, h => by
    by_cases h0 : u = 0
    · subst h0; simp [decB]
    · rw [decB_step h0, List.length_append, List.length_singleton]
      have := decB_len k (u / 10) (by rw [Nat.pow_succ] at h; omega)
      omega
theorem bytesC_app : ∀ (a b : List PC) {x y : List UInt8}, bytesC a = some x → bytesC b = some y → bytesC (a ++ b) = some (x ++ y)
  | [], b, x, y, h1, h2 => by simp [bytesC] at h1; subst h1; simpa using h2
  | .int k v :: r, b, x, y, h1, h2 => by
    cases k <;> simp only [bytesC] at h1 <;> try (cases h1; done)
    split at h1
    · rename_i l hl
      simp at h1; subst h1
      simp only [List.cons_append, bytesC, bytesC_app r b hl h2]
    · cases h1
  | .bool _ :: r, b, x, y, h1, h2 => by simp [bytesC] at h1
  | .str _ :: r, b, x, y, h1, h2 => by simp [bytesC] at h1
  | .fn _ :: r, b, x, y, h1, h2 => by simp [bytesC] at h1
  | .sl _ _ _ :: r, b, x, y, h1, h2 => by simp [bytesC] at h1
  | .nf :: r, b, x, y, h1, h2 => by simp [bytesC] at h1
  | .np :: r, b, x, y, h1, h2 => by simp [bytesC] at h1

-- bytes in front
theorem row_bytes {h : Heap} {m : Addr → Option PC} {i k : Nat} {cs : List PC} (hi : h[i]? = some cs) (hl : cs.length = k) (hne : cs ≠ []) : rowCells 1 h m (.c (.row i 0 k 1)) = some (k, cs) := by
  simp only [rowCells]
  rw [if_pos trivial, hi]
  simp only
  rw [if_pos ⟨by omega, hne⟩, List.drop_zero, Nat.mul_one, ← hl, List.take_length]
theorem app_front {h : Heap} {m : Addr → Option PC} {i k : Nat} {cs : List PC} {x : PC} {v : Int} (hi : h[i]? = some cs) (hl : cs.length = k) (hne : cs ≠ []) (hk : k ≤ 1048576) :
    appO (h ++ [[x]]) m (some (tdRow [.int .u8 v])) (some [.c (.row h.length 0 1 1), .c (.row i 0 k 1)]) = some (some (.v (.c (.row (h.length + 1) 0 (1 + k) 1))), (h ++ [[x]]).set h.length [] ++ [[x] ++ cs]) := by
  have hil := (List.getElem?_eq_some_iff.1 hi).1
  have hrc : rowCells 1 (h ++ [[x]]) m (.c (.row i 0 k 1)) = some (k, cs) := row_bytes (by rw [List.getElem?_append_left hil]; exact hi) hl hne
  have hz : (tdRow [PC.int IntKind.u8 v]).ez1.length = 1 := rfl
  have hr : (tdRow [PC.int IntKind.u8 v]).row = true := rfl
  simp only [appO, hr, if_true, hz, hrc, appF]
  rw [if_pos ⟨by omega, .inr rfl, hk⟩, if_pos ⟨trivial, by omega, by omega⟩]
  simp
theorem app_front0 {h : Heap} {m : Addr → Option PC} {i o : Nat} {x : PC} {v : Int} :
    appO (h ++ [[x]]) m (some (tdRow [.int .u8 v])) (some [.c (.row h.length 0 1 1), .c (.emp i o)]) = some (some (.v (.c (.row (h.length + 1) 0 1 1))), (h ++ [[x]]).set h.length [] ++ [[x]]) := by
  have hrc : rowCells 1 (h ++ [[x]]) m (.c (.emp i o)) = some (0, []) := rfl
  have hz : (tdRow [PC.int IntKind.u8 v]).ez1.length = 1 := rfl
  have hr : (tdRow [PC.int IntKind.u8 v]).row = true := rfl
  simp only [appO, hr, if_true, hz, hrc, appF]
  rw [if_pos ⟨by simp, .inr rfl, by omega⟩, if_pos ⟨trivial, by omega, by omega⟩]
  simp
/-- Where the digits are that were put down. -/
def OutAt (e : Env) (h : Heap) (t : Nat) (L : List UInt8) : Prop :=
  (L = [] ∧ ∃ i o, look e t = some (.v (.c (.emp i o)))) ∨ (∃ i cs, look e t = some (.v (.c (.row i 0 cs.length 1))) ∧ h[i]? = some cs ∧ cs ≠ [] ∧ bytesC cs = some L ∧ cs.length = L.length)
theorem dig_wrap : ∀ d : Nat, d < 10 → IntKind.i64.wrap (48 + (d : Int)) = 48 + (d : Int) ∧ IntKind.u8.wrap (48 + (d : Int)) = 48 + (d : Int) ∧ UInt8.ofNat (48 + (d : Int)).toNat = UInt8.ofNat (48 + d) := by decide
theorem set_last {h : Heap} {x y : List PC} {z : List (List PC)} : ((h ++ [x]).set h.length y ++ z)[h.length + 1]? = z[0]? := by
  rw [List.getElem?_append_right (by simp)]; simp
theorem decB_le {n : Int} (h0 : -9223372036854775808 ≤ n) (h1 : n ≤ 9223372036854775807) : (decB n.natAbs).length ≤ 19 := decB_len 19 _ (by omega)

-- units
theorem itoa_len {n : Int} (h0 : -9223372036854775808 ≤ n) (h1 : n ≤ 9223372036854775807) : (Lib.itoa n).length ≤ 20 := by
  have := decB_le h0 h1
  rw [itoa_B]
  split
  · simp
  · split <;> simp <;> omega
theorem itoa_len_d {n d : Int} (h0 : 0 ≤ n) (h1 : n < pw10 d) (hd : 1 ≤ d) : ((Lib.itoa n).length : Int) ≤ d := by
  have h2 : n.natAbs < 10 ^ d.toNat := by
    have : ((n.natAbs : Nat) : Int) < ((10 ^ d.toNat : Nat) : Int) := by
      rw [Int.natCast_pow]
      show _ < pw10 d
      omega
    exact Int.ofNat_lt.1 this
  have := decB_len d.toNat n.natAbs h2
  rw [itoa_B]
  split
  · simp; omega
  · rw [if_neg (by omega)]; omega
theorem itoa_pos (n : Int) : 1 ≤ (Lib.itoa n).length := by
  rw [itoa_B]
  split
  · simp
  · rename_i h
    have : 1 ≤ (decB n.natAbs).length := by
      unfold decB; rw [if_neg (by omega), Lib.decDigits_length]; exact Lib.nDigits_pos _
    split <;> simp <;> omega
theorem absZ_nn {x : Int} : 0 ≤ absZ x := by unfold absZ; split <;> omega
/-- What the units' parts are. -/
structure UnitsOk (m d : Int) (A P : Int) : Prop where
  a0 : 0 ≤ A
  a1 : A ≤ 9223372036854775807
  pa : 1 ≤ P
  pb : P ≤ 1000000000000000000
  zP : decide (P = 0) = false
  ut : A.tdiv P = A / P
  ur : A.tmod P = A % P
  uw : IntKind.i64.wrap (A / P) = A / P
  uq : 0 ≤ A / P ∧ A / P ≤ 9223372036854775807
  ux : 0 ≤ A % P ∧ A % P < P
theorem units_ok {m d : Int} (h : (-9223372036854775808 < m ∧ m ≤ 9223372036854775807) ∧ 0 ≤ d ∧ d ≤ 9) : UnitsOk m d (absZ m) (pw10 d) := by
  have p := @pw10_in d (by omega)
  have a0 : 0 ≤ absZ m := absZ_nn
  have a1 : absZ m ≤ 9223372036854775807 := by unfold absZ; split <;> omega
  have q0 : 0 ≤ absZ m / pw10 d := Int.ediv_nonneg a0 (by omega)
  have q1 : absZ m / pw10 d ≤ absZ m := Int.ediv_le_self _ a0
  exact ⟨a0, a1, p.1, p.2, by simp only [decide_eq_false_iff_not]; omega, Int.tdiv_eq_ediv_of_nonneg a0, Int.tmod_eq_emod_of_nonneg a0, wrap_om (by omega) (by omega), ⟨q0, by omega⟩, ⟨Int.emod_nonneg _ (by omega), Int.emod_lt_of_pos _ (by omega)⟩⟩
theorem rep_48 (c : Nat) : Lib.repeatL [48] c = List.replicate c 48 := by
  have := Lib.repeatL_replicate 48 1 c
  simpa using this

-- impl.digitsText
theorem impl_digitsText_units_ok : Fn Tryz.prog 82 F_units := by
  refine fn_of_go (O := orc [⟨71, F_pow10, .inl impl_powerOfTen_pow10_ok⟩, ⟨99, F_dec, .inl impl_Decimal_dec_ok⟩, ⟨100, F_repeat1, .inl strings_Repeat_repeat1_ok⟩]) mixed T_ok (orc_sound _) Tryz.func82 (by kernel_rfl) rfl Tryz.ntmps82 (by kernel_rfl) Tryz.results82 ?_
  intro args g pre r new hF hpre
  unfold F_units at hF
  split at hF
  · rename_i m d
    simp only [Option.some.injEq, Prod.mk.injEq] at hF
    obtain ⟨rfl, hr, rfl⟩ := hF
    refine ⟨by simp, ?_⟩
    have ok := units_ok hpre
    obtain ⟨a0, a1, pa, pb, zP, ut, ur, uw, uq, ux⟩ := ok
    have hU : unitsL m d = (if m < 0 then [45] else []) ++ Lib.itoa (absZ m / pw10 d) ++ (if d = 0 then [] else [46] ++ zeros d (Lib.itoa (absZ m % pw10 d))) := rfl
    have k1 := @itoa_len (absZ m / pw10 d) (by omega) (by omega)
    have k2 := @itoa_len (absZ m % pw10 d) (by omega) (by omega)
    have k3 := fun h1 => @itoa_len_d (absZ m % pw10 d) d ux.1 ux.2 h1
    obtain ⟨s1, hs1⟩ : ∃ s1, Lib.itoa (absZ m / pw10 d) = s1 := ⟨_, rfl⟩
    obtain ⟨s2, hs2⟩ : ∃ s2, Lib.itoa (absZ m % pw10 d) = s2 := ⟨_, rfl⟩
    rw [hs1, hs2] at hU
    rw [hs1] at k1
    rw [hs2] at k2 k3
    obtain ⟨sg, hsg⟩ : ∃ sg : List UInt8, (if m < 0 then [45] else []) = sg := ⟨_, rfl⟩
    have sgl : sg.length ≤ 1 := by rw [← hsg]; split <;> simp
    rw [hsg] at hU
    obtain ⟨rp, hrp⟩ : ∃ rp, Lib.repeatL [48] (IntKind.i64.wrap (d - (s2.length : Int))).toNat = rp := ⟨_, rfl⟩
    have rpe : rp = List.replicate (d.toNat - s2.length) 48 := by
      rw [← hrp, rep_48, wrap_om (by omega) (by omega)]
      congr 1; omega
    have rpl : rp.length ≤ 9 := by rw [rpe, List.length_replicate]; omega
    have c1 : shortL sg = true := shortL_of (by omega)
    have c2' : shortL s1 = true := shortL_of (by omega)
    have c3 : shortL s2 = true := shortL_of (by omega)
    have c4' : shortL rp = true := shortL_of (by omega)
    have c5 : shortL (sg ++ s1) = true := shortL_of (by simp; omega)
    have c6' : shortL (sg ++ s1 ++ [46]) = true := shortL_of (by simp; omega)
    have c8 : shortL (s1 ++ [46]) = true := shortL_of (by simp; omega)
    have c7 : shortL (sg ++ s1 ++ [46] ++ rp) = true := shortL_of (by simp; omega)
    have c9 : shortL (s1 ++ [46] ++ rp) = true := shortL_of (by simp; omega)
    by_cases h0 : m < 0
    · have e0 : decide (m < 0) = true := by simpa using h0
      have em : IntKind.i64.wrap (-m) = absZ m := by unfold absZ; rw [if_pos h0]; exact wrap_om (by omega) (by omega)
      have es : sg = [45] := by rw [← hsg, if_pos h0]
      by_cases hd : d = 0
      · have e1 : decide (d = 0) = true := by simpa using hd
        simp (config := { maxSteps := 4000000, implicitDefEqProofs := false }) only [F_dec_eq, F_pow10_eq, F_repeat1_eq, WK0, WK1, WK2, WK3, WK4, WK5, WK6, WK7, WK8, WK9, WK10, WK11, WK12, WK13, WK14, WK15, WK16, WK17, WK18, WK19, WK20, WK21, WK22, WK23, WK24, WK25, WK26, WK27, WK28, WK29, WK30, look_hit, look_miss, List.map_cons, List.map_nil, Nat.add_zero, max_v, min_v, ↓cnd_t, ↓cnd_f, ↓grd_b, ↓grd_u, startEnv, Option.map_some, List.length_nil, List.length_cons, List.nil_append, List.cons_append, List.getElem?_cons_zero, List.getElem?_cons_succ, List.set_cons_zero, List.set_cons_succ, Bool.not_true, Bool.not_false, reduceIte, Nat.reduceEqDiff, Nat.reduceAdd, Nat.reduceLT, blt_lit, beq_lit, Bool.or_true, Bool.true_or, Bool.or_false, Bool.false_or, Bool.and_true, Bool.true_and, Bool.and_self, cond_true, cond_false, List.append_nil, Iv.eta, Option.map_none, idxO_l0, idxO_l1, decide_true, decide_false, reqs_true, Int.zero_sub, wrap_lit, wrapu_lit, Int.reduceLE, Int.reduceLT, Int.reduceAdd, Int.reduceSub, Int.reduceMul, Int.reduceNeg, Int.reduceEq, Option.bind_some, bin_shr_u64, bin_shl_u64, bin_shr_i64, bin_shl_i64, and_m32', Int.reduceToNat, Int.reducePow, Int.reduceMod, Int.reduceDiv, wrap_u64s, true_or, or_true, true_and, and_true, Option.isSome_none, Option.isSome_some, Nat.reduceLeDiff, Nat.reduceMul, Int.toNat_natCast, Int.cast_ofNat_Int, Int.natCast_zero, Int.natCast_one, List.isEmpty_nil, List.isEmpty_cons, List.replicate_zero, List.replicate_succ, T1, T2, T3, T4, T5, T6, T9, T10, T11, T12, T21, T22, T23, T25, T26, T27, T28, T29, T30, T32, T33, T34, T35, T36, T37, T38, T39, T40, T41, T42, T43, T44, T46, T48, T50, T52, T53, T54, T55, T56, T57, T58, T59, T61, T62, T63, T64, T65, T66, T67, T68, T69, T70, T71, T72, T73, T74, T75, T76, T77, T78, T79, T80, T81, T82, T83, T84, T85, T87, T89, T91, T92, T93, T95, T96, T97, T98, T102, T103, T105, T107, T108, T109, T110, T112, T116, T120, T121, T122, T123, T124, T125, T126, T128, T130, T131, T132, T134, T135, T136, T137, T138, T140, T142, T143, T145, T146, T148, T149, T150, T152, T153, T154, T155, T156, T163, T164, T165, T166, T167, bin_rem_c, bin_quo_c, e0, em, ← es, zP, ut, ur, uw, hs1, hs2, e1, c1, c2']
        repeat' (first | with_reducible refine cnd_split (fun hc => ?_) (fun hc => ?_) | with_reducible refine Reqs.mk ?_ ?_)
        all_goals first | trivial | (refine endS_s (t := (unitsL m d)) hr ?_; rw [hU, if_pos hd]; simp) | omega
      · have e1 : decide (d = 0) = false := by simpa using hd
        have k4 := k3 (by omega)
        simp (config := { maxSteps := 4000000, implicitDefEqProofs := false }) only [F_dec_eq, F_pow10_eq, F_repeat1_eq, WK0, WK1, WK2, WK3, WK4, WK5, WK6, WK7, WK8, WK9, WK10, WK11, WK12, WK13, WK14, WK15, WK16, WK17, WK18, WK19, WK20, WK21, WK22, WK23, WK24, WK25, WK26, WK27, WK28, WK29, WK30, look_hit, look_miss, List.map_cons, List.map_nil, Nat.add_zero, max_v, min_v, ↓cnd_t, ↓cnd_f, ↓grd_b, ↓grd_u, startEnv, Option.map_some, List.length_nil, List.length_cons, List.nil_append, List.cons_append, List.getElem?_cons_zero, List.getElem?_cons_succ, List.set_cons_zero, List.set_cons_succ, Bool.not_true, Bool.not_false, reduceIte, Nat.reduceEqDiff, Nat.reduceAdd, Nat.reduceLT, blt_lit, beq_lit, Bool.or_true, Bool.true_or, Bool.or_false, Bool.false_or, Bool.and_true, Bool.true_and, Bool.and_self, cond_true, cond_false, List.append_nil, Iv.eta, Option.map_none, idxO_l0, idxO_l1, decide_true, decide_false, reqs_true, Int.zero_sub, wrap_lit, wrapu_lit, Int.reduceLE, Int.reduceLT, Int.reduceAdd, Int.reduceSub, Int.reduceMul, Int.reduceNeg, Int.reduceEq, Option.bind_some, bin_shr_u64, bin_shl_u64, bin_shr_i64, bin_shl_i64, and_m32', Int.reduceToNat, Int.reducePow, Int.reduceMod, Int.reduceDiv, wrap_u64s, true_or, or_true, true_and, and_true, Option.isSome_none, Option.isSome_some, Nat.reduceLeDiff, Nat.reduceMul, Int.toNat_natCast, Int.cast_ofNat_Int, Int.natCast_zero, Int.natCast_one, List.isEmpty_nil, List.isEmpty_cons, List.replicate_zero, List.replicate_succ, T1, T2, T3, T4, T5, T6, T9, T10, T11, T12, T21, T22, T23, T25, T26, T27, T28, T29, T30, T32, T33, T34, T35, T36, T37, T38, T39, T40, T41, T42, T43, T44, T46, T48, T50, T52, T53, T54, T55, T56, T57, T58, T59, T61, T62, T63, T64, T65, T66, T67, T68, T69, T70, T71, T72, T73, T74, T75, T76, T77, T78, T79, T80, T81, T82, T83, T84, T85, T87, T89, T91, T92, T93, T95, T96, T97, T98, T102, T103, T105, T107, T108, T109, T110, T112, T116, T120, T121, T122, T123, T124, T125, T126, T128, T130, T131, T132, T134, T135, T136, T137, T138, T140, T142, T143, T145, T146, T148, T149, T150, T152, T153, T154, T155, T156, T163, T164, T165, T166, T167, bin_rem_c, bin_quo_c, e0, em, ← es, zP, ut, ur, uw, hs1, hs2, e1, hrp, c1, c2', c3, c4', c5, c6', c7]
        repeat' (first | with_reducible refine cnd_split (fun hc => ?_) (fun hc => ?_) | with_reducible refine Reqs.mk ?_ ?_)
        all_goals first | trivial | (refine endS_s (t := (unitsL m d)) hr ?_; rw [hU, if_neg hd, rpe]; simp [zeros]) | omega | (rw [wrap_om (by omega) (by omega)]; omega) | (simp; done)
    · have e0 : decide (m < 0) = false := by simpa using h0
      have em : absZ m = m := by unfold absZ; rw [if_neg h0]
      have es : sg = [] := by rw [← hsg, if_neg h0]
      rw [em] at ut ur uw hs1 hs2 uq ux
      by_cases hd : d = 0
      · have e1 : decide (d = 0) = true := by simpa using hd
        simp (config := { maxSteps := 4000000, implicitDefEqProofs := false }) only [F_dec_eq, F_pow10_eq, F_repeat1_eq, WK0, WK1, WK2, WK3, WK4, WK5, WK6, WK7, WK8, WK9, WK10, WK11, WK12, WK13, WK14, WK15, WK16, WK17, WK18, WK19, WK20, WK21, WK22, WK23, WK24, WK25, WK26, WK27, WK28, WK29, WK30, look_hit, look_miss, List.map_cons, List.map_nil, Nat.add_zero, max_v, min_v, ↓cnd_t, ↓cnd_f, ↓grd_b, ↓grd_u, startEnv, Option.map_some, List.length_nil, List.length_cons, List.nil_append, List.cons_append, List.getElem?_cons_zero, List.getElem?_cons_succ, List.set_cons_zero, List.set_cons_succ, Bool.not_true, Bool.not_false, reduceIte, Nat.reduceEqDiff, Nat.reduceAdd, Nat.reduceLT, blt_lit, beq_lit, Bool.or_true, Bool.true_or, Bool.or_false, Bool.false_or, Bool.and_true, Bool.true_and, Bool.and_self, cond_true, cond_false, List.append_nil, Iv.eta, Option.map_none, idxO_l0, idxO_l1, decide_true, decide_false, reqs_true, Int.zero_sub, wrap_lit, wrapu_lit, Int.reduceLE, Int.reduceLT, Int.reduceAdd, Int.reduceSub, Int.reduceMul, Int.reduceNeg, Int.reduceEq, Option.bind_some, bin_shr_u64, bin_shl_u64, bin_shr_i64, bin_shl_i64, and_m32', Int.reduceToNat, Int.reducePow, Int.reduceMod, Int.reduceDiv, wrap_u64s, true_or, or_true, true_and, and_true, Option.isSome_none, Option.isSome_some, Nat.reduceLeDiff, Nat.reduceMul, Int.toNat_natCast, Int.cast_ofNat_Int, Int.natCast_zero, Int.natCast_one, List.isEmpty_nil, List.isEmpty_cons, List.replicate_zero, List.replicate_succ, T1, T2, T3, T4, T5, T6, T9, T10, T11, T12, T21, T22, T23, T25, T26, T27, T28, T29, T30, T32, T33, T34, T35, T36, T37, T38, T39, T40, T41, T42, T43, T44, T46, T48, T50, T52, T53, T54, T55, T56, T57, T58, T59, T61, T62, T63, T64, T65, T66, T67, T68, T69, T70, T71, T72, T73, T74, T75, T76, T77, T78, T79, T80, T81, T82, T83, T84, T85, T87, T89, T91, T92, T93, T95, T96, T97, T98, T102, T103, T105, T107, T108, T109, T110, T112, T116, T120, T121, T122, T123, T124, T125, T126, T128, T130, T131, T132, T134, T135, T136, T137, T138, T140, T142, T143, T145, T146, T148, T149, T150, T152, T153, T154, T155, T156, T163, T164, T165, T166, T167, bin_rem_c, bin_quo_c, e0, zP, ut, ur, uw, hs1, hs2, e1, c1, c2']
        repeat' (first | with_reducible refine cnd_split (fun hc => ?_) (fun hc => ?_) | with_reducible refine Reqs.mk ?_ ?_)
        all_goals first | trivial | (refine endS_s (t := (unitsL m d)) hr ?_; rw [hU, if_pos hd, es]; simp) | omega
      · have e1 : decide (d = 0) = false := by simpa using hd
        have k4 := k3 (by omega)
        simp (config := { maxSteps := 4000000, implicitDefEqProofs := false }) only [F_dec_eq, F_pow10_eq, F_repeat1_eq, WK0, WK1, WK2, WK3, WK4, WK5, WK6, WK7, WK8, WK9, WK10, WK11, WK12, WK13, WK14, WK15, WK16, WK17, WK18, WK19, WK20, WK21, WK22, WK23, WK24, WK25, WK26, WK27, WK28, WK29, WK30, look_hit, look_miss, List.map_cons, List.map_nil, Nat.add_zero, max_v, min_v, ↓cnd_t, ↓cnd_f, ↓grd_b, ↓grd_u, startEnv, Option.map_some, List.length_nil, List.length_cons, List.nil_append, List.cons_append, List.getElem?_cons_zero, List.getElem?_cons_succ, List.set_cons_zero, List.set_cons_succ, Bool.not_true, Bool.not_false, reduceIte, Nat.reduceEqDiff, Nat.reduceAdd, Nat.reduceLT, blt_lit, beq_lit, Bool.or_true, Bool.true_or, Bool.or_false, Bool.false_or, Bool.and_true, Bool.true_and, Bool.and_self, cond_true, cond_false, List.append_nil, Iv.eta, Option.map_none, idxO_l0, idxO_l1, decide_true, decide_false, reqs_true, Int.zero_sub, wrap_lit, wrapu_lit, Int.reduceLE, Int.reduceLT, Int.reduceAdd, Int.reduceSub, Int.reduceMul, Int.reduceNeg, Int.reduceEq, Option.bind_some, bin_shr_u64, bin_shl_u64, bin_shr_i64, bin_shl_i64, and_m32', Int.reduceToNat, Int.reducePow, Int.reduceMod, Int.reduceDiv, wrap_u64s, true_or, or_true, true_and, and_true, Option.isSome_none, Option.isSome_some, Nat.reduceLeDiff, Nat.reduceMul, Int.toNat_natCast, Int.cast_ofNat_Int, Int.natCast_zero, Int.natCast_one, List.isEmpty_nil, List.isEmpty_cons, List.replicate_zero, List.replicate_succ, T1, T2, T3, T4, T5, T6, T9, T10, T11, T12, T21, T22, T23, T25, T26, T27, T28, T29, T30, T32, T33, T34, T35, T36, T37, T38, T39, T40, T41, T42, T43, T44, T46, T48, T50, T52, T53, T54, T55, T56, T57, T58, T59, T61, T62, T63, T64, T65, T66, T67, T68, T69, T70, T71, T72, T73, T74, T75, T76, T77, T78, T79, T80, T81, T82, T83, T84, T85, T87, T89, T91, T92, T93, T95, T96, T97, T98, T102, T103, T105, T107, T108, T109, T110, T112, T116, T120, T121, T122, T123, T124, T125, T126, T128, T130, T131, T132, T134, T135, T136, T137, T138, T140, T142, T143, T145, T146, T148, T149, T150, T152, T153, T154, T155, T156, T163, T164, T165, T166, T167, bin_rem_c, bin_quo_c, e0, zP, ut, ur, uw, hs1, hs2, e1, hrp, c1, c2', c3, c4', c8, c9]
        repeat' (first | with_reducible refine cnd_split (fun hc => ?_) (fun hc => ?_) | with_reducible refine Reqs.mk ?_ ?_)
        all_goals first | trivial | (refine endS_s (t := (unitsL m d)) hr ?_; rw [hU, if_neg hd, rpe, es]; simp [zeros]) | omega | (rw [wrap_om (by omega) (by omega)]; omega) | (simp; done)
  · cases hF

-- text bounds
theorem mulF_in {n d : Int} (hn : fixOk n = true) (hd : within d 0 9 = true) : -9223372036854775808 < (mulFloor n (pw10 d) 32).1 ∧ (mulFloor n (pw10 d) 32).1 < 9223372036854775807 := by
  have k := fixOk_iff.1 hn
  have e := within_iff.1 hd
  have p := @pw10_in d (by omega)
  have p9 : pw10 d ≤ 1000000000 := by
    have : ∀ k : Nat, k < 10 → (10 : Int) ^ k ≤ 1000000000 := by decide
    exact this d.toNat (by omega)
  have h2 : (2 : Int) ^ (32 : Int).toNat = 4294967296 := by decide
  have m1 : -(1152921504606846976 * 1000000000) ≤ n * pw10 d ∧ n * pw10 d ≤ 1152921504606846976 * 1000000000 := by
    have a1 := Int.mul_le_mul_of_nonneg_right k.2 (show 0 ≤ pw10 d by omega)
    have a2 := Int.mul_le_mul_of_nonneg_right k.1 (show 0 ≤ pw10 d by omega)
    omega
  unfold mulFloor wideInt
  rw [h2]
  split
  · simp only; omega
  · simp only; omega
theorem fix_neg {n : Int} (h : fixOk n = true) : fixOk (-n) = true := by
  have := fixOk_iff.1 h
  exact fixOk_iff.2 (by omega)

theorem textD_w {n d : Int} (h : fixOk n = false) : textD n d = [] := by unfold textD; rw [if_neg (by simp [h])]
theorem textD_v {n d : Int} (h : within d 0 9 = false) : textD n d = [] := by unfold textD; rw [if_neg (by simp [h])]
theorem textU_w {n d : Int} (h : fixOk n = false) : textU n d = [] := by unfold textU; rw [if_neg (by simp [h])]
theorem textU_v {n d : Int} (h : within d 0 9 = false) : textU n d = [] := by unfold textU; rw [if_neg (by simp [h])]
theorem textD_u {n d : Int} (h1 : fixOk n = true) (h2 : within d 0 9 = true) : textD n d = unitsL (mulFloor n (pw10 d) 32).1 d := by unfold textD; rw [if_pos (by simp [h1, h2])]
theorem textU_u {n d : Int} (h1 : fixOk n = true) (h2 : within d 0 9 = true) : textU n d = unitsL (-(mulFloor (-n) (pw10 d) 32).1) d := by unfold textU; rw [if_pos (by simp [h1, h2])]
theorem text_ok {n d : Int} (h1 : fixOk n = true) (h2 : within d 0 9 = true) :
    (0 ≤ d ∧ d ≤ 9) ∧ (0 ≤ d ∧ d ≤ 18) ∧ IntKind.i64.wrap (-n) = -n ∧ inR n ∧ inR (-n) ∧ inR (pw10 d) ∧ IntKind.i64.wrap (-(mulFloor (-n) (pw10 d) 32).1) = -(mulFloor (-n) (pw10 d) 32).1 ∧
    (-9223372036854775808 < (mulFloor n (pw10 d) 32).1 ∧ (mulFloor n (pw10 d) 32).1 ≤ 9223372036854775807) ∧ (-9223372036854775808 < -(mulFloor (-n) (pw10 d) 32).1 ∧ -(mulFloor (-n) (pw10 d) 32).1 ≤ 9223372036854775807) := by
  have k := fixOk_iff.1 h1
  have e := within_iff.1 h2
  have q := @pw10_in d (by omega)
  have a := mulF_in h1 h2
  have b := mulF_in (fix_neg h1) h2
  exact ⟨e, by omega, wrap_om (by omega) (by omega), ⟨by omega, by omega⟩, ⟨by omega, by omega⟩, ⟨by omega, by omega⟩, wrap_om (by omega) (by omega), by omega, by omega⟩

-- impl.TextDown
theorem impl_TextDown_textD_ok : Fn Tryz.prog 59 F_textD := by
  refine fn_of_go (O := orc [⟨48, F_within, .inl impl_within_within_ok⟩, ⟨71, F_pow10, .inl impl_powerOfTen_pow10_ok⟩, ⟨76, F_fixOk, .inl impl_ValidFix_fixOk_ok⟩, ⟨78, F_mulFloor, .inl impl_MulFloor_mulFloor_ok⟩, ⟨82, F_units, .inl impl_digitsText_units_ok⟩]) mixed T_ok (orc_sound _) Tryz.func59 (by kernel_rfl) rfl Tryz.ntmps59 (by kernel_rfl) Tryz.results59 ?_
  intro args g pre r new hF hpre
  unfold F_textD at hF
  split at hF
  · rename_i n d
    simp only [Option.some.injEq, Prod.mk.injEq] at hF
    obtain ⟨rfl, hr, rfl⟩ := hF
    refine ⟨by simp, ?_⟩
    simp (config := { maxSteps := 4000000, implicitDefEqProofs := false }) only [F_fixOk_eq, F_mulFloor_eq, F_pow10_eq, F_units_eq, F_within_eq, WK0, WK1, WK2, WK3, WK4, WK5, WK6, WK7, WK8, WK9, WK10, WK11, WK12, WK13, WK14, WK15, WK16, WK17, WK18, WK19, WK20, WK21, WK22, WK23, WK24, WK25, WK26, WK27, WK28, WK29, WK30, look_hit, look_miss, List.map_cons, List.map_nil, Nat.add_zero, max_v, min_v, ↓cnd_t, ↓cnd_f, ↓grd_b, ↓grd_u, startEnv, Option.map_some, List.length_nil, List.length_cons, List.nil_append, List.cons_append, List.getElem?_cons_zero, List.getElem?_cons_succ, List.set_cons_zero, List.set_cons_succ, Bool.not_true, Bool.not_false, reduceIte, Nat.reduceEqDiff, Nat.reduceAdd, Nat.reduceLT, blt_lit, beq_lit, Bool.or_true, Bool.true_or, Bool.or_false, Bool.false_or, Bool.and_true, Bool.true_and, Bool.and_self, cond_true, cond_false, List.append_nil, Iv.eta, Option.map_none, idxO_l0, idxO_l1, decide_true, decide_false, reqs_true, Int.zero_sub, wrap_lit, wrapu_lit, Int.reduceLE, Int.reduceLT, Int.reduceAdd, Int.reduceSub, Int.reduceMul, Int.reduceNeg, Int.reduceEq, Option.bind_some, bin_shr_u64, bin_shl_u64, bin_shr_i64, bin_shl_i64, and_m32', Int.reduceToNat, Int.reducePow, Int.reduceMod, Int.reduceDiv, wrap_u64s, true_or, or_true, true_and, and_true, Option.isSome_none, Option.isSome_some, Nat.reduceLeDiff, Nat.reduceMul, Int.toNat_natCast, Int.cast_ofNat_Int, Int.natCast_zero, Int.natCast_one, List.isEmpty_nil, List.isEmpty_cons, List.replicate_zero, List.replicate_succ, T1, T2, T3, T4, T5, T6, T9, T10, T11, T12, T21, T22, T23, T25, T26, T27, T28, T29, T30, T32, T33, T34, T35, T36, T37, T38, T39, T40, T41, T42, T43, T44, T46, T48, T50, T52, T53, T54, T55, T56, T57, T58, T59, T61, T62, T63, T64, T65, T66, T67, T68, T69, T70, T71, T72, T73, T74, T75, T76, T77, T78, T79, T80, T81, T82, T83, T84, T85, T87, T89, T91, T92, T93, T95, T96, T97, T98, T102, T103, T105, T107, T108, T109, T110, T112, T116, T120, T121, T122, T123, T124, T125, T126, T128, T130, T131, T132, T134, T135, T136, T137, T138, T140, T142, T143, T145, T146, T148, T149, T150, T152, T153, T154, T155, T156, T163, T164, T165, T166, T167]
    repeat' (first | with_reducible refine cnd_split (fun hc => ?_) (fun hc => ?_) | with_reducible refine Reqs.mk ?_ ?_)
    all_goals first
      | trivial
      | (refine endS_s (t := (textD n d)) hr ?_; rw [textD_w (by first | assumption | (rw [← Bool.not_eq_true]; assumption))]; done)
      | (refine endS_s (t := (textD n d)) hr ?_; rw [textU_w (by first | assumption | (rw [← Bool.not_eq_true]; assumption))]; done)
      | (refine endS_s (t := (textD n d)) hr ?_; rw [textD_v (by first | assumption | (rw [← Bool.not_eq_true]; assumption))]; done)
      | (refine endS_s (t := (textD n d)) hr ?_; rw [textU_v (by first | assumption | (rw [← Bool.not_eq_true]; assumption))]; done)
      | skip
    all_goals obtain ⟨u1, u2, u3, u4, u5, u6, u7, u8, u9⟩ := text_ok (n := n) (d := d) (by assumption) (by assumption)
    all_goals first
      | exact u2
      | exact ⟨u4, u6⟩
      | exact ⟨u8, u1⟩
      | (refine ⟨u4, u6, ?_⟩; first | exact .inr (.inr rfl) | simp)
      | (refine endS_s (t := (textD n d)) hr ?_; rw [textD_u (by assumption) (by assumption)])
  · cases hF

-- impl.TextUp
theorem impl_TextUp_textU_ok : Fn Tryz.prog 60 F_textU := by
  refine fn_of_go (O := orc [⟨48, F_within, .inl impl_within_within_ok⟩, ⟨71, F_pow10, .inl impl_powerOfTen_pow10_ok⟩, ⟨76, F_fixOk, .inl impl_ValidFix_fixOk_ok⟩, ⟨78, F_mulFloor, .inl impl_MulFloor_mulFloor_ok⟩, ⟨82, F_units, .inl impl_digitsText_units_ok⟩]) mixed T_ok (orc_sound _) Tryz.func60 (by kernel_rfl) rfl Tryz.ntmps60 (by kernel_rfl) Tryz.results60 ?_
  intro args g pre r new hF hpre
  unfold F_textU at hF
  split at hF
  · rename_i n d
    simp only [Option.some.injEq, Prod.mk.injEq] at hF
    obtain ⟨rfl, hr, rfl⟩ := hF
    refine ⟨by simp, ?_⟩
    simp (config := { maxSteps := 4000000, implicitDefEqProofs := false }) only [F_fixOk_eq, F_mulFloor_eq, F_pow10_eq, F_units_eq, F_within_eq, WK0, WK1, WK2, WK3, WK4, WK5, WK6, WK7, WK8, WK9, WK10, WK11, WK12, WK13, WK14, WK15, WK16, WK17, WK18, WK19, WK20, WK21, WK22, WK23, WK24, WK25, WK26, WK27, WK28, WK29, WK30, look_hit, look_miss, List.map_cons, List.map_nil, Nat.add_zero, max_v, min_v, ↓cnd_t, ↓cnd_f, ↓grd_b, ↓grd_u, startEnv, Option.map_some, List.length_nil, List.length_cons, List.nil_append, List.cons_append, List.getElem?_cons_zero, List.getElem?_cons_succ, List.set_cons_zero, List.set_cons_succ, Bool.not_true, Bool.not_false, reduceIte, Nat.reduceEqDiff, Nat.reduceAdd, Nat.reduceLT, blt_lit, beq_lit, Bool.or_true, Bool.true_or, Bool.or_false, Bool.false_or, Bool.and_true, Bool.true_and, Bool.and_self, cond_true, cond_false, List.append_nil, Iv.eta, Option.map_none, idxO_l0, idxO_l1, decide_true, decide_false, reqs_true, Int.zero_sub, wrap_lit, wrapu_lit, Int.reduceLE, Int.reduceLT, Int.reduceAdd, Int.reduceSub, Int.reduceMul, Int.reduceNeg, Int.reduceEq, Option.bind_some, bin_shr_u64, bin_shl_u64, bin_shr_i64, bin_shl_i64, and_m32', Int.reduceToNat, Int.reducePow, Int.reduceMod, Int.reduceDiv, wrap_u64s, true_or, or_true, true_and, and_true, Option.isSome_none, Option.isSome_some, Nat.reduceLeDiff, Nat.reduceMul, Int.toNat_natCast, Int.cast_ofNat_Int, Int.natCast_zero, Int.natCast_one, List.isEmpty_nil, List.isEmpty_cons, List.replicate_zero, List.replicate_succ, T1, T2, T3, T4, T5, T6, T9, T10, T11, T12, T21, T22, T23, T25, T26, T27, T28, T29, T30, T32, T33, T34, T35, T36, T37, T38, T39, T40, T41, T42, T43, T44, T46, T48, T50, T52, T53, T54, T55, T56, T57, T58, T59, T61, T62, T63, T64, T65, T66, T67, T68, T69, T70, T71, T72, T73, T74, T75, T76, T77, T78, T79, T80, T81, T82, T83, T84, T85, T87, T89, T91, T92, T93, T95, T96, T97, T98, T102, T103, T105, T107, T108, T109, T110, T112, T116, T120, T121, T122, T123, T124, T125, T126, T128, T130, T131, T132, T134, T135, T136, T137, T138, T140, T142, T143, T145, T146, T148, T149, T150, T152, T153, T154, T155, T156, T163, T164, T165, T166, T167]
    repeat' (first | with_reducible refine cnd_split (fun hc => ?_) (fun hc => ?_) | with_reducible refine Reqs.mk ?_ ?_)
    all_goals first
      | trivial
      | (refine endS_s (t := (textU n d)) hr ?_; rw [textD_w (by first | assumption | (rw [← Bool.not_eq_true]; assumption))]; done)
      | (refine endS_s (t := (textU n d)) hr ?_; rw [textU_w (by first | assumption | (rw [← Bool.not_eq_true]; assumption))]; done)
      | (refine endS_s (t := (textU n d)) hr ?_; rw [textD_v (by first | assumption | (rw [← Bool.not_eq_true]; assumption))]; done)
      | (refine endS_s (t := (textU n d)) hr ?_; rw [textU_v (by first | assumption | (rw [← Bool.not_eq_true]; assumption))]; done)
      | skip
    all_goals obtain ⟨u1, u2, u3, u4, u5, u6, u7, u8, u9⟩ := text_ok (n := n) (d := d) (by assumption) (by assumption)
    all_goals (try rw [u3])
    all_goals (try rw [u7])
    all_goals first
      | exact u2
      | exact ⟨u5, u6⟩
      | exact ⟨u9, u1⟩
      | (refine ⟨u5, u6, ?_⟩; first | exact .inr (.inr rfl) | simp)
      | (refine endS_s (t := (textU n d)) hr ?_; rw [textU_u (by assumption) (by assumption)])
  · cases hF

-- interval texts
theorem unitsL_len {m d : Int} (h : (-9223372036854775808 < m ∧ m ≤ 9223372036854775807) ∧ 0 ≤ d ∧ d ≤ 9) : (unitsL m d).length ≤ 31 := by
  have ok := units_ok h
  obtain ⟨a0, a1, pa, pb, zP, ut, ur, uw, uq, ux⟩ := ok
  have k1 := @itoa_len (absZ m / pw10 d) (by omega) (by omega)
  have hs : (if m < 0 then [45] else [] : List UInt8).length ≤ 1 := by split <;> simp
  unfold unitsL
  by_cases hd : d = 0
  · rw [if_pos hd]; simp only [List.length_append, List.length_nil]; omega
  · have k3 := @itoa_len_d (absZ m % pw10 d) d ux.1 ux.2 (by omega)
    rw [if_neg hd]
    unfold zeros
    simp only [List.length_append, List.length_replicate, List.length_cons, List.length_nil]
    omega
theorem textD_len (n : Int) : (textD n 9).length ≤ 31 := by
  unfold textD
  split
  · rename_i h
    rw [Bool.and_eq_true] at h
    have := text_ok h.1 h.2
    exact unitsL_len ⟨this.2.2.2.2.2.2.2.1, by omega⟩
  · simp
theorem textU_len (n : Int) : (textU n 9).length ≤ 31 := by
  unfold textU
  split
  · rename_i h
    rw [Bool.and_eq_true] at h
    have := text_ok h.1 h.2
    exact unitsL_len ⟨this.2.2.2.2.2.2.2.2, by omega⟩
  · simp
theorem ite_tt {α : Type} {a b : α} : (if (true : Bool) = true then a else b) = a := rfl
theorem ite_ft {α : Type} {a b : α} : (if (false : Bool) = true then a else b) = b := rfl
theorem ivL_w {a : Iv} (h : okI a = false) : ivL a = [119, 104, 111, 108, 101] := by unfold ivL; rw [h]; rfl
theorem ivL_o {a : Iv} (h : okI a = true) : ivL a = [91] ++ textD a.lo 9 ++ [44, 32] ++ textU a.hi 9 ++ [93] := by unfold ivL; rw [if_pos h]

-- impl.IntervalText
theorem impl_IntervalText_ivText_ok : Fn Tryz.prog 21 F_ivText := by
  refine fn_of_go (O := orc [⟨47, F_notOk, .inl impl_IsWhole_notOk_ok⟩, ⟨59, F_textD, .inl impl_TextDown_textD_ok⟩, ⟨60, F_textU, .inl impl_TextUp_textU_ok⟩]) mixed T_ok (orc_sound _) Tryz.func21 (by kernel_rfl) rfl Tryz.ntmps21 (by kernel_rfl) Tryz.results21 ?_
  intro args g pre r new hF hpre
  unfold F_ivText at hF
  split at hF
  · rename_i a1 a2
    simp only [Option.some.injEq, Prod.mk.injEq] at hF
    obtain ⟨rfl, hr, rfl⟩ := hF
    refine ⟨by simp, ?_⟩
    have k1 := textD_len a1
    have k2 := textU_len a2
    obtain ⟨s1, hs1⟩ : ∃ s1, textD a1 9 = s1 := ⟨_, rfl⟩
    obtain ⟨s2, hs2⟩ : ∃ s2, textU a2 9 = s2 := ⟨_, rfl⟩
    rw [hs1] at k1
    rw [hs2] at k2
    have f1 : shortL s1 = true := shortL_of (by omega)
    have f2 : shortL s2 = true := shortL_of (by omega)
    have f3 : shortL (91 :: s1) = true := shortL_of (by simp; omega)
    have f4 : shortL (91 :: (s1 ++ [44, 32])) = true := shortL_of (by simp; omega)
    have f5 : shortL (91 :: (s1 ++ [44, 32] ++ s2)) = true := shortL_of (by simp; omega)
    cases hk : okI ⟨a1, a2⟩ with
    | true =>
      have hI := ivL_o hk
      simp only [hs1, hs2] at hI
      simp (config := { maxSteps := 4000000, implicitDefEqProofs := false }) only [F_notOk_eq, F_textD_eq, F_textU_eq, WK0, WK1, WK2, WK3, WK4, WK5, WK6, WK7, WK8, WK9, WK10, WK11, WK12, WK13, WK14, WK15, WK16, WK17, WK18, WK19, WK20, WK21, WK22, WK23, WK24, WK25, WK26, WK27, WK28, WK29, WK30, look_hit, look_miss, List.map_cons, List.map_nil, Nat.add_zero, max_v, min_v, ↓cnd_t, ↓cnd_f, ↓grd_b, ↓grd_u, startEnv, Option.map_some, List.length_nil, List.length_cons, List.nil_append, List.cons_append, List.getElem?_cons_zero, List.getElem?_cons_succ, List.set_cons_zero, List.set_cons_succ, Bool.not_true, Bool.not_false, reduceIte, Nat.reduceEqDiff, Nat.reduceAdd, Nat.reduceLT, blt_lit, beq_lit, Bool.or_true, Bool.true_or, Bool.or_false, Bool.false_or, Bool.and_true, Bool.true_and, Bool.and_self, cond_true, cond_false, List.append_nil, Iv.eta, Option.map_none, idxO_l0, idxO_l1, decide_true, decide_false, reqs_true, Int.zero_sub, wrap_lit, wrapu_lit, Int.reduceLE, Int.reduceLT, Int.reduceAdd, Int.reduceSub, Int.reduceMul, Int.reduceNeg, Int.reduceEq, Option.bind_some, bin_shr_u64, bin_shl_u64, bin_shr_i64, bin_shl_i64, and_m32', Int.reduceToNat, Int.reducePow, Int.reduceMod, Int.reduceDiv, wrap_u64s, true_or, or_true, true_and, and_true, Option.isSome_none, Option.isSome_some, Nat.reduceLeDiff, Nat.reduceMul, Int.toNat_natCast, Int.cast_ofNat_Int, Int.natCast_zero, Int.natCast_one, List.isEmpty_nil, List.isEmpty_cons, List.replicate_zero, List.replicate_succ, T1, T2, T3, T4, T5, T6, T9, T10, T11, T12, T21, T22, T23, T25, T26, T27, T28, T29, T30, T32, T33, T34, T35, T36, T37, T38, T39, T40, T41, T42, T43, T44, T46, T48, T50, T52, T53, T54, T55, T56, T57, T58, T59, T61, T62, T63, T64, T65, T66, T67, T68, T69, T70, T71, T72, T73, T74, T75, T76, T77, T78, T79, T80, T81, T82, T83, T84, T85, T87, T89, T91, T92, T93, T95, T96, T97, T98, T102, T103, T105, T107, T108, T109, T110, T112, T116, T120, T121, T122, T123, T124, T125, T126, T128, T130, T131, T132, T134, T135, T136, T137, T138, T140, T142, T143, T145, T146, T148, T149, T150, T152, T153, T154, T155, T156, T163, T164, T165, T166, T167, hk, hs1, hs2, f1, f2, f3, f4, f5]
      repeat' (first | with_reducible refine cnd_split (fun hc => ?_) (fun hc => ?_) | with_reducible refine Reqs.mk ?_ ?_)
      all_goals first | trivial | (refine endS_s (t := (ivL (Iv.mk a1 a2))) hr ?_; rw [hI]; simp)
    | false =>
      have hI := ivL_w hk
      simp (config := { maxSteps := 4000000, implicitDefEqProofs := false }) only [F_notOk_eq, F_textD_eq, F_textU_eq, WK0, WK1, WK2, WK3, WK4, WK5, WK6, WK7, WK8, WK9, WK10, WK11, WK12, WK13, WK14, WK15, WK16, WK17, WK18, WK19, WK20, WK21, WK22, WK23, WK24, WK25, WK26, WK27, WK28, WK29, WK30, look_hit, look_miss, List.map_cons, List.map_nil, Nat.add_zero, max_v, min_v, ↓cnd_t, ↓cnd_f, ↓grd_b, ↓grd_u, startEnv, Option.map_some, List.length_nil, List.length_cons, List.nil_append, List.cons_append, List.getElem?_cons_zero, List.getElem?_cons_succ, List.set_cons_zero, List.set_cons_succ, Bool.not_true, Bool.not_false, reduceIte, Nat.reduceEqDiff, Nat.reduceAdd, Nat.reduceLT, blt_lit, beq_lit, Bool.or_true, Bool.true_or, Bool.or_false, Bool.false_or, Bool.and_true, Bool.true_and, Bool.and_self, cond_true, cond_false, List.append_nil, Iv.eta, Option.map_none, idxO_l0, idxO_l1, decide_true, decide_false, reqs_true, Int.zero_sub, wrap_lit, wrapu_lit, Int.reduceLE, Int.reduceLT, Int.reduceAdd, Int.reduceSub, Int.reduceMul, Int.reduceNeg, Int.reduceEq, Option.bind_some, bin_shr_u64, bin_shl_u64, bin_shr_i64, bin_shl_i64, and_m32', Int.reduceToNat, Int.reducePow, Int.reduceMod, Int.reduceDiv, wrap_u64s, true_or, or_true, true_and, and_true, Option.isSome_none, Option.isSome_some, Nat.reduceLeDiff, Nat.reduceMul, Int.toNat_natCast, Int.cast_ofNat_Int, Int.natCast_zero, Int.natCast_one, List.isEmpty_nil, List.isEmpty_cons, List.replicate_zero, List.replicate_succ, T1, T2, T3, T4, T5, T6, T9, T10, T11, T12, T21, T22, T23, T25, T26, T27, T28, T29, T30, T32, T33, T34, T35, T36, T37, T38, T39, T40, T41, T42, T43, T44, T46, T48, T50, T52, T53, T54, T55, T56, T57, T58, T59, T61, T62, T63, T64, T65, T66, T67, T68, T69, T70, T71, T72, T73, T74, T75, T76, T77, T78, T79, T80, T81, T82, T83, T84, T85, T87, T89, T91, T92, T93, T95, T96, T97, T98, T102, T103, T105, T107, T108, T109, T110, T112, T116, T120, T121, T122, T123, T124, T125, T126, T128, T130, T131, T132, T134, T135, T136, T137, T138, T140, T142, T143, T145, T146, T148, T149, T150, T152, T153, T154, T155, T156, T163, T164, T165, T166, T167, hk]
      repeat' (first | with_reducible refine cnd_split (fun hc => ?_) (fun hc => ?_) | with_reducible refine Reqs.mk ?_ ?_)
      all_goals first | trivial | (refine endS_s (t := (ivL (Iv.mk a1 a2))) hr ?_; rw [hI])
  · cases hF

end Go.Proofs.YtcnapkdccjibpaaGreatDoor.Eng
