/- What functions of the program compute, and that the program computes it: part 24. -/
import Derived.Test.YtcnapkdccjibpaaGreatDoorShelf
import Derived.Test.YtcnapkdccjibpaaGreatDoorTab
import Derived.Test.YtcnapkdccjibpaaGreatDoorEng16
import Derived.Laws.BitsLemmas
import Derived.Laws.Bits64
import Derived.Laws.Bits64b
import Derived.Lib.Mul64
import Derived.Lib.BitFns
import Derived.Laws.Externs
import Derived.Test.YtcnapkdccjibpaaGreatDoorL1
import Derived.Test.YtcnapkdccjibpaaGreatDoorL2
import Derived.Test.YtcnapkdccjibpaaGreatDoorL3
import Derived.Test.YtcnapkdccjibpaaGreatDoorL4
import Derived.Test.YtcnapkdccjibpaaGreatDoorL6
namespace Go.Proofs.YtcnapkdccjibpaaGreatDoor.Eng
open Go Go.RowKit
set_option linter.unusedVariables false
set_option linter.unusedSimpArgs false
set_option maxRecDepth 100000
set_option maxHeartbeats 1000000
-- texts
theorem endS_s {a0 : List UInt8} {t : List UInt8} {r : SV} {h : Heap} (hr : .v (.c (.p (.str (bs (t))))) = r) (e : a0 = t) : endS r [] h (some [.c (.p (.str (bs a0)))]) := by
  subst e; subst hr; exact ⟨rfl, by simp [SV.res, AV.res, Cl.res], rfl⟩
def pw10 (n : Int) : Int := 10 ^ n.toNat
def F_pow10 : FT
  | [.c (.p (.int .i64 n))], _ => some (0 ≤ n ∧ n ≤ 18, .v (.c (.p (.int .i64 (pw10 n)))), [])
  | _, _ => none
theorem F_pow10_eq {n : Int} {g : List PC} : F_pow10 [.c (.p (.int .i64 n))] g = some (0 ≤ n ∧ n ≤ 18, .v (.c (.p (.int .i64 (pw10 n)))), []) := rfl
def F_dec : FT
  | [.c (.p (.int .i64 n))], _ => some (-9223372036854775808 ≤ n ∧ n ≤ 9223372036854775807, .v (.c (.p (.str (bs (Lib.itoa n))))), [])
  | _, _ => none
theorem F_dec_eq {n : Int} {g : List PC} : F_dec [.c (.p (.int .i64 n))] g = some (-9223372036854775808 ≤ n ∧ n ≤ 9223372036854775807, .v (.c (.p (.str (bs (Lib.itoa n))))), []) := rfl
def F_fmtInt : FT
  | [.c (.p (.int .i64 n)), .c (.p (.int .i64 b))], _ => some ((-9223372036854775808 ≤ n ∧ n ≤ 9223372036854775807) ∧ b = 10, .v (.c (.p (.str (bs (Lib.itoa n))))), [])
  | _, _ => none
theorem F_fmtInt_eq {n : Int} {b : Int} {g : List PC} : F_fmtInt [.c (.p (.int .i64 n)), .c (.p (.int .i64 b))] g = some ((-9223372036854775808 ≤ n ∧ n ≤ 9223372036854775807) ∧ b = 10, .v (.c (.p (.str (bs (Lib.itoa n))))), []) := rfl
def F_repeat1 : FT
  | [.c (.p (.str s)), .c (.p (.int .i64 c))], _ => some ((0 ≤ c ∧ c ≤ 1000) ∧ (s.data.toList).length ≤ 1000, .v (.c (.p (.str (bs (Lib.repeatL (s.data.toList) c.toNat))))), [])
  | _, _ => none
theorem F_repeat1_eq {s : ByteArray} {c : Int} {g : List PC} : F_repeat1 [.c (.p (.str s)), .c (.p (.int .i64 c))] g = some ((0 ≤ c ∧ c ≤ 1000) ∧ (s.data.toList).length ≤ 1000, .v (.c (.p (.str (bs (Lib.repeatL (s.data.toList) c.toNat))))), []) := rfl
/-- A number of units of the last of d digits, as bytes. -/
def zeros (d : Int) (l : List UInt8) : List UInt8 := List.replicate (d.toNat - l.length) 48 ++ l
def unitsL (m d : Int) : List UInt8 := (if m < 0 then [45] else []) ++ Lib.itoa (absZ m / pw10 d) ++ (if d = 0 then [] else [46] ++ zeros d (Lib.itoa (absZ m % pw10 d)))
def F_units : FT
  | [.c (.p (.int .i64 m)), .c (.p (.int .i64 d))], _ => some ((-9223372036854775808 < m ∧ m ≤ 9223372036854775807) ∧ 0 ≤ d ∧ d ≤ 9, .v (.c (.p (.str (bs (unitsL m d))))), [])
  | _, _ => none
theorem F_units_eq {m : Int} {d : Int} {g : List PC} : F_units [.c (.p (.int .i64 m)), .c (.p (.int .i64 d))] g = some ((-9223372036854775808 < m ∧ m ≤ 9223372036854775807) ∧ 0 ≤ d ∧ d ≤ 9, .v (.c (.p (.str (bs (unitsL m d))))), []) := rfl
def textD (n d : Int) : List UInt8 := if fixOk n && within d 0 9 then unitsL (mulFloor n (pw10 d) 32).1 d else []
def textU (n d : Int) : List UInt8 := if fixOk n && within d 0 9 then unitsL (-(mulFloor (-n) (pw10 d) 32).1) d else []
def F_textD : FT
  | [.c (.p (.int .i64 n)), .c (.p (.int .i64 d))], _ => some (True, .v (.c (.p (.str (bs (textD n d))))), [])
  | _, _ => none
theorem F_textD_eq {n : Int} {d : Int} {g : List PC} : F_textD [.c (.p (.int .i64 n)), .c (.p (.int .i64 d))] g = some (True, .v (.c (.p (.str (bs (textD n d))))), []) := rfl
def F_textU : FT
  | [.c (.p (.int .i64 n)), .c (.p (.int .i64 d))], _ => some (True, .v (.c (.p (.str (bs (textU n d))))), [])
  | _, _ => none
theorem F_textU_eq {n : Int} {d : Int} {g : List PC} : F_textU [.c (.p (.int .i64 n)), .c (.p (.int .i64 d))] g = some (True, .v (.c (.p (.str (bs (textU n d))))), []) := rfl
def F_textB : FT
  | [.c (.p (.int .i64 n)), .c (.p (.int .i64 d)), .c (.p (.bool up))], _ => some (True, .v (.c (.p (.str (bs (if up then textU n d else textD n d))))), [])
  | _, _ => none
theorem F_textB_eq {n : Int} {d : Int} {up : Bool} {g : List PC} : F_textB [.c (.p (.int .i64 n)), .c (.p (.int .i64 d)), .c (.p (.bool up))] g = some (True, .v (.c (.p (.str (bs (if up then textU n d else textD n d))))), []) := rfl
def wholeL : List UInt8 := [119, 104, 111, 108, 101]
def ivL (a : Iv) : List UInt8 := if okI a then [91] ++ textD a.lo 9 ++ [44, 32] ++ textU a.hi 9 ++ [93] else wholeL
def F_ivText : FT
  | [.agg [.int .i64 a1, .int .i64 a2]], _ => some (True, .v (.c (.p (.str (bs (ivL (Iv.mk a1 a2)))))), [])
  | _, _ => none
theorem F_ivText_eq {a1 : Int} {a2 : Int} {g : List PC} : F_ivText [.agg [.int .i64 a1, .int .i64 a2]] g = some (True, .v (.c (.p (.str (bs (ivL (Iv.mk a1 a2)))))), []) := rfl
theorem pw10_in {n : Int} (h : 0 ≤ n ∧ n ≤ 18) : 1 ≤ pw10 n ∧ pw10 n ≤ 1000000000000000000 := by
  have : ∀ k : Nat, k < 19 → (1 : Int) ≤ 10 ^ k ∧ (10 : Int) ^ k ≤ 1000000000000000000 := by decide
  exact this n.toNat (by omega)
theorem pw10_0 : pw10 0 = 1 := rfl
theorem pw10_s {n : Int} (h : 0 ≤ n) : pw10 (n + 1) = pw10 n * 10 := by
  unfold pw10
  rw [show (n + 1).toNat = n.toNat + 1 by omega, Int.pow_succ]

-- lib texts
theorem hr_plain {w w' : World} (h : Below w.heap.size w w') : HR w [] [] w' := ⟨rfl, fun i cs h => by simp at h, fun i j ci cj _ h => by simp at h, h⟩
theorem below_grown (w : World) (k : Nat) (os : Array Obj) : Below w.heap.size w (Go.Sort.grow (w.drewN k) os) :=
  ⟨rfl, rfl, rfl, by simp [Go.Sort.grow, World.drewN], fun j hj => by simp only [Go.Sort.grow, World.drewN]; exact Array.getElem?_append_left hj⟩
theorem tab_pow10 {w : World} (ht : Tabs w) : Lib.TabIs Tryz.prog w "internal/strconv.uint64pow10" .u64 Lib.pow10Tab := by
  have hg : Tryz.prog.globalNamed "internal/strconv.uint64pow10" = some 5 := by kernel_rfl
  obtain ⟨e, t, h⟩ := ht.tab (5, .u64, Lib.pow10Tab) (by
    show _ ∈ laidTabs
    have : Lib.pow10Tab = [1, 10, 100, 1000, 10000, 100000, 1000000, 10000000, 100000000, 1000000000, 10000000000, 100000000000, 1000000000000, 10000000000000, 100000000000000, 1000000000000000, 10000000000000000, 100000000000000000, 1000000000000000000, 10000000000000000000] := by decide
    rw [this]
    exact List.mem_cons_self)
  unfold Lib.TabIs World.var?
  rw [hg]
  simp only [Option.bind_some, h]

-- strconv.FormatInt
theorem strconv_FormatInt_fmtInt_ok : Fn Tryz.prog 122 F_fmtInt := by
  refine ⟨enters_of Tryz.func122 (by kernel_rfl) rfl, fun args g pre r new hF hp hwf G w hG => ?_⟩
  unfold F_fmtInt at hF
  clear hwf
  split at hF
  · rename_i n b
    simp only [Option.some.injEq, Prod.mk.injEq] at hF
    obtain ⟨rfl, hr, rfl⟩ := hF
    obtain ⟨⟨h0, h1⟩, rfl⟩ := hp
    refine (Go.Proofs.Tryz.strconv_FormatInt_10 n h0 h1 w (tab_pow10 hG.tabs)).mono ?_
    rintro e w' ⟨rfl, k, os, rfl⟩
    subst hr
    exact ⟨[], rfl, hr_plain (below_grown w k os), trivial⟩
  · cases hF

-- strings.Repeat
theorem strings_Repeat_repeat1_ok : Fn Tryz.prog 100 F_repeat1 := by
  refine ⟨enters_of Tryz.func100 (by kernel_rfl) rfl, fun args g pre r new hF hp hwf G w hG => ?_⟩
  unfold F_repeat1 at hF
  clear hwf
  split at hF
  · rename_i s c
    simp only [Option.some.injEq, Prod.mk.injEq] at hF
    obtain ⟨rfl, hr, rfl⟩ := hF
    obtain ⟨⟨h0, h1⟩, hs⟩ := hp
    obtain ⟨n, rfl⟩ : ∃ n : Nat, c = n := ⟨c.toNat, by omega⟩
    have hsz : s.size ≤ 1000 := by
      have : s.size = s.data.toList.length := by rw [Array.length_toList]; rfl
      omega
    have hm : s.size * n ≤ 1000 * 1000 := Nat.mul_le_mul hsz (by omega)
    refine (Go.Proofs.Tryz.strings_Repeat s n w (by omega) (by omega)).mono ?_
    rintro e w' ⟨rfl, hb⟩
    subst hr
    exact ⟨[], rfl, hr_plain hb, trivial⟩
  · cases hF

-- impl.Decimal
theorem impl_Decimal_dec_ok : Fn Tryz.prog 99 F_dec := by
  refine fn_of_go (O := orc [⟨122, F_fmtInt, .inl strconv_FormatInt_fmtInt_ok⟩]) mixed T_ok (orc_sound _) Tryz.func99 (by kernel_rfl) rfl Tryz.ntmps99 (by kernel_rfl) Tryz.results99 ?_
  intro args g pre r new hF hpre
  unfold F_dec at hF
  split at hF
  · rename_i n
    simp only [Option.some.injEq, Prod.mk.injEq] at hF
    obtain ⟨rfl, hr, rfl⟩ := hF
    refine ⟨by simp, ?_⟩
    simp (config := { maxSteps := 4000000, implicitDefEqProofs := false }) only [F_fmtInt_eq, WK0, WK1, WK2, WK3, WK4, WK5, WK6, WK7, WK8, WK9, WK10, WK11, WK12, WK13, WK14, WK15, WK16, WK17, WK18, WK19, WK20, WK21, WK22, WK23, WK24, WK25, WK26, WK27, WK28, WK29, WK30, look_hit, look_miss, List.map_cons, List.map_nil, Nat.add_zero, max_v, min_v, ↓cnd_t, ↓cnd_f, ↓grd_b, ↓grd_u, startEnv, Option.map_some, List.length_nil, List.length_cons, List.nil_append, List.cons_append, List.getElem?_cons_zero, List.getElem?_cons_succ, List.set_cons_zero, List.set_cons_succ, Bool.not_true, Bool.not_false, reduceIte, Nat.reduceEqDiff, Nat.reduceAdd, Nat.reduceLT, blt_lit, beq_lit, Bool.or_true, Bool.true_or, Bool.or_false, Bool.false_or, Bool.and_true, Bool.true_and, Bool.and_self, cond_true, cond_false, List.append_nil, Iv.eta, Option.map_none, idxO_l0, idxO_l1, decide_true, decide_false, reqs_true, Int.zero_sub, wrap_lit, wrapu_lit, Int.reduceLE, Int.reduceLT, Int.reduceAdd, Int.reduceSub, Int.reduceMul, Int.reduceNeg, Int.reduceEq, Option.bind_some, bin_shr_u64, bin_shl_u64, bin_shr_i64, bin_shl_i64, and_m32', Int.reduceToNat, Int.reducePow, Int.reduceMod, Int.reduceDiv, wrap_u64s, true_or, or_true, true_and, and_true, Option.isSome_none, Option.isSome_some, Nat.reduceLeDiff, Nat.reduceMul, Int.toNat_natCast, Int.cast_ofNat_Int, Int.natCast_zero, Int.natCast_one, List.isEmpty_nil, List.isEmpty_cons, List.replicate_zero, List.replicate_succ, T1, T2, T3, T4, T5, T6, T9, T10, T11, T12, T21, T22, T23, T25, T26, T27, T28, T29, T30, T32, T33, T34, T35, T36, T37, T38, T39, T40, T41, T42, T43, T44, T46, T48, T50, T52, T53, T54, T55, T56, T57, T58, T59, T61, T62, T63, T64, T65, T66, T67, T68, T69, T70, T71, T72, T73, T74, T75, T76, T77, T78, T79, T80, T81, T82, T83, T84, T85, T87, T89, T91, T92, T93, T95, T96, T97, T98, T102, T103, T105, T107, T108, T109, T110, T112, T116, T120, T121, T122, T123, T124, T125, T126, T128, T130, T131, T132, T134, T135, T136, T137, T138, T140, T142, T143, T145, T146, T148, T149, T150, T152, T153, T154, T155, T156, T163, T164, T165, T166, T167]
    repeat' (first | with_reducible refine cnd_split (fun hc => ?_) (fun hc => ?_) | with_reducible refine Reqs.mk ?_ ?_)
    all_goals first
      | trivial
      | (refine endS_s (t := (Lib.itoa n)) hr ?_; rfl)
      | exact ⟨hpre, rfl⟩
  · cases hF

-- impl.powerOfTen
theorem impl_powerOfTen_pow10_ok : Fn Tryz.prog 71 F_pow10 := by
  refine fn_of_go (O := orc []) mixed T_ok (orc_sound _) Tryz.func71 (by kernel_rfl) rfl Tryz.ntmps71 (by kernel_rfl) Tryz.results71 ?_
  intro args g pre r new hF hpre
  unfold F_pow10 at hF
  split at hF
  · rename_i n
    simp only [Option.some.injEq, Prod.mk.injEq] at hF
    obtain ⟨rfl, hr, rfl⟩ := hF
    refine ⟨by simp, ?_⟩
    simp (config := { maxSteps := 4000000, implicitDefEqProofs := false }) only [WK0, WK1, WK2, WK3, WK4, WK5, WK6, WK7, WK8, WK9, WK10, WK11, WK12, WK13, WK14, WK15, WK16, WK17, WK18, WK19, WK20, WK21, WK22, WK23, WK24, WK25, WK26, WK27, WK28, WK29, WK30, look_hit, look_miss, List.map_cons, List.map_nil, Nat.add_zero, max_v, min_v, ↓cnd_t, ↓cnd_f, ↓grd_b, ↓grd_u, startEnv, Option.map_some, List.length_nil, List.length_cons, List.nil_append, List.cons_append, List.getElem?_cons_zero, List.getElem?_cons_succ, List.set_cons_zero, List.set_cons_succ, Bool.not_true, Bool.not_false, reduceIte, Nat.reduceEqDiff, Nat.reduceAdd, Nat.reduceLT, blt_lit, beq_lit, Bool.or_true, Bool.true_or, Bool.or_false, Bool.false_or, Bool.and_true, Bool.true_and, Bool.and_self, cond_true, cond_false, List.append_nil, Iv.eta, Option.map_none, idxO_l0, idxO_l1, decide_true, decide_false, reqs_true, Int.zero_sub, wrap_lit, wrapu_lit, Int.reduceLE, Int.reduceLT, Int.reduceAdd, Int.reduceSub, Int.reduceMul, Int.reduceNeg, Int.reduceEq, Option.bind_some, bin_shr_u64, bin_shl_u64, bin_shr_i64, bin_shl_i64, and_m32', Int.reduceToNat, Int.reducePow, Int.reduceMod, Int.reduceDiv, wrap_u64s, true_or, or_true, true_and, and_true, Option.isSome_none, Option.isSome_some, Nat.reduceLeDiff, Nat.reduceMul, Int.toNat_natCast, Int.cast_ofNat_Int, Int.natCast_zero, Int.natCast_one, List.isEmpty_nil, List.isEmpty_cons, List.replicate_zero, List.replicate_succ, T1, T2, T3, T4, T5, T6, T9, T10, T11, T12, T21, T22, T23, T25, T26, T27, T28, T29, T30, T32, T33, T34, T35, T36, T37, T38, T39, T40, T41, T42, T43, T44, T46, T48, T50, T52, T53, T54, T55, T56, T57, T58, T59, T61, T62, T63, T64, T65, T66, T67, T68, T69, T70, T71, T72, T73, T74, T75, T76, T77, T78, T79, T80, T81, T82, T83, T84, T85, T87, T89, T91, T92, T93, T95, T96, T97, T98, T102, T103, T105, T107, T108, T109, T110, T112, T116, T120, T121, T122, T123, T124, T125, T126, T128, T130, T131, T132, T134, T135, T136, T137, T138, T140, T142, T143, T145, T146, T148, T149, T150, T152, T153, T154, T155, T156, T163, T164, T165, T166, T167]
    refine go_loop (α := Nat) (fun j => j) (fun j e h => look e 4 = some (.v (.c (.p (.int .i64 n)))) ∧ look e 5 = some (.v (.c (.p (.int .i64 (n - (j : Int)))))) ∧ look e 3 = some (.v (.c (.p (.int .i64 (pw10 (n - (j : Int))))))) ∧ (j : Int) ≤ n) n.toNat ⟨rfl, ?_, ?_, by omega⟩ ?_
    · show some (SV.v (.c (.p (.int .i64 0)))) = _
      congr 5; omega
    · show some (SV.v (.c (.p (.int .i64 1)))) = _
      rw [show n - ((n.toNat : Nat) : Int) = 0 by omega]; rfl
    · rintro X j e h ⟨l4, l5, l3, hj⟩ hX
      cases j with
      | zero =>
        obtain ⟨C, eC⟩ : ∃ C : Int, n - ((0 : Nat) : Int) = C := ⟨_, rfl⟩
        rw [eC] at l5 l3
        have e0 : decide (C < n) = false := by simp only [decide_eq_false_iff_not]; omega
        simp (config := { maxSteps := 4000000, implicitDefEqProofs := false }) only [WK0, WK1, WK2, WK3, WK4, WK5, WK6, WK7, WK8, WK9, WK10, WK11, WK12, WK13, WK14, WK15, WK16, WK17, WK18, WK19, WK20, WK21, WK22, WK23, WK24, WK25, WK26, WK27, WK28, WK29, WK30, look_hit, look_miss, List.map_cons, List.map_nil, Nat.add_zero, max_v, min_v, ↓cnd_t, ↓cnd_f, ↓grd_b, ↓grd_u, startEnv, Option.map_some, List.length_nil, List.length_cons, List.nil_append, List.cons_append, List.getElem?_cons_zero, List.getElem?_cons_succ, List.set_cons_zero, List.set_cons_succ, Bool.not_true, Bool.not_false, reduceIte, Nat.reduceEqDiff, Nat.reduceAdd, Nat.reduceLT, blt_lit, beq_lit, Bool.or_true, Bool.true_or, Bool.or_false, Bool.false_or, Bool.and_true, Bool.true_and, Bool.and_self, cond_true, cond_false, List.append_nil, Iv.eta, Option.map_none, idxO_l0, idxO_l1, decide_true, decide_false, reqs_true, Int.zero_sub, wrap_lit, wrapu_lit, Int.reduceLE, Int.reduceLT, Int.reduceAdd, Int.reduceSub, Int.reduceMul, Int.reduceNeg, Int.reduceEq, Option.bind_some, bin_shr_u64, bin_shl_u64, bin_shr_i64, bin_shl_i64, and_m32', Int.reduceToNat, Int.reducePow, Int.reduceMod, Int.reduceDiv, wrap_u64s, true_or, or_true, true_and, and_true, Option.isSome_none, Option.isSome_some, Nat.reduceLeDiff, Nat.reduceMul, Int.toNat_natCast, Int.cast_ofNat_Int, Int.natCast_zero, Int.natCast_one, List.isEmpty_nil, List.isEmpty_cons, List.replicate_zero, List.replicate_succ, T1, T2, T3, T4, T5, T6, T9, T10, T11, T12, T21, T22, T23, T25, T26, T27, T28, T29, T30, T32, T33, T34, T35, T36, T37, T38, T39, T40, T41, T42, T43, T44, T46, T48, T50, T52, T53, T54, T55, T56, T57, T58, T59, T61, T62, T63, T64, T65, T66, T67, T68, T69, T70, T71, T72, T73, T74, T75, T76, T77, T78, T79, T80, T81, T82, T83, T84, T85, T87, T89, T91, T92, T93, T95, T96, T97, T98, T102, T103, T105, T107, T108, T109, T110, T112, T116, T120, T121, T122, T123, T124, T125, T126, T128, T130, T131, T132, T134, T135, T136, T137, T138, T140, T142, T143, T145, T146, T148, T149, T150, T152, T153, T154, T155, T156, T163, T164, T165, T166, T167, l4, l5, l3, e0]
        refine endS_i (t := (pw10 n)) hr ?_
        rw [← eC]; simp
      | succ j =>
        obtain ⟨C, eC⟩ : ∃ C : Int, n - ((j + 1 : Nat) : Int) = C := ⟨_, rfl⟩
        rw [eC] at l5 l3
        have e0 : decide (C < n) = true := by simp only [decide_eq_true_eq]; omega
        have b0 := @pw10_in C (by omega)
        have b1 := @pw10_in (C + 1) (by omega)
        have b2 := @pw10_s C (by omega)
        have e1 : IntKind.i64.wrap (C + 1) = n - (j : Int) := by rw [wrap_om (by omega) (by omega)]; omega
        have e2 : IntKind.i64.wrap (pw10 C * 10) = pw10 (n - (j : Int)) := by rw [wrap_om (by omega) (by omega), show n - (j : Int) = C + 1 by omega, b2]
        simp (config := { maxSteps := 4000000, implicitDefEqProofs := false }) only [WK0, WK1, WK2, WK3, WK4, WK5, WK6, WK7, WK8, WK9, WK10, WK11, WK12, WK13, WK14, WK15, WK16, WK17, WK18, WK19, WK20, WK21, WK22, WK23, WK24, WK25, WK26, WK27, WK28, WK29, WK30, look_hit, look_miss, List.map_cons, List.map_nil, Nat.add_zero, max_v, min_v, ↓cnd_t, ↓cnd_f, ↓grd_b, ↓grd_u, startEnv, Option.map_some, List.length_nil, List.length_cons, List.nil_append, List.cons_append, List.getElem?_cons_zero, List.getElem?_cons_succ, List.set_cons_zero, List.set_cons_succ, Bool.not_true, Bool.not_false, reduceIte, Nat.reduceEqDiff, Nat.reduceAdd, Nat.reduceLT, blt_lit, beq_lit, Bool.or_true, Bool.true_or, Bool.or_false, Bool.false_or, Bool.and_true, Bool.true_and, Bool.and_self, cond_true, cond_false, List.append_nil, Iv.eta, Option.map_none, idxO_l0, idxO_l1, decide_true, decide_false, reqs_true, Int.zero_sub, wrap_lit, wrapu_lit, Int.reduceLE, Int.reduceLT, Int.reduceAdd, Int.reduceSub, Int.reduceMul, Int.reduceNeg, Int.reduceEq, Option.bind_some, bin_shr_u64, bin_shl_u64, bin_shr_i64, bin_shl_i64, and_m32', Int.reduceToNat, Int.reducePow, Int.reduceMod, Int.reduceDiv, wrap_u64s, true_or, or_true, true_and, and_true, Option.isSome_none, Option.isSome_some, Nat.reduceLeDiff, Nat.reduceMul, Int.toNat_natCast, Int.cast_ofNat_Int, Int.natCast_zero, Int.natCast_one, List.isEmpty_nil, List.isEmpty_cons, List.replicate_zero, List.replicate_succ, T1, T2, T3, T4, T5, T6, T9, T10, T11, T12, T21, T22, T23, T25, T26, T27, T28, T29, T30, T32, T33, T34, T35, T36, T37, T38, T39, T40, T41, T42, T43, T44, T46, T48, T50, T52, T53, T54, T55, T56, T57, T58, T59, T61, T62, T63, T64, T65, T66, T67, T68, T69, T70, T71, T72, T73, T74, T75, T76, T77, T78, T79, T80, T81, T82, T83, T84, T85, T87, T89, T91, T92, T93, T95, T96, T97, T98, T102, T103, T105, T107, T108, T109, T110, T112, T116, T120, T121, T122, T123, T124, T125, T126, T128, T130, T131, T132, T134, T135, T136, T137, T138, T140, T142, T143, T145, T146, T148, T149, T150, T152, T153, T154, T155, T156, T163, T164, T165, T166, T167, l4, l5, l3, e0, e1, e2]
        refine hX j _ _ (Nat.lt_succ_self j) ⟨?_, ?_, ?_, by omega⟩
        all_goals (try simp only [look])
        all_goals simp [l4]
  · cases hF

-- spec.l03Power
theorem spec_l03Power_pow10_ok : Fn Tryz.prog 64 F_pow10 := by
  refine fn_of_go (O := orc []) mixed T_ok (orc_sound _) Tryz.func64 (by kernel_rfl) rfl Tryz.ntmps64 (by kernel_rfl) Tryz.results64 ?_
  intro args g pre r new hF hpre
  unfold F_pow10 at hF
  split at hF
  · rename_i n
    simp only [Option.some.injEq, Prod.mk.injEq] at hF
    obtain ⟨rfl, hr, rfl⟩ := hF
    refine ⟨by simp, ?_⟩
    simp (config := { maxSteps := 4000000, implicitDefEqProofs := false }) only [WK0, WK1, WK2, WK3, WK4, WK5, WK6, WK7, WK8, WK9, WK10, WK11, WK12, WK13, WK14, WK15, WK16, WK17, WK18, WK19, WK20, WK21, WK22, WK23, WK24, WK25, WK26, WK27, WK28, WK29, WK30, look_hit, look_miss, List.map_cons, List.map_nil, Nat.add_zero, max_v, min_v, ↓cnd_t, ↓cnd_f, ↓grd_b, ↓grd_u, startEnv, Option.map_some, List.length_nil, List.length_cons, List.nil_append, List.cons_append, List.getElem?_cons_zero, List.getElem?_cons_succ, List.set_cons_zero, List.set_cons_succ, Bool.not_true, Bool.not_false, reduceIte, Nat.reduceEqDiff, Nat.reduceAdd, Nat.reduceLT, blt_lit, beq_lit, Bool.or_true, Bool.true_or, Bool.or_false, Bool.false_or, Bool.and_true, Bool.true_and, Bool.and_self, cond_true, cond_false, List.append_nil, Iv.eta, Option.map_none, idxO_l0, idxO_l1, decide_true, decide_false, reqs_true, Int.zero_sub, wrap_lit, wrapu_lit, Int.reduceLE, Int.reduceLT, Int.reduceAdd, Int.reduceSub, Int.reduceMul, Int.reduceNeg, Int.reduceEq, Option.bind_some, bin_shr_u64, bin_shl_u64, bin_shr_i64, bin_shl_i64, and_m32', Int.reduceToNat, Int.reducePow, Int.reduceMod, Int.reduceDiv, wrap_u64s, true_or, or_true, true_and, and_true, Option.isSome_none, Option.isSome_some, Nat.reduceLeDiff, Nat.reduceMul, Int.toNat_natCast, Int.cast_ofNat_Int, Int.natCast_zero, Int.natCast_one, List.isEmpty_nil, List.isEmpty_cons, List.replicate_zero, List.replicate_succ, T1, T2, T3, T4, T5, T6, T9, T10, T11, T12, T21, T22, T23, T25, T26, T27, T28, T29, T30, T32, T33, T34, T35, T36, T37, T38, T39, T40, T41, T42, T43, T44, T46, T48, T50, T52, T53, T54, T55, T56, T57, T58, T59, T61, T62, T63, T64, T65, T66, T67, T68, T69, T70, T71, T72, T73, T74, T75, T76, T77, T78, T79, T80, T81, T82, T83, T84, T85, T87, T89, T91, T92, T93, T95, T96, T97, T98, T102, T103, T105, T107, T108, T109, T110, T112, T116, T120, T121, T122, T123, T124, T125, T126, T128, T130, T131, T132, T134, T135, T136, T137, T138, T140, T142, T143, T145, T146, T148, T149, T150, T152, T153, T154, T155, T156, T163, T164, T165, T166, T167]
    refine go_loop (α := Nat) (fun j => j) (fun j e h => look e 0 = some (.v (.c (.p (.int .i64 (j : Int))))) ∧ look e 3 = some (.v (.c (.p (.int .i64 (pw10 (n - (j : Int))))))) ∧ (j : Int) ≤ n) n.toNat ⟨?_, ?_, by omega⟩ ?_
    · show some (SV.v (.c (.p (.int .i64 n)))) = _
      congr 5; omega
    · show some (SV.v (.c (.p (.int .i64 1)))) = _
      rw [show n - ((n.toNat : Nat) : Int) = 0 by omega]; rfl
    · rintro X j e h ⟨l0, l3, hj⟩ hX
      cases j with
      | zero =>
        obtain ⟨C, eC⟩ : ∃ C : Int, n - ((0 : Nat) : Int) = C := ⟨_, rfl⟩
        obtain ⟨J, eJ⟩ : ∃ J : Int, ((0 : Nat) : Int) = J := ⟨_, rfl⟩
        rw [eC] at l3
        rw [eJ] at l0
        have e0 : decide (0 < J) = false := by simp only [decide_eq_false_iff_not]; omega
        simp (config := { maxSteps := 4000000, implicitDefEqProofs := false }) only [WK0, WK1, WK2, WK3, WK4, WK5, WK6, WK7, WK8, WK9, WK10, WK11, WK12, WK13, WK14, WK15, WK16, WK17, WK18, WK19, WK20, WK21, WK22, WK23, WK24, WK25, WK26, WK27, WK28, WK29, WK30, look_hit, look_miss, List.map_cons, List.map_nil, Nat.add_zero, max_v, min_v, ↓cnd_t, ↓cnd_f, ↓grd_b, ↓grd_u, startEnv, Option.map_some, List.length_nil, List.length_cons, List.nil_append, List.cons_append, List.getElem?_cons_zero, List.getElem?_cons_succ, List.set_cons_zero, List.set_cons_succ, Bool.not_true, Bool.not_false, reduceIte, Nat.reduceEqDiff, Nat.reduceAdd, Nat.reduceLT, blt_lit, beq_lit, Bool.or_true, Bool.true_or, Bool.or_false, Bool.false_or, Bool.and_true, Bool.true_and, Bool.and_self, cond_true, cond_false, List.append_nil, Iv.eta, Option.map_none, idxO_l0, idxO_l1, decide_true, decide_false, reqs_true, Int.zero_sub, wrap_lit, wrapu_lit, Int.reduceLE, Int.reduceLT, Int.reduceAdd, Int.reduceSub, Int.reduceMul, Int.reduceNeg, Int.reduceEq, Option.bind_some, bin_shr_u64, bin_shl_u64, bin_shr_i64, bin_shl_i64, and_m32', Int.reduceToNat, Int.reducePow, Int.reduceMod, Int.reduceDiv, wrap_u64s, true_or, or_true, true_and, and_true, Option.isSome_none, Option.isSome_some, Nat.reduceLeDiff, Nat.reduceMul, Int.toNat_natCast, Int.cast_ofNat_Int, Int.natCast_zero, Int.natCast_one, List.isEmpty_nil, List.isEmpty_cons, List.replicate_zero, List.replicate_succ, T1, T2, T3, T4, T5, T6, T9, T10, T11, T12, T21, T22, T23, T25, T26, T27, T28, T29, T30, T32, T33, T34, T35, T36, T37, T38, T39, T40, T41, T42, T43, T44, T46, T48, T50, T52, T53, T54, T55, T56, T57, T58, T59, T61, T62, T63, T64, T65, T66, T67, T68, T69, T70, T71, T72, T73, T74, T75, T76, T77, T78, T79, T80, T81, T82, T83, T84, T85, T87, T89, T91, T92, T93, T95, T96, T97, T98, T102, T103, T105, T107, T108, T109, T110, T112, T116, T120, T121, T122, T123, T124, T125, T126, T128, T130, T131, T132, T134, T135, T136, T137, T138, T140, T142, T143, T145, T146, T148, T149, T150, T152, T153, T154, T155, T156, T163, T164, T165, T166, T167, l0, l3, e0]
        refine endS_i (t := (pw10 n)) hr ?_
        rw [← eC]; simp
      | succ j =>
        obtain ⟨C, eC⟩ : ∃ C : Int, n - ((j + 1 : Nat) : Int) = C := ⟨_, rfl⟩
        obtain ⟨J, eJ⟩ : ∃ J : Int, ((j + 1 : Nat) : Int) = J := ⟨_, rfl⟩
        rw [eC] at l3
        rw [eJ] at l0
        have e0 : decide (0 < J) = true := by simp only [decide_eq_true_eq]; omega
        have b0 := @pw10_in C (by omega)
        have b1 := @pw10_in (C + 1) (by omega)
        have b2 := @pw10_s C (by omega)
        have e1 : IntKind.i64.wrap (J - 1) = (j : Int) := by rw [wrap_om (by omega) (by omega)]; omega
        have e2 : IntKind.i64.wrap (pw10 C * 10) = pw10 (n - (j : Int)) := by rw [wrap_om (by omega) (by omega), show n - (j : Int) = C + 1 by omega, b2]
        simp (config := { maxSteps := 4000000, implicitDefEqProofs := false }) only [WK0, WK1, WK2, WK3, WK4, WK5, WK6, WK7, WK8, WK9, WK10, WK11, WK12, WK13, WK14, WK15, WK16, WK17, WK18, WK19, WK20, WK21, WK22, WK23, WK24, WK25, WK26, WK27, WK28, WK29, WK30, look_hit, look_miss, List.map_cons, List.map_nil, Nat.add_zero, max_v, min_v, ↓cnd_t, ↓cnd_f, ↓grd_b, ↓grd_u, startEnv, Option.map_some, List.length_nil, List.length_cons, List.nil_append, List.cons_append, List.getElem?_cons_zero, List.getElem?_cons_succ, List.set_cons_zero, List.set_cons_succ, Bool.not_true, Bool.not_false, reduceIte, Nat.reduceEqDiff, Nat.reduceAdd, Nat.reduceLT, blt_lit, beq_lit, Bool.or_true, Bool.true_or, Bool.or_false, Bool.false_or, Bool.and_true, Bool.true_and, Bool.and_self, cond_true, cond_false, List.append_nil, Iv.eta, Option.map_none, idxO_l0, idxO_l1, decide_true, decide_false, reqs_true, Int.zero_sub, wrap_lit, wrapu_lit, Int.reduceLE, Int.reduceLT, Int.reduceAdd, Int.reduceSub, Int.reduceMul, Int.reduceNeg, Int.reduceEq, Option.bind_some, bin_shr_u64, bin_shl_u64, bin_shr_i64, bin_shl_i64, and_m32', Int.reduceToNat, Int.reducePow, Int.reduceMod, Int.reduceDiv, wrap_u64s, true_or, or_true, true_and, and_true, Option.isSome_none, Option.isSome_some, Nat.reduceLeDiff, Nat.reduceMul, Int.toNat_natCast, Int.cast_ofNat_Int, Int.natCast_zero, Int.natCast_one, List.isEmpty_nil, List.isEmpty_cons, List.replicate_zero, List.replicate_succ, T1, T2, T3, T4, T5, T6, T9, T10, T11, T12, T21, T22, T23, T25, T26, T27, T28, T29, T30, T32, T33, T34, T35, T36, T37, T38, T39, T40, T41, T42, T43, T44, T46, T48, T50, T52, T53, T54, T55, T56, T57, T58, T59, T61, T62, T63, T64, T65, T66, T67, T68, T69, T70, T71, T72, T73, T74, T75, T76, T77, T78, T79, T80, T81, T82, T83, T84, T85, T87, T89, T91, T92, T93, T95, T96, T97, T98, T102, T103, T105, T107, T108, T109, T110, T112, T116, T120, T121, T122, T123, T124, T125, T126, T128, T130, T131, T132, T134, T135, T136, T137, T138, T140, T142, T143, T145, T146, T148, T149, T150, T152, T153, T154, T155, T156, T163, T164, T165, T166, T167, l0, l3, e0, e1, e2]
        refine hX j _ _ (Nat.lt_succ_self j) ⟨?_, ?_, by omega⟩
        all_goals (try simp only [look])
        all_goals simp
  · cases hF

-- digits
/-- The digits of what is left. -/
def decB (u : Nat) : List UInt8 := if u = 0 then [] else Lib.decDigits u
theorem decB_step {u : Nat} (h : u ≠ 0) : decB u = decB (u / 10) ++ [UInt8.ofNat (48 + u % 10)] := by
  unfold decB
  rw [if_neg h]
  by_cases h2 : u < 10
  · rw [if_pos (by omega), Lib.decDigits, dif_pos h2, Nat.mod_eq_of_lt h2]; rfl
  · rw [if_neg (by omega), Lib.decDigits, dif_neg h2]
theorem itoa_B (n : Int) : Lib.itoa n = if n = 0 then [48] else if n < 0 then [45] ++ decB n.natAbs else decB n.natAbs := by
  unfold Lib.itoa decB
  by_cases h : n = 0
  · subst h; rw [if_pos rfl, if_neg (by decide)]; rw [Lib.decDigits, dif_pos (by decide)]; rfl
  · rw [if_neg h]
    by_cases h2 : n < 0
    · rw [if_pos h2, if_pos h2, if_neg (by omega)]; rfl
    · rw [if_neg h2, if_neg h2, if_neg (by omega), show n.toNat = n.natAbs by omega]
theorem decB_len : ∀ (k u : Nat), u < 10 ^ k → (decB u).length ≤ k
  | 0, u, h => by have : u = 0 := by simpa using h
                  subst this; exact Nat.le_refl _
  | k + 1, u, h => by
    by_cases h0 : u = 0
    · subst h0; simp [decB]
    · rw [decB_step h0, List.length_append, List.length_singleton]
      have := decB_len k (u / 10) (by rw [Nat.pow_succ] at h; omega)
      omega
theorem bytesC_app : ∀ (a b : List PC) {x y : List UInt8}, bytesC a = some x → bytesC b = some y → bytesC (a ++ b) = some (x ++ y)
  | [], b, x, y, h1, h2 => by simp [bytesC] at h1; subst h1; simpa using h2
  | .int k v :: r, b, x, y, h1, h2 => by
    cases k <;> simp only [bytesC] at h1 <;> try (cases h1; done)
    split at h1
    · rename_i l hl
      simp at h1; subst h1
      simp only [List.cons_append, bytesC, bytesC_app r b hl h2]
    · cases h1
  | .bool _ :: r, b, x, y, h1, h2 => by simp [bytesC] at h1
  | .str _ :: r, b, x, y, h1, h2 => by simp [bytesC] at h1
  | .fn _ :: r, b, x, y, h1, h2 => by simp [bytesC] at h1
  | .sl _ _ _ :: r, b, x, y, h1, h2 => by simp [bytesC] at h1
  | .nf :: r, b, x, y, h1, h2 => by simp [bytesC] at h1
  | .np :: r, b, x, y, h1, h2 => by simp [bytesC] at h1

-- bytes in front
theorem row_bytes {h : Heap} {m : Addr → Option PC} {i k : Nat} {cs : List PC} (hi : h[i]? = some cs) (hl : cs.length = k) (hne : cs ≠ []) : rowCells 1 h m (.c (.row i 0 k 1)) = some (k, cs) := by
  simp only [rowCells]
  rw [if_pos trivial, hi]
  simp only
  rw [if_pos ⟨by omega, hne⟩, List.drop_zero, Nat.mul_one, ← hl, List.take_length]
theorem app_front {h : Heap} {m : Addr → Option PC} {i k : Nat} {cs : List PC} {x : PC} {v : Int} (hi : h[i]? = some cs) (hl : cs.length = k) (hne : cs ≠ []) (hk : k ≤ 1048576) :
    appO (h ++ [[x]]) m (some (tdRow [.int .u8 v])) (some [.c (.row h.length 0 1 1), .c (.row i 0 k 1)]) = some (some (.v (.c (.row (h.length + 1) 0 (1 + k) 1))), (h ++ [[x]]).set h.length [] ++ [[x] ++ cs]) := by
  have hil := (List.getElem?_eq_some_iff.1 hi).1
  have hrc : rowCells 1 (h ++ [[x]]) m (.c (.row i 0 k 1)) = some (k, cs) := row_bytes (by rw [List.getElem?_append_left hil]; exact hi) hl hne
  have hz : (tdRow [PC.int IntKind.u8 v]).ez1.length = 1 := rfl
  have hr : (tdRow [PC.int IntKind.u8 v]).row = true := rfl
  simp only [appO, hr, if_true, hz, hrc, appF]
  rw [if_pos ⟨by omega, .inr rfl, hk⟩, if_pos ⟨trivial, by omega, by omega⟩]
  simp
theorem app_front0 {h : Heap} {m : Addr → Option PC} {i o : Nat} {x : PC} {v : Int} :
    appO (h ++ [[x]]) m (some (tdRow [.int .u8 v])) (some [.c (.row h.length 0 1 1), .c (.emp i o)]) = some (some (.v (.c (.row (h.length + 1) 0 1 1))), (h ++ [[x]]).set h.length [] ++ [[x]]) := by
  have hrc : rowCells 1 (h ++ [[x]]) m (.c (.emp i o)) = some (0, []) := rfl
  have hz : (tdRow [PC.int IntKind.u8 v]).ez1.length = 1 := rfl
  have hr : (tdRow [PC.int IntKind.u8 v]).row = true := rfl
  simp only [appO, hr, if_true, hz, hrc, appF]
  rw [if_pos ⟨by simp, .inr rfl, by omega⟩, if_pos ⟨trivial, by omega, by omega⟩]
  simp
/-- Where the digits are that were put down. -/
def OutAt (e : Env) (h : Heap) (t : Nat) (L : List UInt8) : Prop :=
  (L = [] ∧ ∃ i o, look e t = some (.v (.c (.emp i o)))) ∨ (∃ i cs, look e t = some (.v (.c (.row i 0 cs.length 1))) ∧ h[i]? = some cs ∧ cs ≠ [] ∧ bytesC cs = some L ∧ cs.length = L.length)
theorem dig_wrap : ∀ d : Nat, d < 10 → IntKind.i64.wrap (48 + (d : Int)) = 48 + (d : Int) ∧ IntKind.u8.wrap (48 + (d : Int)) = 48 + (d : Int) ∧ UInt8.ofNat (48 + (d : Int)).toNat = UInt8.ofNat (48 + d) := by decide
theorem set_last {h : Heap} {x y : List PC} {z : List (List PC)} : ((h ++ [x]).set h.length y ++ z)[h.length + 1]? = z[0]? := by
  rw [List.getElem?_append_right (by simp)]; simp
theorem decB_le {n : Int} (h0 : -9223372036854775808 ≤ n) (h1 : n ≤ 9223372036854775807) : (decB n.natAbs).length ≤ 19 := decB_len 19 _ (by omega)

-- spec.l01Dec
theorem spec_l01Dec_dec_ok : Fn Tryz.prog 101 F_dec := by
  refine fn_of_go (O := orc []) mixed T_ok (orc_sound _) Tryz.func101 (by kernel_rfl) rfl Tryz.ntmps101 (by kernel_rfl) Tryz.results101 ?_
  intro args g pre r new hF hpre
  unfold F_dec at hF
  split at hF
  · rename_i n
    simp only [Option.some.injEq, Prod.mk.injEq] at hF
    obtain ⟨rfl, hr, rfl⟩ := hF
    refine ⟨by simp, ?_⟩
    simp (config := { maxSteps := 4000000, implicitDefEqProofs := false }) only [WK0, WK1, WK2, WK3, WK4, WK5, WK6, WK7, WK8, WK9, WK10, WK11, WK12, WK13, WK14, WK15, WK16, WK17, WK18, WK19, WK20, WK21, WK22, WK23, WK24, WK25, WK26, WK27, WK28, WK29, WK30, look_hit, look_miss, List.map_cons, List.map_nil, Nat.add_zero, max_v, min_v, ↓cnd_t, ↓cnd_f, ↓grd_b, ↓grd_u, startEnv, Option.map_some, List.length_nil, List.length_cons, List.nil_append, List.cons_append, List.getElem?_cons_zero, List.getElem?_cons_succ, List.set_cons_zero, List.set_cons_succ, Bool.not_true, Bool.not_false, reduceIte, Nat.reduceEqDiff, Nat.reduceAdd, Nat.reduceLT, blt_lit, beq_lit, Bool.or_true, Bool.true_or, Bool.or_false, Bool.false_or, Bool.and_true, Bool.true_and, Bool.and_self, cond_true, cond_false, List.append_nil, Iv.eta, Option.map_none, idxO_l0, idxO_l1, decide_true, decide_false, reqs_true, Int.zero_sub, wrap_lit, wrapu_lit, Int.reduceLE, Int.reduceLT, Int.reduceAdd, Int.reduceSub, Int.reduceMul, Int.reduceNeg, Int.reduceEq, Option.bind_some, bin_shr_u64, bin_shl_u64, bin_shr_i64, bin_shl_i64, and_m32', Int.reduceToNat, Int.reducePow, Int.reduceMod, Int.reduceDiv, wrap_u64s, true_or, or_true, true_and, and_true, Option.isSome_none, Option.isSome_some, Nat.reduceLeDiff, Nat.reduceMul, Int.toNat_natCast, Int.cast_ofNat_Int, Int.natCast_zero, Int.natCast_one, List.isEmpty_nil, List.isEmpty_cons, List.replicate_zero, List.replicate_succ, T1, T2, T3, T4, T5, T6, T9, T10, T11, T12, T21, T22, T23, T25, T26, T27, T28, T29, T30, T32, T33, T34, T35, T36, T37, T38, T39, T40, T41, T42, T43, T44, T46, T48, T50, T52, T53, T54, T55, T56, T57, T58, T59, T61, T62, T63, T64, T65, T66, T67, T68, T69, T70, T71, T72, T73, T74, T75, T76, T77, T78, T79, T80, T81, T82, T83, T84, T85, T87, T89, T91, T92, T93, T95, T96, T97, T98, T102, T103, T105, T107, T108, T109, T110, T112, T116, T120, T121, T122, T123, T124, T125, T126, T128, T130, T131, T132, T134, T135, T136, T137, T138, T140, T142, T143, T145, T146, T148, T149, T150, T152, T153, T154, T155, T156, T163, T164, T165, T166, T167, bin_rem_c, bin_quo_c]
    refine go_loop (α := Int × List UInt8) (fun a => a.1.natAbs) (fun a e h => look e 0 = some (.v (.c (.p (.int .i64 n)))) ∧ look e 4 = some (.v (.c (.p (.int .i64 a.1)))) ∧ OutAt e h 3 a.2 ∧ decB a.1.natAbs ++ a.2 = decB n.natAbs ∧ a.1.natAbs ≤ n.natAbs) (n, []) ⟨rfl, rfl, .inl ⟨rfl, 0, 0, rfl⟩, by simp, Nat.le_refl _⟩ ?_
    rintro X ⟨K, L⟩ e h ⟨l0, l4, hO, hD, hK⟩ hX
    simp only at l4 hO hD hK hX
    have hlen := decB_le hpre.1 hpre.2
    have hLl : L.length ≤ 19 := by rw [← hD, List.length_append] at hlen; omega
    have z10 : decide ((10 : Int) = 0) = false := by decide
    by_cases h0 : K = 0
    · subst h0
      have hL : L = decB n.natAbs := by simpa [decB] using hD
      have e0 : (!decide ((0 : Int) = 0)) = false := by decide
      rcases hO with ⟨rfl, i, o, l3⟩ | ⟨i, cs, l3, hi, hne, hb, hl⟩
      · have hn : n = 0 := by
          have : decB n.natAbs = [] := hL.symm
          unfold decB at this
          split at this
          · omega
          · have := congrArg List.length this
            rw [Lib.decDigits_length] at this
            have := Lib.nDigits_pos n.natAbs
            simp at *; omega
        have f1 : decide (((0 : Nat) : Int) = 0) = true := by decide
        simp (config := { maxSteps := 4000000, implicitDefEqProofs := false }) only [WK0, WK1, WK2, WK3, WK4, WK5, WK6, WK7, WK8, WK9, WK10, WK11, WK12, WK13, WK14, WK15, WK16, WK17, WK18, WK19, WK20, WK21, WK22, WK23, WK24, WK25, WK26, WK27, WK28, WK29, WK30, look_hit, look_miss, List.map_cons, List.map_nil, Nat.add_zero, max_v, min_v, ↓cnd_t, ↓cnd_f, ↓grd_b, ↓grd_u, startEnv, Option.map_some, List.length_nil, List.length_cons, List.nil_append, List.cons_append, List.getElem?_cons_zero, List.getElem?_cons_succ, List.set_cons_zero, List.set_cons_succ, Bool.not_true, Bool.not_false, reduceIte, Nat.reduceEqDiff, Nat.reduceAdd, Nat.reduceLT, blt_lit, beq_lit, Bool.or_true, Bool.true_or, Bool.or_false, Bool.false_or, Bool.and_true, Bool.true_and, Bool.and_self, cond_true, cond_false, List.append_nil, Iv.eta, Option.map_none, idxO_l0, idxO_l1, decide_true, decide_false, reqs_true, Int.zero_sub, wrap_lit, wrapu_lit, Int.reduceLE, Int.reduceLT, Int.reduceAdd, Int.reduceSub, Int.reduceMul, Int.reduceNeg, Int.reduceEq, Option.bind_some, bin_shr_u64, bin_shl_u64, bin_shr_i64, bin_shl_i64, and_m32', Int.reduceToNat, Int.reducePow, Int.reduceMod, Int.reduceDiv, wrap_u64s, true_or, or_true, true_and, and_true, Option.isSome_none, Option.isSome_some, Nat.reduceLeDiff, Nat.reduceMul, Int.toNat_natCast, Int.cast_ofNat_Int, Int.natCast_zero, Int.natCast_one, List.isEmpty_nil, List.isEmpty_cons, List.replicate_zero, List.replicate_succ, T1, T2, T3, T4, T5, T6, T9, T10, T11, T12, T21, T22, T23, T25, T26, T27, T28, T29, T30, T32, T33, T34, T35, T36, T37, T38, T39, T40, T41, T42, T43, T44, T46, T48, T50, T52, T53, T54, T55, T56, T57, T58, T59, T61, T62, T63, T64, T65, T66, T67, T68, T69, T70, T71, T72, T73, T74, T75, T76, T77, T78, T79, T80, T81, T82, T83, T84, T85, T87, T89, T91, T92, T93, T95, T96, T97, T98, T102, T103, T105, T107, T108, T109, T110, T112, T116, T120, T121, T122, T123, T124, T125, T126, T128, T130, T131, T132, T134, T135, T136, T137, T138, T140, T142, T143, T145, T146, T148, T149, T150, T152, T153, T154, T155, T156, T163, T164, T165, T166, T167, bin_rem_c, bin_quo_c, l0, l4, l3, e0, f1]
        refine endS_s (t := (Lib.itoa n)) hr ?_
        rw [itoa_B, if_pos hn]
      · have hn : n ≠ 0 := by
          rintro rfl
          have : L = [] := hL
          rw [this] at hl
          exact hne (List.eq_nil_of_length_eq_zero hl)
        have hp : 0 < cs.length := by
          cases cs with
          | nil => exact absurd rfl hne
          | cons _ _ => simp
        have f1 : decide ((cs.length : Int) = 0) = false := by simp only [decide_eq_false_iff_not]; omega
        have f2 : rowCells 1 h (fun _ => none) (.c (.row i 0 cs.length 1)) = some (cs.length, cs) := row_bytes hi rfl hne
        have f3 : shortL L = true := shortL_of (by omega)
        by_cases hs : n < 0
        · have f4 : decide (n < 0) = true := by simpa using hs
          simp (config := { maxSteps := 4000000, implicitDefEqProofs := false }) only [WK0, WK1, WK2, WK3, WK4, WK5, WK6, WK7, WK8, WK9, WK10, WK11, WK12, WK13, WK14, WK15, WK16, WK17, WK18, WK19, WK20, WK21, WK22, WK23, WK24, WK25, WK26, WK27, WK28, WK29, WK30, look_hit, look_miss, List.map_cons, List.map_nil, Nat.add_zero, max_v, min_v, ↓cnd_t, ↓cnd_f, ↓grd_b, ↓grd_u, startEnv, Option.map_some, List.length_nil, List.length_cons, List.nil_append, List.cons_append, List.getElem?_cons_zero, List.getElem?_cons_succ, List.set_cons_zero, List.set_cons_succ, Bool.not_true, Bool.not_false, reduceIte, Nat.reduceEqDiff, Nat.reduceAdd, Nat.reduceLT, blt_lit, beq_lit, Bool.or_true, Bool.true_or, Bool.or_false, Bool.false_or, Bool.and_true, Bool.true_and, Bool.and_self, cond_true, cond_false, List.append_nil, Iv.eta, Option.map_none, idxO_l0, idxO_l1, decide_true, decide_false, reqs_true, Int.zero_sub, wrap_lit, wrapu_lit, Int.reduceLE, Int.reduceLT, Int.reduceAdd, Int.reduceSub, Int.reduceMul, Int.reduceNeg, Int.reduceEq, Option.bind_some, bin_shr_u64, bin_shl_u64, bin_shr_i64, bin_shl_i64, and_m32', Int.reduceToNat, Int.reducePow, Int.reduceMod, Int.reduceDiv, wrap_u64s, true_or, or_true, true_and, and_true, Option.isSome_none, Option.isSome_some, Nat.reduceLeDiff, Nat.reduceMul, Int.toNat_natCast, Int.cast_ofNat_Int, Int.natCast_zero, Int.natCast_one, List.isEmpty_nil, List.isEmpty_cons, List.replicate_zero, List.replicate_succ, T1, T2, T3, T4, T5, T6, T9, T10, T11, T12, T21, T22, T23, T25, T26, T27, T28, T29, T30, T32, T33, T34, T35, T36, T37, T38, T39, T40, T41, T42, T43, T44, T46, T48, T50, T52, T53, T54, T55, T56, T57, T58, T59, T61, T62, T63, T64, T65, T66, T67, T68, T69, T70, T71, T72, T73, T74, T75, T76, T77, T78, T79, T80, T81, T82, T83, T84, T85, T87, T89, T91, T92, T93, T95, T96, T97, T98, T102, T103, T105, T107, T108, T109, T110, T112, T116, T120, T121, T122, T123, T124, T125, T126, T128, T130, T131, T132, T134, T135, T136, T137, T138, T140, T142, T143, T145, T146, T148, T149, T150, T152, T153, T154, T155, T156, T163, T164, T165, T166, T167, bin_rem_c, bin_quo_c, l0, l4, l3, e0, f1, f2, f3, f4, hb, Option.map_some]
          refine endS_s (t := (Lib.itoa n)) hr ?_
          rw [itoa_B, if_neg hn, if_pos hs, hL]; rfl
        · have f4 : decide (n < 0) = false := by simpa using hs
          simp (config := { maxSteps := 4000000, implicitDefEqProofs := false }) only [WK0, WK1, WK2, WK3, WK4, WK5, WK6, WK7, WK8, WK9, WK10, WK11, WK12, WK13, WK14, WK15, WK16, WK17, WK18, WK19, WK20, WK21, WK22, WK23, WK24, WK25, WK26, WK27, WK28, WK29, WK30, look_hit, look_miss, List.map_cons, List.map_nil, Nat.add_zero, max_v, min_v, ↓cnd_t, ↓cnd_f, ↓grd_b, ↓grd_u, startEnv, Option.map_some, List.length_nil, List.length_cons, List.nil_append, List.cons_append, List.getElem?_cons_zero, List.getElem?_cons_succ, List.set_cons_zero, List.set_cons_succ, Bool.not_true, Bool.not_false, reduceIte, Nat.reduceEqDiff, Nat.reduceAdd, Nat.reduceLT, blt_lit, beq_lit, Bool.or_true, Bool.true_or, Bool.or_false, Bool.false_or, Bool.and_true, Bool.true_and, Bool.and_self, cond_true, cond_false, List.append_nil, Iv.eta, Option.map_none, idxO_l0, idxO_l1, decide_true, decide_false, reqs_true, Int.zero_sub, wrap_lit, wrapu_lit, Int.reduceLE, Int.reduceLT, Int.reduceAdd, Int.reduceSub, Int.reduceMul, Int.reduceNeg, Int.reduceEq, Option.bind_some, bin_shr_u64, bin_shl_u64, bin_shr_i64, bin_shl_i64, and_m32', Int.reduceToNat, Int.reducePow, Int.reduceMod, Int.reduceDiv, wrap_u64s, true_or, or_true, true_and, and_true, Option.isSome_none, Option.isSome_some, Nat.reduceLeDiff, Nat.reduceMul, Int.toNat_natCast, Int.cast_ofNat_Int, Int.natCast_zero, Int.natCast_one, List.isEmpty_nil, List.isEmpty_cons, List.replicate_zero, List.replicate_succ, T1, T2, T3, T4, T5, T6, T9, T10, T11, T12, T21, T22, T23, T25, T26, T27, T28, T29, T30, T32, T33, T34, T35, T36, T37, T38, T39, T40, T41, T42, T43, T44, T46, T48, T50, T52, T53, T54, T55, T56, T57, T58, T59, T61, T62, T63, T64, T65, T66, T67, T68, T69, T70, T71, T72, T73, T74, T75, T76, T77, T78, T79, T80, T81, T82, T83, T84, T85, T87, T89, T91, T92, T93, T95, T96, T97, T98, T102, T103, T105, T107, T108, T109, T110, T112, T116, T120, T121, T122, T123, T124, T125, T126, T128, T130, T131, T132, T134, T135, T136, T137, T138, T140, T142, T143, T145, T146, T148, T149, T150, T152, T153, T154, T155, T156, T163, T164, T165, T166, T167, bin_rem_c, bin_quo_c, l0, l4, l3, e0, f1, f2, f3, f4, hb, Option.map_some]
          refine endS_s (t := (Lib.itoa n)) hr ?_
          rw [itoa_B, if_neg hn, if_neg hs, hL]
    · have e0 : (!decide (K = 0)) = true := by simpa using h0
      obtain ⟨d, hd⟩ : ∃ d : Nat, K.natAbs % 10 = d := ⟨_, rfl⟩
      have dl : d < 10 := by omega
      obtain ⟨w1, w2, w3⟩ := dig_wrap d dl
      have q2 : (K.tdiv 10).natAbs = K.natAbs / 10 := Int.natAbs_tdiv K 10
      have q1 : IntKind.i64.wrap (K.tdiv 10) = K.tdiv 10 := wrap_om (by omega) (by omega)
      have hD2 : decB (K.tdiv 10).natAbs ++ (UInt8.ofNat (48 + d) :: L) = decB n.natAbs := by
        rw [q2, ← hD, decB_step (show K.natAbs ≠ 0 by omega), hd]; simp
      have cell : PC.int IntKind.u8 (48 + (d : Int)) = PC.int IntKind.u8 (48 + (d : Int)) := rfl
      have fin : ∀ (e' : Env) (h' : Heap), look e' 0 = some (.v (.c (.p (.int .i64 n)))) → look e' 4 = some (.v (.c (.p (.int .i64 (K.tdiv 10))))) → OutAt e' h' 3 (UInt8.ofNat (48 + d) :: L) → X ⟨e', h'⟩ := by
        intro e' h' a1 a2 a3
        exact hX (K.tdiv 10, UInt8.ofNat (48 + d) :: L) e' h' (by simp only; omega) ⟨a1, a2, a3, hD2, by simp only; omega⟩
      have out0 : ∀ (e' : Env) (h' : Heap), look e' 3 = some (.v (.c (.row (h.length + 1) 0 1 1))) → h' = (h ++ [[PC.int .u8 (48 + (d : Int))]]).set h.length [] ++ [[PC.int .u8 (48 + (d : Int))]] → L = [] → OutAt e' h' 3 (UInt8.ofNat (48 + d) :: L) := by
        rintro e' h' a1 rfl rfl
        refine .inr ⟨h.length + 1, [PC.int .u8 (48 + (d : Int))], a1, by rw [set_last]; rfl, by simp, ?_, rfl⟩
        simp only [bytesC, w3]
      have out1 : ∀ (e' : Env) (h' : Heap) (cs : List PC), look e' 3 = some (.v (.c (.row (h.length + 1) 0 (1 + cs.length) 1))) → h' = (h ++ [[PC.int .u8 (48 + (d : Int))]]).set h.length [] ++ [[PC.int .u8 (48 + (d : Int))] ++ cs] → bytesC cs = some L → cs.length = L.length → OutAt e' h' 3 (UInt8.ofNat (48 + d) :: L) := by
        rintro e' h' cs a1 rfl hb hl
        refine .inr ⟨h.length + 1, [PC.int .u8 (48 + (d : Int))] ++ cs, ?_, by rw [set_last]; rfl, by simp, ?_, by simp [hl]⟩
        · have e1 : ([PC.int .u8 (48 + (d : Int))] ++ cs).length = 1 + cs.length := by simp [Nat.add_comm]
          rw [e1]; exact a1
        · simp only [List.cons_append, List.nil_append, bytesC, hb, w3]
      by_cases hs : 0 ≤ K ∨ d = 0
      · have tm1 : K.tmod 10 = (d : Int) := by
          by_cases h1 : 0 ≤ K
          · rw [tmod_p h1]; omega
          · rw [tmod_n (by omega)]; omega
        have f1 : decide ((d : Int) < 0) = false := by simp only [decide_eq_false_iff_not]; omega
        rcases hO with ⟨hL, i, o, l3⟩ | ⟨i, cs, l3, hi, hne, hb, hl⟩
        · simp (config := { maxSteps := 4000000, implicitDefEqProofs := false }) only [WK0, WK1, WK2, WK3, WK4, WK5, WK6, WK7, WK8, WK9, WK10, WK11, WK12, WK13, WK14, WK15, WK16, WK17, WK18, WK19, WK20, WK21, WK22, WK23, WK24, WK25, WK26, WK27, WK28, WK29, WK30, look_hit, look_miss, List.map_cons, List.map_nil, Nat.add_zero, max_v, min_v, ↓cnd_t, ↓cnd_f, ↓grd_b, ↓grd_u, startEnv, Option.map_some, List.length_nil, List.length_cons, List.nil_append, List.cons_append, List.getElem?_cons_zero, List.getElem?_cons_succ, List.set_cons_zero, List.set_cons_succ, Bool.not_true, Bool.not_false, reduceIte, Nat.reduceEqDiff, Nat.reduceAdd, Nat.reduceLT, blt_lit, beq_lit, Bool.or_true, Bool.true_or, Bool.or_false, Bool.false_or, Bool.and_true, Bool.true_and, Bool.and_self, cond_true, cond_false, List.append_nil, Iv.eta, Option.map_none, idxO_l0, idxO_l1, decide_true, decide_false, reqs_true, Int.zero_sub, wrap_lit, wrapu_lit, Int.reduceLE, Int.reduceLT, Int.reduceAdd, Int.reduceSub, Int.reduceMul, Int.reduceNeg, Int.reduceEq, Option.bind_some, bin_shr_u64, bin_shl_u64, bin_shr_i64, bin_shl_i64, and_m32', Int.reduceToNat, Int.reducePow, Int.reduceMod, Int.reduceDiv, wrap_u64s, true_or, or_true, true_and, and_true, Option.isSome_none, Option.isSome_some, Nat.reduceLeDiff, Nat.reduceMul, Int.toNat_natCast, Int.cast_ofNat_Int, Int.natCast_zero, Int.natCast_one, List.isEmpty_nil, List.isEmpty_cons, List.replicate_zero, List.replicate_succ, T1, T2, T3, T4, T5, T6, T9, T10, T11, T12, T21, T22, T23, T25, T26, T27, T28, T29, T30, T32, T33, T34, T35, T36, T37, T38, T39, T40, T41, T42, T43, T44, T46, T48, T50, T52, T53, T54, T55, T56, T57, T58, T59, T61, T62, T63, T64, T65, T66, T67, T68, T69, T70, T71, T72, T73, T74, T75, T76, T77, T78, T79, T80, T81, T82, T83, T84, T85, T87, T89, T91, T92, T93, T95, T96, T97, T98, T102, T103, T105, T107, T108, T109, T110, T112, T116, T120, T121, T122, T123, T124, T125, T126, T128, T130, T131, T132, T134, T135, T136, T137, T138, T140, T142, T143, T145, T146, T148, T149, T150, T152, T153, T154, T155, T156, T163, T164, T165, T166, T167, bin_rem_c, bin_quo_c, l0, l4, l3, e0, z10, tm1, f1, w1, w2, q1, app_front0]
          refine fin _ _ ?_ ?_ (out0 _ _ ?_ rfl hL)
          all_goals (try simp only [look])
          all_goals simp [l0]
        · have af := fun (x : PC) (v : Int) (m : Addr → Option PC) => @app_front h m i cs.length cs x v hi rfl hne (by omega)
          simp (config := { maxSteps := 4000000, implicitDefEqProofs := false }) only [WK0, WK1, WK2, WK3, WK4, WK5, WK6, WK7, WK8, WK9, WK10, WK11, WK12, WK13, WK14, WK15, WK16, WK17, WK18, WK19, WK20, WK21, WK22, WK23, WK24, WK25, WK26, WK27, WK28, WK29, WK30, look_hit, look_miss, List.map_cons, List.map_nil, Nat.add_zero, max_v, min_v, ↓cnd_t, ↓cnd_f, ↓grd_b, ↓grd_u, startEnv, Option.map_some, List.length_nil, List.length_cons, List.nil_append, List.cons_append, List.getElem?_cons_zero, List.getElem?_cons_succ, List.set_cons_zero, List.set_cons_succ, Bool.not_true, Bool.not_false, reduceIte, Nat.reduceEqDiff, Nat.reduceAdd, Nat.reduceLT, blt_lit, beq_lit, Bool.or_true, Bool.true_or, Bool.or_false, Bool.false_or, Bool.and_true, Bool.true_and, Bool.and_self, cond_true, cond_false, List.append_nil, Iv.eta, Option.map_none, idxO_l0, idxO_l1, decide_true, decide_false, reqs_true, Int.zero_sub, wrap_lit, wrapu_lit, Int.reduceLE, Int.reduceLT, Int.reduceAdd, Int.reduceSub, Int.reduceMul, Int.reduceNeg, Int.reduceEq, Option.bind_some, bin_shr_u64, bin_shl_u64, bin_shr_i64, bin_shl_i64, and_m32', Int.reduceToNat, Int.reducePow, Int.reduceMod, Int.reduceDiv, wrap_u64s, true_or, or_true, true_and, and_true, Option.isSome_none, Option.isSome_some, Nat.reduceLeDiff, Nat.reduceMul, Int.toNat_natCast, Int.cast_ofNat_Int, Int.natCast_zero, Int.natCast_one, List.isEmpty_nil, List.isEmpty_cons, List.replicate_zero, List.replicate_succ, T1, T2, T3, T4, T5, T6, T9, T10, T11, T12, T21, T22, T23, T25, T26, T27, T28, T29, T30, T32, T33, T34, T35, T36, T37, T38, T39, T40, T41, T42, T43, T44, T46, T48, T50, T52, T53, T54, T55, T56, T57, T58, T59, T61, T62, T63, T64, T65, T66, T67, T68, T69, T70, T71, T72, T73, T74, T75, T76, T77, T78, T79, T80, T81, T82, T83, T84, T85, T87, T89, T91, T92, T93, T95, T96, T97, T98, T102, T103, T105, T107, T108, T109, T110, T112, T116, T120, T121, T122, T123, T124, T125, T126, T128, T130, T131, T132, T134, T135, T136, T137, T138, T140, T142, T143, T145, T146, T148, T149, T150, T152, T153, T154, T155, T156, T163, T164, T165, T166, T167, bin_rem_c, bin_quo_c, l0, l4, l3, e0, z10, tm1, f1, w1, w2, q1, af]
          refine fin _ _ ?_ ?_ (out1 _ _ cs ?_ rfl hb hl)
          all_goals (try simp only [look])
          all_goals simp [l0]
      · have tm1 : K.tmod 10 = -(d : Int) := by rw [tmod_n (by omega)]; omega
        have f1 : decide (-(d : Int) < 0) = true := by simp only [decide_eq_true_eq]; omega
        have w0 : IntKind.i64.wrap (-(-(d : Int))) = (d : Int) := by rw [Int.neg_neg]; exact wrap_om (by omega) (by omega)
        rcases hO with ⟨hL, i, o, l3⟩ | ⟨i, cs, l3, hi, hne, hb, hl⟩
        · simp (config := { maxSteps := 4000000, implicitDefEqProofs := false }) only [WK0, WK1, WK2, WK3, WK4, WK5, WK6, WK7, WK8, WK9, WK10, WK11, WK12, WK13, WK14, WK15, WK16, WK17, WK18, WK19, WK20, WK21, WK22, WK23, WK24, WK25, WK26, WK27, WK28, WK29, WK30, look_hit, look_miss, List.map_cons, List.map_nil, Nat.add_zero, max_v, min_v, ↓cnd_t, ↓cnd_f, ↓grd_b, ↓grd_u, startEnv, Option.map_some, List.length_nil, List.length_cons, List.nil_append, List.cons_append, List.getElem?_cons_zero, List.getElem?_cons_succ, List.set_cons_zero, List.set_cons_succ, Bool.not_true, Bool.not_false, reduceIte, Nat.reduceEqDiff, Nat.reduceAdd, Nat.reduceLT, blt_lit, beq_lit, Bool.or_true, Bool.true_or, Bool.or_false, Bool.false_or, Bool.and_true, Bool.true_and, Bool.and_self, cond_true, cond_false, List.append_nil, Iv.eta, Option.map_none, idxO_l0, idxO_l1, decide_true, decide_false, reqs_true, Int.zero_sub, wrap_lit, wrapu_lit, Int.reduceLE, Int.reduceLT, Int.reduceAdd, Int.reduceSub, Int.reduceMul, Int.reduceNeg, Int.reduceEq, Option.bind_some, bin_shr_u64, bin_shl_u64, bin_shr_i64, bin_shl_i64, and_m32', Int.reduceToNat, Int.reducePow, Int.reduceMod, Int.reduceDiv, wrap_u64s, true_or, or_true, true_and, and_true, Option.isSome_none, Option.isSome_some, Nat.reduceLeDiff, Nat.reduceMul, Int.toNat_natCast, Int.cast_ofNat_Int, Int.natCast_zero, Int.natCast_one, List.isEmpty_nil, List.isEmpty_cons, List.replicate_zero, List.replicate_succ, T1, T2, T3, T4, T5, T6, T9, T10, T11, T12, T21, T22, T23, T25, T26, T27, T28, T29, T30, T32, T33, T34, T35, T36, T37, T38, T39, T40, T41, T42, T43, T44, T46, T48, T50, T52, T53, T54, T55, T56, T57, T58, T59, T61, T62, T63, T64, T65, T66, T67, T68, T69, T70, T71, T72, T73, T74, T75, T76, T77, T78, T79, T80, T81, T82, T83, T84, T85, T87, T89, T91, T92, T93, T95, T96, T97, T98, T102, T103, T105, T107, T108, T109, T110, T112, T116, T120, T121, T122, T123, T124, T125, T126, T128, T130, T131, T132, T134, T135, T136, T137, T138, T140, T142, T143, T145, T146, T148, T149, T150, T152, T153, T154, T155, T156, T163, T164, T165, T166, T167, bin_rem_c, bin_quo_c, l0, l4, l3, e0, z10, tm1, f1, w0, w1, w2, q1, app_front0]
          refine fin _ _ ?_ ?_ (out0 _ _ ?_ rfl hL)
          all_goals (try simp only [look])
          all_goals simp [l0]
        · have af := fun (x : PC) (v : Int) (m : Addr → Option PC) => @app_front h m i cs.length cs x v hi rfl hne (by omega)
          simp (config := { maxSteps := 4000000, implicitDefEqProofs := false }) only [WK0, WK1, WK2, WK3, WK4, WK5, WK6, WK7, WK8, WK9, WK10, WK11, WK12, WK13, WK14, WK15, WK16, WK17, WK18, WK19, WK20, WK21, WK22, WK23, WK24, WK25, WK26, WK27, WK28, WK29, WK30, look_hit, look_miss, List.map_cons, List.map_nil, Nat.add_zero, max_v, min_v, ↓cnd_t, ↓cnd_f, ↓grd_b, ↓grd_u, startEnv, Option.map_some, List.length_nil, List.length_cons, List.nil_append, List.cons_append, List.getElem?_cons_zero, List.getElem?_cons_succ, List.set_cons_zero, List.set_cons_succ, Bool.not_true, Bool.not_false, reduceIte, Nat.reduceEqDiff, Nat.reduceAdd, Nat.reduceLT, blt_lit, beq_lit, Bool.or_true, Bool.true_or, Bool.or_false, Bool.false_or, Bool.and_true, Bool.true_and, Bool.and_self, cond_true, cond_false, List.append_nil, Iv.eta, Option.map_none, idxO_l0, idxO_l1, decide_true, decide_false, reqs_true, Int.zero_sub, wrap_lit, wrapu_lit, Int.reduceLE, Int.reduceLT, Int.reduceAdd, Int.reduceSub, Int.reduceMul, Int.reduceNeg, Int.reduceEq, Option.bind_some, bin_shr_u64, bin_shl_u64, bin_shr_i64, bin_shl_i64, and_m32', Int.reduceToNat, Int.reducePow, Int.reduceMod, Int.reduceDiv, wrap_u64s, true_or, or_true, true_and, and_true, Option.isSome_none, Option.isSome_some, Nat.reduceLeDiff, Nat.reduceMul, Int.toNat_natCast, Int.cast_ofNat_Int, Int.natCast_zero, Int.natCast_one, List.isEmpty_nil, List.isEmpty_cons, List.replicate_zero, List.replicate_succ, T1, T2, T3, T4, T5, T6, T9, T10, T11, T12, T21, T22, T23, T25, T26, T27, T28, T29, T30, T32, T33, T34, T35, T36, T37, T38, T39, T40, T41, T42, T43, T44, T46, T48, T50, T52, T53, T54, T55, T56, T57, T58, T59, T61, T62, T63, T64, T65, T66, T67, T68, T69, T70, T71, T72, T73, T74, T75, T76, T77, T78, T79, T80, T81, T82, T83, T84, T85, T87, T89, T91, T92, T93, T95, T96, T97, T98, T102, T103, T105, T107, T108, T109, T110, T112, T116, T120, T121, T122, T123, T124, T125, T126, T128, T130, T131, T132, T134, T135, T136, T137, T138, T140, T142, T143, T145, T146, T148, T149, T150, T152, T153, T154, T155, T156, T163, T164, T165, T166, T167, bin_rem_c, bin_quo_c, l0, l4, l3, e0, z10, tm1, f1, w0, w1, w2, q1, af]
          refine fin _ _ ?_ ?_ (out1 _ _ cs ?_ rfl hb hl)
          all_goals (try simp only [look])
          all_goals simp [l0]
  · cases hF

-- units
theorem itoa_len {n : Int} (h0 : -9223372036854775808 ≤ n) (h1 : n ≤ 9223372036854775807) : (Lib.itoa n).length ≤ 20 := by
  have := decB_le h0 h1
  rw [itoa_B]
  split
  · simp
  · split <;> simp <;> omega
theorem itoa_len_d {n d : Int} (h0 : 0 ≤ n) (h1 : n < pw10 d) (hd : 1 ≤ d) : ((Lib.itoa n).length : Int) ≤ d := by
  have h2 : n.natAbs < 10 ^ d.toNat := by
    have : ((n.natAbs : Nat) : Int) < ((10 ^ d.toNat : Nat) : Int) := by
      rw [Int.natCast_pow]
      show _ < pw10 d
      omega
    exact Int.ofNat_lt.1 this
  have := decB_len d.toNat n.natAbs h2
  rw [itoa_B]
  split
  · simp; omega
  · rw [if_neg (by omega)]; omega
theorem itoa_pos (n : Int) : 1 ≤ (Lib.itoa n).length := by
  rw [itoa_B]
  split
  · simp
  · rename_i h
    have : 1 ≤ (decB n.natAbs).length := by
      unfold decB; rw [if_neg (by omega), Lib.decDigits_length]; exact Lib.nDigits_pos _
    split <;> simp <;> omega
theorem absZ_nn {x : Int} : 0 ≤ absZ x := by unfold absZ; split <;> omega
/-- What the units' parts are. -/
structure UnitsOk (m d : Int) (A P : Int) : Prop where
  a0 : 0 ≤ A
  a1 : A ≤ 9223372036854775807
  pa : 1 ≤ P
  pb : P ≤ 1000000000000000000
  zP : decide (P = 0) = false
  ut : A.tdiv P = A / P
  ur : A.tmod P = A % P
  uw : IntKind.i64.wrap (A / P) = A / P
  uq : 0 ≤ A / P ∧ A / P ≤ 9223372036854775807
  ux : 0 ≤ A % P ∧ A % P < P
theorem units_ok {m d : Int} (h : (-9223372036854775808 < m ∧ m ≤ 9223372036854775807) ∧ 0 ≤ d ∧ d ≤ 9) : UnitsOk m d (absZ m) (pw10 d) := by
  have p := @pw10_in d (by omega)
  have a0 : 0 ≤ absZ m := absZ_nn
  have a1 : absZ m ≤ 9223372036854775807 := by unfold absZ; split <;> omega
  have q0 : 0 ≤ absZ m / pw10 d := Int.ediv_nonneg a0 (by omega)
  have q1 : absZ m / pw10 d ≤ absZ m := Int.ediv_le_self _ a0
  exact ⟨a0, a1, p.1, p.2, by simp only [decide_eq_false_iff_not]; omega, Int.tdiv_eq_ediv_of_nonneg a0, Int.tmod_eq_emod_of_nonneg a0, wrap_om (by omega) (by omega), ⟨q0, by omega⟩, ⟨Int.emod_nonneg _ (by omega), Int.emod_lt_of_pos _ (by omega)⟩⟩
theorem rep_48 (c : Nat) : Lib.repeatL [48] c = List.replicate c 48 := by
  have := Lib.repeatL_replicate 48 1 c
  simpa using this

end Go.Proofs.YtcnapkdccjibpaaGreatDoor.Eng
