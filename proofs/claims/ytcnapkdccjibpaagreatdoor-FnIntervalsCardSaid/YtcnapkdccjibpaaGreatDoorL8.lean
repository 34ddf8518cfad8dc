/- What functions of the program compute, and that the program computes it: part 8. -/
import Derived.Test.YtcnapkdccjibpaaGreatDoorTab
import Derived.Test.YtcnapkdccjibpaaGreatDoorEng16
import Derived.Laws.BitsLemmas
import Derived.Laws.Bits64
import Derived.Laws.Bits64b
import Derived.Lib.Mul64
import Derived.Lib.BitFns
import Derived.Laws.Externs
import Derived.Test.YtcnapkdccjibpaaGreatDoorL1
namespace Go.Proofs.YtcnapkdccjibpaaGreatDoor.Eng
open Go Go.RowKit
set_option linter.unusedVariables false
set_option linter.unusedSimpArgs false
set_option maxRecDepth 100000
set_option maxHeartbeats 1000000
-- len64
theorem opd_str {env : Env} {s : ByteArray} : opd env (.const (.string s)) = some (.v (.c (.p (.str s)))) := rfl
def strB (h : Heap) : Option UInt8 → Option (Option SV × Heap)
  | some b => some (some (sp (.int .u8 b.toNat)), h)
  | none => none
theorem idxO_str {h : Heap} {s : ByteArray} {k : IntKind} {j : Int} : idxO h (some tdStr) (some (.c (.p (.str s)))) (some (.int k j)) = strB h (bif decide (0 ≤ j) then s[j.toNat]? else none) := by
  simp only [idxO, tdStr, Bool.true_and]
  cases decide (0 ≤ j) with
  | true => rfl
  | false => rfl
theorem strB_len {h : Heap} {s : ByteArray} {j : Int} (hs : (List.range 256).all (fun i => s[i]? == some (Nat.toUInt8 (Lib.bitLen i))) = true) (hj : 0 ≤ j ∧ j < 256) :
    strB h (bif decide (0 ≤ j) then s[j.toNat]? else none) = some (some (sp (.int .u8 (Lib.bitLen j.toNat))), h) := by
  rw [List.all_eq_true] at hs
  have h1 := hs j.toNat (List.mem_range.2 (by omega))
  have h2 := Lib.bitLen_le8' j hj.1 (by omega)
  simp only [beq_iff_eq] at h1
  rw [decide_eq_true hj.1, cond_true, h1]
  simp only [strB]
  congr 5
  show ((Nat.toUInt8 (Lib.bitLen j.toNat)).toNat : Int) = _
  have : (Nat.toUInt8 (Lib.bitLen j.toNat)).toNat = Lib.bitLen j.toNat := by
    rw [Nat.toUInt8, UInt8.toNat_ofNat']
    omega
  rw [this]
def F_len64 : FT
  | [.c (.p (.int .u64 x))], _ => some (inU x, .v (.c (.p (.int .i64 ((Lib.bitLen x.toNat : Int))))), [])
  | _, _ => none
theorem F_len64_eq {x : Int} {g : List PC} : F_len64 [.c (.p (.int .u64 x))] g = some (inU x, .v (.c (.p (.int .i64 ((Lib.bitLen x.toNat : Int))))), []) := rfl
def F_lead64 : FT
  | [.c (.p (.int .u64 x))], _ => some (inU x, .v (.c (.p (.int .i64 (64 - (Lib.bitLen x.toNat : Int))))), [])
  | _, _ => none
theorem F_lead64_eq {x : Int} {g : List PC} : F_lead64 [.c (.p (.int .u64 x))] g = some (inU x, .v (.c (.p (.int .i64 (64 - (Lib.bitLen x.toNat : Int))))), []) := rfl
theorem bl_div {x : Int} (h0 : 0 ≤ x) (k : Nat) : (x / ((2 ^ k : Nat) : Int)).toNat = x.toNat / 2 ^ k := by
  obtain ⟨m, rfl⟩ := natOf h0
  rw [← Int.natCast_ediv, Int.toNat_natCast, Int.toNat_natCast]
theorem len_fin {x y : Int} (n : Nat) (hx : inU x) (hy : y = x / ((2 ^ n : Nat) : Int)) (hn : n = 0 ∨ ((2 ^ n : Nat) : Int) ≤ x) (h256 : y < 256) (hn2 : n ≤ 56) :
    IntKind.i64.wrap ((n : Int) + IntKind.i64.wrap (Lib.bitLen (IntKind.u8.wrap y).toNat)) = (Lib.bitLen x.toNat : Int) := by
  have hu8 : IntKind.u8.wrap y = y % 256 := IntKind.wrap_u8 y
  unfold inU at hx
  have hy0 : 0 ≤ y := by rw [hy]; exact Int.ediv_nonneg hx.1 (Int.natCast_nonneg _)
  rw [hu8, Int.emod_eq_of_lt hy0 h256]
  have hb := Lib.bitLen_le8' y hy0 (by omega)
  rw [wrap_om (n := (Lib.bitLen y.toNat : Int)) (by omega) (by omega), wrap_om (by omega) (by omega)]
  rcases hn with rfl | hn
  · have : y = x := by rw [hy]; simp
    rw [this]; omega
  · have h1 := Lib.bitLen_shift n x.toNat (by omega) (by omega)
    rw [h1, ← bl_div hx.1 n, ← hy]
    omega

-- math/bits.Len64
theorem math_bits_Len64_len64_ok : Fn Tryz.prog 160 F_len64 := by
  refine fn_of_go (O := orc []) mixed T_ok (orc_sound _) Tryz.func160 (by kernel_rfl) rfl Tryz.ntmps160 (by kernel_rfl) Tryz.results160 ?_
  intro args g pre r new hF hpre
  unfold F_len64 at hF
  split at hF
  · rename_i x
    simp only [Option.some.injEq, Prod.mk.injEq] at hF
    obtain ⟨rfl, hr, rfl⟩ := hF
    refine ⟨by simp, ?_⟩
    simp (config := { maxSteps := 4000000, implicitDefEqProofs := false }) only [WK0, WK1, WK2, WK3, WK4, WK5, WK6, WK7, WK8, WK9, WK10, WK11, WK12, WK13, WK14, WK15, WK16, WK17, WK18, WK19, WK20, WK21, WK22, WK23, WK24, WK25, WK26, WK27, WK28, WK29, WK30, look_hit, look_miss, List.map_cons, List.map_nil, Nat.add_zero, max_v, min_v, ↓cnd_t, ↓cnd_f, ↓grd_b, ↓grd_u, startEnv, Option.map_some, List.length_nil, List.length_cons, List.nil_append, List.cons_append, List.getElem?_cons_zero, List.getElem?_cons_succ, List.set_cons_zero, List.set_cons_succ, Bool.not_true, Bool.not_false, reduceIte, Nat.reduceEqDiff, Nat.reduceAdd, Nat.reduceLT, blt_lit, beq_lit, Bool.or_true, Bool.true_or, Bool.or_false, Bool.false_or, Bool.and_true, Bool.true_and, Bool.and_self, cond_true, cond_false, List.append_nil, Iv.eta, Option.map_none, idxO_l0, idxO_l1, decide_true, decide_false, reqs_true, Int.zero_sub, wrap_lit, wrapu_lit, Int.reduceLE, Int.reduceLT, Int.reduceAdd, Int.reduceSub, Int.reduceMul, Int.reduceNeg, Int.reduceEq, Option.bind_some, bin_shr_u64, bin_shl_u64, bin_shr_i64, bin_shl_i64, and_m32', Int.reduceToNat, Int.reducePow, Int.reduceMod, Int.reduceDiv, wrap_u64s, true_or, or_true, true_and, and_true, Option.isSome_none, Option.isSome_some, Nat.reduceLeDiff, Nat.reduceMul, Int.toNat_natCast, Int.cast_ofNat_Int, Int.natCast_zero, Int.natCast_one, List.isEmpty_nil, List.isEmpty_cons, List.replicate_zero, List.replicate_succ, T1, T2, T3, T4, T5, T6, T9, T10, T11, T12, T21, T22, T23, T25, T26, T27, T28, T29, T30, T32, T33, T34, T35, T36, T37, T38, T39, T40, T41, T42, T43, T44, T46, T48, T50, T52, T53, T54, T55, T56, T57, T58, T59, T61, T62, T63, T64, T65, T66, T67, T68, T69, T70, T71, T72, T73, T74, T75, T76, T77, T78, T79, T80, T81, T82, T83, T84, T85, T87, T89, T91, T92, T93, T95, T96, T97, T98, T102, T103, T105, T107, T108, T109, T110, T112, T116, T120, T121, T122, T123, T124, T125, T126, T128, T130, T131, T132, T134, T135, T136, T137, T138, T140, T142, T143, T145, T146, T148, T149, T150, T152, T153, T154, T155, T156, T163, T164, T165, T166, T167, opd_str, idxO_str]
    repeat' (first | with_reducible refine cnd_split (fun hc => ?_) (fun hc => ?_) | with_reducible refine Reqs.mk ?_ ?_)
    all_goals (try simp only [decide_eq_true_eq, decide_eq_false_iff_not] at *)
    all_goals (rw [strB_len ?hs ?hj]; (case hs => decide +kernel); (case hj => rw [IntKind.wrap_u8]; omega))
    all_goals try simp (config := { maxSteps := 4000000, implicitDefEqProofs := false }) only [WK0, WK1, WK2, WK3, WK4, WK5, WK6, WK7, WK8, WK9, WK10, WK11, WK12, WK13, WK14, WK15, WK16, WK17, WK18, WK19, WK20, WK21, WK22, WK23, WK24, WK25, WK26, WK27, WK28, WK29, WK30, look_hit, look_miss, List.map_cons, List.map_nil, Nat.add_zero, max_v, min_v, ↓cnd_t, ↓cnd_f, ↓grd_b, ↓grd_u, startEnv, Option.map_some, List.length_nil, List.length_cons, List.nil_append, List.cons_append, List.getElem?_cons_zero, List.getElem?_cons_succ, List.set_cons_zero, List.set_cons_succ, Bool.not_true, Bool.not_false, reduceIte, Nat.reduceEqDiff, Nat.reduceAdd, Nat.reduceLT, blt_lit, beq_lit, Bool.or_true, Bool.true_or, Bool.or_false, Bool.false_or, Bool.and_true, Bool.true_and, Bool.and_self, cond_true, cond_false, List.append_nil, Iv.eta, Option.map_none, idxO_l0, idxO_l1, decide_true, decide_false, reqs_true, Int.zero_sub, wrap_lit, wrapu_lit, Int.reduceLE, Int.reduceLT, Int.reduceAdd, Int.reduceSub, Int.reduceMul, Int.reduceNeg, Int.reduceEq, Option.bind_some, bin_shr_u64, bin_shl_u64, bin_shr_i64, bin_shl_i64, and_m32', Int.reduceToNat, Int.reducePow, Int.reduceMod, Int.reduceDiv, wrap_u64s, true_or, or_true, true_and, and_true, Option.isSome_none, Option.isSome_some, Nat.reduceLeDiff, Nat.reduceMul, Int.toNat_natCast, Int.cast_ofNat_Int, Int.natCast_zero, Int.natCast_one, List.isEmpty_nil, List.isEmpty_cons, List.replicate_zero, List.replicate_succ, T1, T2, T3, T4, T5, T6, T9, T10, T11, T12, T21, T22, T23, T25, T26, T27, T28, T29, T30, T32, T33, T34, T35, T36, T37, T38, T39, T40, T41, T42, T43, T44, T46, T48, T50, T52, T53, T54, T55, T56, T57, T58, T59, T61, T62, T63, T64, T65, T66, T67, T68, T69, T70, T71, T72, T73, T74, T75, T76, T77, T78, T79, T80, T81, T82, T83, T84, T85, T87, T89, T91, T92, T93, T95, T96, T97, T98, T102, T103, T105, T107, T108, T109, T110, T112, T116, T120, T121, T122, T123, T124, T125, T126, T128, T130, T131, T132, T134, T135, T136, T137, T138, T140, T142, T143, T145, T146, T148, T149, T150, T152, T153, T154, T155, T156, T163, T164, T165, T166, T167, opd_str, idxO_str]
    all_goals (refine endS_i (t := ((Lib.bitLen x.toNat : Int))) hr ?_)
    all_goals (have hx := hpre; unfold inU at hx)
    · exact len_fin 56 hpre (by omega) (.inr (by omega)) (by omega) (by omega)
    · exact len_fin 48 hpre (by omega) (.inr (by omega)) (by omega) (by omega)
    · exact len_fin 40 hpre (by omega) (.inr (by omega)) (by omega) (by omega)
    · exact len_fin 32 hpre (by omega) (.inr (by omega)) (by omega) (by omega)
    · exact len_fin 24 hpre (by omega) (.inr (by omega)) (by omega) (by omega)
    · exact len_fin 16 hpre (by omega) (.inr (by omega)) (by omega) (by omega)
    · exact len_fin 8 hpre (by omega) (.inr (by omega)) (by omega) (by omega)
    · exact len_fin 0 hpre (by omega) (.inl rfl) (by omega) (by omega)
  · cases hF

-- math/bits.LeadingZeros64
theorem math_bits_LeadingZeros64_lead64_ok : Fn Tryz.prog 151 F_lead64 := by
  refine fn_of_go (O := orc [⟨160, F_len64, .inl math_bits_Len64_len64_ok⟩]) mixed T_ok (orc_sound _) Tryz.func151 (by kernel_rfl) rfl Tryz.ntmps151 (by kernel_rfl) Tryz.results151 ?_
  intro args g pre r new hF hpre
  unfold F_lead64 at hF
  split at hF
  · rename_i x
    simp only [Option.some.injEq, Prod.mk.injEq] at hF
    obtain ⟨rfl, hr, rfl⟩ := hF
    refine ⟨by simp, ?_⟩
    simp (config := { maxSteps := 4000000, implicitDefEqProofs := false }) only [F_len64_eq, WK0, WK1, WK2, WK3, WK4, WK5, WK6, WK7, WK8, WK9, WK10, WK11, WK12, WK13, WK14, WK15, WK16, WK17, WK18, WK19, WK20, WK21, WK22, WK23, WK24, WK25, WK26, WK27, WK28, WK29, WK30, look_hit, look_miss, List.map_cons, List.map_nil, Nat.add_zero, max_v, min_v, ↓cnd_t, ↓cnd_f, ↓grd_b, ↓grd_u, startEnv, Option.map_some, List.length_nil, List.length_cons, List.nil_append, List.cons_append, List.getElem?_cons_zero, List.getElem?_cons_succ, List.set_cons_zero, List.set_cons_succ, Bool.not_true, Bool.not_false, reduceIte, Nat.reduceEqDiff, Nat.reduceAdd, Nat.reduceLT, blt_lit, beq_lit, Bool.or_true, Bool.true_or, Bool.or_false, Bool.false_or, Bool.and_true, Bool.true_and, Bool.and_self, cond_true, cond_false, List.append_nil, Iv.eta, Option.map_none, idxO_l0, idxO_l1, decide_true, decide_false, reqs_true, Int.zero_sub, wrap_lit, wrapu_lit, Int.reduceLE, Int.reduceLT, Int.reduceAdd, Int.reduceSub, Int.reduceMul, Int.reduceNeg, Int.reduceEq, Option.bind_some, bin_shr_u64, bin_shl_u64, bin_shr_i64, bin_shl_i64, and_m32', Int.reduceToNat, Int.reducePow, Int.reduceMod, Int.reduceDiv, wrap_u64s, true_or, or_true, true_and, and_true, Option.isSome_none, Option.isSome_some, Nat.reduceLeDiff, Nat.reduceMul, Int.toNat_natCast, Int.cast_ofNat_Int, Int.natCast_zero, Int.natCast_one, List.isEmpty_nil, List.isEmpty_cons, List.replicate_zero, List.replicate_succ, T1, T2, T3, T4, T5, T6, T9, T10, T11, T12, T21, T22, T23, T25, T26, T27, T28, T29, T30, T32, T33, T34, T35, T36, T37, T38, T39, T40, T41, T42, T43, T44, T46, T48, T50, T52, T53, T54, T55, T56, T57, T58, T59, T61, T62, T63, T64, T65, T66, T67, T68, T69, T70, T71, T72, T73, T74, T75, T76, T77, T78, T79, T80, T81, T82, T83, T84, T85, T87, T89, T91, T92, T93, T95, T96, T97, T98, T102, T103, T105, T107, T108, T109, T110, T112, T116, T120, T121, T122, T123, T124, T125, T126, T128, T130, T131, T132, T134, T135, T136, T137, T138, T140, T142, T143, T145, T146, T148, T149, T150, T152, T153, T154, T155, T156, T163, T164, T165, T166, T167]
    repeat' (first | with_reducible refine cnd_split (fun hc => ?_) (fun hc => ?_) | with_reducible refine Reqs.mk ?_ ?_)
    · exact hpre
    · have h := Lib.bitLen_le x.toNat 64 (by omega) (by unfold inU at hpre; omega)
      refine endS_i (t := (64 - (Lib.bitLen x.toNat : Int))) hr ?_
      rw [wrap_om (by omega) (by omega)]
  · cases hF

end Go.Proofs.YtcnapkdccjibpaaGreatDoor.Eng
