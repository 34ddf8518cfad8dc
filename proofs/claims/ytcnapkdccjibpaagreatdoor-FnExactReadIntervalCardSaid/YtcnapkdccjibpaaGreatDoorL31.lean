/- What functions of the program compute, and that the program computes it: part 31. -/
import Derived.Test.YtcnapkdccjibpaaGreatDoorTab
import Derived.Test.YtcnapkdccjibpaaGreatDoorEng16
import Derived.Laws.BitsLemmas
import Derived.Laws.Bits64
import Derived.Laws.Bits64b
import Derived.Lib.Mul64
import Derived.Lib.BitFns
import Derived.Laws.Externs
import Derived.Test.YtcnapkdccjibpaaGreatDoorL1
import Derived.Test.YtcnapkdccjibpaaGreatDoorL10
import Derived.Test.YtcnapkdccjibpaaGreatDoorL15
import Derived.Test.YtcnapkdccjibpaaGreatDoorL19
import Derived.Test.YtcnapkdccjibpaaGreatDoorL23
import Derived.Test.YtcnapkdccjibpaaGreatDoorL24
import Derived.Test.YtcnapkdccjibpaaGreatDoorL26
import Derived.Test.YtcnapkdccjibpaaGreatDoorL29
import Derived.Test.YtcnapkdccjibpaaGreatDoorL30
namespace Go.Proofs.YtcnapkdccjibpaaGreatDoor.Eng
open Go Go.RowKit
set_option linter.unusedVariables false
set_option linter.unusedSimpArgs false
set_option maxRecDepth 100000
set_option maxHeartbeats 1000000
-- spec.l03ReadFix
theorem spec_l03ReadFix_readFix_ok : Fn Tryz.prog 34 F_readFix := by
  refine fn_of_go (O := orc [⟨62, F_readS, .inl spec_l03Read_readS_ok⟩, ⟨63, F_fixFloor, .inl spec_l03Floor_fixFloor_ok⟩, ⟨64, F_pow10, .inl spec_l03Power_pow10_ok⟩, ⟨65, F_fixCeil, .inl spec_l03Ceil_fixCeil_ok⟩]) mixed T_ok (orc_sound _) Tryz.func34 (by kernel_rfl) rfl Tryz.ntmps34 (by kernel_rfl) Tryz.results34 ?_
  intro args g pre r new hF hpre
  unfold F_readFix at hF
  split at hF
  · rename_i s
    simp only [Option.some.injEq, Prod.mk.injEq] at hF
    obtain ⟨rfl, hr, rfl⟩ := hF
    refine ⟨by simp, ?_⟩
    obtain ⟨s, rfl⟩ : ∃ l, s = bs l := ⟨_, (bs_of s).symm⟩
    try simp only [bs_data] at hpre
    try simp only [bs_data] at hr
    obtain ⟨m, d, ok, hP⟩ : ∃ m d ok, parseS s = (m, d, ok) := ⟨_, _, _, rfl⟩
    have hR : readF s = fixRead (m, d, ok) := by unfold readF; rw [← read_eq, hP]
    cases ok with
    | false =>
      simp (config := { maxSteps := 4000000, implicitDefEqProofs := false }) only [F_fixCeil_eq, F_fixFloor_eq, F_pow10_eq, F_readS_eq, WK0, WK1, WK2, WK3, WK4, WK5, WK6, WK7, WK8, WK9, WK10, WK11, WK12, WK13, WK14, WK15, WK16, WK17, WK18, WK19, WK20, WK21, WK22, WK23, WK24, WK25, WK26, WK27, WK28, WK29, WK30, look_hit, look_miss, List.map_cons, List.map_nil, Nat.add_zero, max_v, min_v, ↓cnd_t, ↓cnd_f, ↓grd_b, ↓grd_u, startEnv, Option.map_some, List.length_nil, List.length_cons, List.nil_append, List.cons_append, List.getElem?_cons_zero, List.getElem?_cons_succ, List.set_cons_zero, List.set_cons_succ, Bool.not_true, Bool.not_false, reduceIte, Nat.reduceEqDiff, Nat.reduceAdd, Nat.reduceLT, blt_lit, beq_lit, Bool.or_true, Bool.true_or, Bool.or_false, Bool.false_or, Bool.and_true, Bool.true_and, Bool.and_self, cond_true, cond_false, List.append_nil, Iv.eta, Option.map_none, idxO_l0, idxO_l1, decide_true, decide_false, reqs_true, Int.zero_sub, wrap_lit, wrapu_lit, Int.reduceLE, Int.reduceLT, Int.reduceAdd, Int.reduceSub, Int.reduceMul, Int.reduceNeg, Int.reduceEq, Option.bind_some, bin_shr_u64, bin_shl_u64, bin_shr_i64, bin_shl_i64, and_m32', Int.reduceToNat, Int.reducePow, Int.reduceMod, Int.reduceDiv, wrap_u64s, true_or, or_true, true_and, and_true, Option.isSome_none, Option.isSome_some, Nat.reduceLeDiff, Nat.reduceMul, Int.toNat_natCast, Int.cast_ofNat_Int, Int.natCast_zero, Int.natCast_one, List.isEmpty_nil, List.isEmpty_cons, List.replicate_zero, List.replicate_succ, T1, T2, T3, T4, T5, T6, T9, T10, T11, T12, T21, T22, T23, T25, T26, T27, T28, T29, T30, T32, T33, T34, T35, T36, T37, T38, T39, T40, T41, T42, T43, T44, T46, T48, T50, T52, T53, T54, T55, T56, T57, T58, T59, T61, T62, T63, T64, T65, T66, T67, T68, T69, T70, T71, T72, T73, T74, T75, T76, T77, T78, T79, T80, T81, T82, T83, T84, T85, T87, T89, T91, T92, T93, T95, T96, T97, T98, T102, T103, T105, T107, T108, T109, T110, T112, T116, T120, T121, T122, T123, T124, T125, T126, T128, T130, T131, T132, T134, T135, T136, T137, T138, T140, T142, T143, T145, T146, T148, T149, T150, T152, T153, T154, T155, T156, T163, T164, T165, T166, T167, hP]
      repeat' (first | with_reducible refine cnd_split (fun hc => ?_) (fun hc => ?_) | with_reducible refine Reqs.mk ?_ ?_)
      all_goals first
        | exact hpre
        | (refine endS_iib (t := (readF s)) hr ?_
           rw [hR]; rfl)
    | true =>
      obtain ⟨h1, h2, h3⟩ := parseS_in hP
      simp (config := { maxSteps := 4000000, implicitDefEqProofs := false }) only [F_fixCeil_eq, F_fixFloor_eq, F_pow10_eq, F_readS_eq, WK0, WK1, WK2, WK3, WK4, WK5, WK6, WK7, WK8, WK9, WK10, WK11, WK12, WK13, WK14, WK15, WK16, WK17, WK18, WK19, WK20, WK21, WK22, WK23, WK24, WK25, WK26, WK27, WK28, WK29, WK30, look_hit, look_miss, List.map_cons, List.map_nil, Nat.add_zero, max_v, min_v, ↓cnd_t, ↓cnd_f, ↓grd_b, ↓grd_u, startEnv, Option.map_some, List.length_nil, List.length_cons, List.nil_append, List.cons_append, List.getElem?_cons_zero, List.getElem?_cons_succ, List.set_cons_zero, List.set_cons_succ, Bool.not_true, Bool.not_false, reduceIte, Nat.reduceEqDiff, Nat.reduceAdd, Nat.reduceLT, blt_lit, beq_lit, Bool.or_true, Bool.true_or, Bool.or_false, Bool.false_or, Bool.and_true, Bool.true_and, Bool.and_self, cond_true, cond_false, List.append_nil, Iv.eta, Option.map_none, idxO_l0, idxO_l1, decide_true, decide_false, reqs_true, Int.zero_sub, wrap_lit, wrapu_lit, Int.reduceLE, Int.reduceLT, Int.reduceAdd, Int.reduceSub, Int.reduceMul, Int.reduceNeg, Int.reduceEq, Option.bind_some, bin_shr_u64, bin_shl_u64, bin_shr_i64, bin_shl_i64, and_m32', Int.reduceToNat, Int.reducePow, Int.reduceMod, Int.reduceDiv, wrap_u64s, true_or, or_true, true_and, and_true, Option.isSome_none, Option.isSome_some, Nat.reduceLeDiff, Nat.reduceMul, Int.toNat_natCast, Int.cast_ofNat_Int, Int.natCast_zero, Int.natCast_one, List.isEmpty_nil, List.isEmpty_cons, List.replicate_zero, List.replicate_succ, T1, T2, T3, T4, T5, T6, T9, T10, T11, T12, T21, T22, T23, T25, T26, T27, T28, T29, T30, T32, T33, T34, T35, T36, T37, T38, T39, T40, T41, T42, T43, T44, T46, T48, T50, T52, T53, T54, T55, T56, T57, T58, T59, T61, T62, T63, T64, T65, T66, T67, T68, T69, T70, T71, T72, T73, T74, T75, T76, T77, T78, T79, T80, T81, T82, T83, T84, T85, T87, T89, T91, T92, T93, T95, T96, T97, T98, T102, T103, T105, T107, T108, T109, T110, T112, T116, T120, T121, T122, T123, T124, T125, T126, T128, T130, T131, T132, T134, T135, T136, T137, T138, T140, T142, T143, T145, T146, T148, T149, T150, T152, T153, T154, T155, T156, T163, T164, T165, T166, T167, hP]
      repeat' (first | with_reducible refine cnd_split (fun hc => ?_) (fun hc => ?_) | with_reducible refine Reqs.mk ?_ ?_)
      all_goals first
        | exact hpre
        | exact ⟨h1.1, by omega⟩
        | exact ⟨h2, h3⟩
        | (refine endS_iib (t := (readF s)) hr ?_
           rw [hR]; unfold fixRead; simp_all)
  · cases hF

-- words
def wordsC (ws : List (List UInt8)) : List PC := ws.map fun w => .str (bs w)
def M_splitL : MT := fun m args h => match args with
  | [.c (.p (.str s)), .c (.p (.int .u8 b))] => some (s.data.toList.length ≤ 1048576 ∧ 0 ≤ b ∧ b ≤ 255, .v (.c (.row h.length 0 (splitL (UInt8.ofNat b.toNat) s.data.toList).length 1)), h ++ [wordsC (splitL (UInt8.ofNat b.toNat) s.data.toList)])
  | _ => none
theorem M_splitL_eq {m : Addr → Option PC} {h : Heap} {l : List UInt8} {b : Int} : M_splitL m [.c (.p (.str (bs l))), .c (.p (.int .u8 b))] h = some (l.length ≤ 1048576 ∧ 0 ≤ b ∧ b ≤ 255, .v (.c (.row h.length 0 (splitL (UInt8.ofNat b.toNat) l).length 1)), h ++ [wordsC (splitL (UInt8.ofNat b.toNat) l)]) := by
  simp only [M_splitL, bs_data]
theorem app_w0 {h : Heap} {m : Addr → Option PC} {i o : Nat} {x : PC} {v : ByteArray} :
    appO (h ++ [[x]]) m (some (tdRow [.str v])) (some [.c (.emp i o), .c (.row h.length 0 1 1)]) = some (some (.v (.c (.row (h.length + 1) 0 1 1))), h ++ [[x]] ++ [[x]]) := by
  have hrc : rowCells 1 (h ++ [[x]]) m (.c (.row h.length 0 1 1)) = some (1, [x]) := row_bytes (by simp) rfl (by simp)
  have hz : (tdRow [PC.str v]).ez1.length = 1 := rfl
  have hr : (tdRow [PC.str v]).row = true := rfl
  simp only [appO, hr, if_true, hz, hrc, appF]
  rw [if_pos ⟨by simp, .inl (by omega), by omega⟩]
  simp
theorem app_w {h : Heap} {m : Addr → Option PC} {i k : Nat} {cs : List PC} {x : PC} {v : ByteArray} (hi : h[i]? = some cs) (hl : cs.length = k) (h0 : 0 < k) (hk : k ≤ 1048576) :
    appO (h ++ [[x]]) m (some (tdRow [.str v])) (some [.c (.row i 0 k 1), .c (.row h.length 0 1 1)]) = some (some (.v (.c (.row (h.length + 1) 0 (k + 1) 1))), (h ++ [[x]]).set i [] ++ [cs ++ [x]]) := by
  have hil := (List.getElem?_eq_some_iff.1 hi).1
  have hrc : rowCells 1 (h ++ [[x]]) m (.c (.row h.length 0 1 1)) = some (1, [x]) := row_bytes (by simp) rfl (by simp)
  have hi2 : (h ++ [[x]])[i]? = some cs := by rw [List.getElem?_append_left hil]; exact hi
  have hz : (tdRow [PC.str v]).ez1.length = 1 := rfl
  have hr : (tdRow [PC.str v]).row = true := rfl
  simp only [appO, hr, if_true, hz, hrc, appF, hi2]
  rw [if_pos ⟨by simp, .inl (by omega), by omega⟩, if_pos ⟨trivial, by omega, by omega⟩, if_pos (by omega)]
  simp
/-- Where the words are that were found; k: the boxes at the start. -/
def WordsAt (k : Nat) (e : Env) (h : Heap) (t : Nat) (ws : List (List UInt8)) : Prop :=
  (ws = [] ∧ ∃ i o, look e t = some (.v (.c (.emp i o)))) ∨ (ws ≠ [] ∧ ∃ i, look e t = some (.v (.c (.row i 0 ws.length 1))) ∧ h[i]? = some (wordsC ws) ∧ k < i)
theorem endM_words {hp H : Heap} {i n : Nat} {cs : List PC} (hn : 0 < n) (hc : cs.length = n) (hi : H[i]? = some cs) (h1 : hp.length < i) (h2 : hp.length ≤ H.length) (ht : ∀ k, k < hp.length → H[k]? = hp[k]?) : endM hp.length (.v (.c (.row hp.length 0 n 1))) (hp ++ [cs]) H (some [.c (.row i 0 n 1)]) := by
  have := endM_row (L := hp.length) (h := H) (hp := hp) (sl := .row i 0 n 1) (z := 1) (n := n) (cs := cs) (.inr ⟨hn, by omega, i, rfl, h1, hi⟩) (by omega) h2 ht
  rwa [show rowR hp.length 1 n = .row hp.length 0 n 1 by unfold rowR; rw [if_neg (by omega)], show rowH hp n cs = hp ++ [cs] by unfold rowH; rw [if_neg (by omega)]] at this
theorem drop_cut {s : List UInt8} {f i : Nat} {b : UInt8} (hf : f ≤ i) (h : s[i]? = some b) : s.drop f = (s.take i).drop f ++ b :: s.drop (i + 1) := by
  obtain ⟨hi, h3⟩ := List.getElem?_eq_some_iff.1 h
  have h2 : s.drop i = b :: s.drop (i + 1) := by rw [List.drop_eq_getElem_cons hi, h3]
  rw [← h2]
  conv => lhs; rw [← List.take_append_drop i s]
  rw [List.drop_append_of_le_length (by rw [List.length_take]; omega)]
theorem take_drop_snoc {s : List UInt8} {f i : Nat} {b : UInt8} (hf : f ≤ i) (h : s[i]? = some b) : (s.take (i + 1)).drop f = (s.take i).drop f ++ [b] := by
  have hi := (List.getElem?_eq_some_iff.1 h).1
  rw [take_snoc h, List.drop_append_of_le_length (by rw [List.length_take]; omega)]

-- spec.l01Split
theorem spec_l01Split_splitL_ok : Mn Tryz.prog 33 M_splitL := by
  refine mn_of_go (O := orc []) mixed T_ok (orc_sound _) Tryz.func33 (by kernel_rfl) rfl Tryz.ntmps33 (by kernel_rfl) Tryz.results33 ?_
  intro m args hp pre r h' hM hpre
  unfold M_splitL at hM
  split at hM
  · rename_i s b
    simp only [Option.some.injEq, Prod.mk.injEq] at hM
    obtain ⟨rfl, hr, hh⟩ := hM
    obtain ⟨s, rfl⟩ : ∃ l, s = bs l := ⟨_, (bs_of s).symm⟩
    simp only [bs_data] at hr hh hpre
    obtain ⟨k1, k2, k3⟩ := hpre
    obtain ⟨bb, hbb⟩ : ∃ bb, UInt8.ofNat b.toNat = bb := ⟨_, rfl⟩
    have hbt : (bb.toNat : Int) = b := by rw [← hbb]; simp; omega
    rw [hbb] at hr hh
    refine ⟨by simp, ?_⟩
    simp (config := { maxSteps := 4000000, implicitDefEqProofs := false }) only [WK0, WK1, WK2, WK3, WK4, WK5, WK6, WK7, WK8, WK9, WK10, WK11, WK12, WK13, WK14, WK15, WK16, WK17, WK18, WK19, WK20, WK21, WK22, WK23, WK24, WK25, WK26, WK27, WK28, WK29, WK30, look_hit, look_miss, List.map_cons, List.map_nil, Nat.add_zero, max_v, min_v, ↓cnd_t, ↓cnd_f, ↓grd_b, ↓grd_u, startEnv, Option.map_some, List.length_nil, List.length_cons, List.nil_append, List.cons_append, List.getElem?_cons_zero, List.getElem?_cons_succ, List.set_cons_zero, List.set_cons_succ, Bool.not_true, Bool.not_false, reduceIte, Nat.reduceEqDiff, Nat.reduceAdd, Nat.reduceLT, blt_lit, beq_lit, Bool.or_true, Bool.true_or, Bool.or_false, Bool.false_or, Bool.and_true, Bool.true_and, Bool.and_self, cond_true, cond_false, List.append_nil, Iv.eta, Option.map_none, idxO_l0, idxO_l1, decide_true, decide_false, reqs_true, Int.zero_sub, wrap_lit, wrapu_lit, Int.reduceLE, Int.reduceLT, Int.reduceAdd, Int.reduceSub, Int.reduceMul, Int.reduceNeg, Int.reduceEq, Option.bind_some, bin_shr_u64, bin_shl_u64, bin_shr_i64, bin_shl_i64, and_m32', Int.reduceToNat, Int.reducePow, Int.reduceMod, Int.reduceDiv, wrap_u64s, true_or, or_true, true_and, and_true, Option.isSome_none, Option.isSome_some, Nat.reduceLeDiff, Nat.reduceMul, Int.toNat_natCast, Int.cast_ofNat_Int, Int.natCast_zero, Int.natCast_one, List.isEmpty_nil, List.isEmpty_cons, List.replicate_zero, List.replicate_succ, T1, T2, T3, T4, T5, T6, T9, T10, T11, T12, T21, T22, T23, T25, T26, T27, T28, T29, T30, T32, T33, T34, T35, T36, T37, T38, T39, T40, T41, T42, T43, T44, T46, T48, T50, T52, T53, T54, T55, T56, T57, T58, T59, T61, T62, T63, T64, T65, T66, T67, T68, T69, T70, T71, T72, T73, T74, T75, T76, T77, T78, T79, T80, T81, T82, T83, T84, T85, T87, T89, T91, T92, T93, T95, T96, T97, T98, T102, T103, T105, T107, T108, T109, T110, T112, T116, T120, T121, T122, T123, T124, T125, T126, T128, T130, T131, T132, T134, T135, T136, T137, T138, T140, T142, T143, T145, T146, T148, T149, T150, T152, T153, T154, T155, T156, T163, T164, T165, T166, T167]
    refine go_loop (α := Nat) (fun j => j) (fun j e h => look e 0 = some (.v (.c (.p (.str (bs s))))) ∧ look e 1 = some (.v (.c (.p (.int .u8 b)))) ∧ look e 7 = some (.v (.c (.p (.int .i64 ((s.length : Int) - (j : Int)))))) ∧ j ≤ s.length ∧ (∃ (f : Nat) (ws : List (List UInt8)), look e 6 = some (.v (.c (.p (.int .i64 (f : Int))))) ∧ f ≤ s.length - j ∧ WordsAt hp.length e h 5 ws ∧ ws ++ splitL bb (s.drop f) = splitL bb s ∧ ws.length ≤ s.length - j ∧ ∀ x ∈ (s.take (s.length - j)).drop f, x ≠ bb) ∧ hp.length < h.length ∧ ∀ i, i < hp.length → h[i]? = hp[i]?) s.length ⟨?_, ?_, ?_, Nat.le_refl _, ⟨0, [], ?_, by omega, .inl ⟨rfl, ?_⟩, rfl, by simp, by simp⟩, ?_, ?_⟩ ?_
    · simp [look]
    · simp [look]
    · simp [look]
    · simp [look]
    · exact ⟨hp.length, 0, by simp [look]⟩
    · simp
    · intro i hi; rw [List.getElem?_append_left hi]
    · rintro X j e h ⟨e0, e1, e7, hj, ⟨f, ws, e6, hf, hW, hsp, hwl, hno⟩, hlen, hpf⟩ hX
      have fc := fun (x : PC) (v : ByteArray) (m : Addr → Option PC) (i o : Nat) => @app_w0 h m i o x v
      have wl : ∀ l : List (List UInt8), (wordsC l).length = l.length := fun l => by simp [wordsC]
      cases j with
      | zero =>
        obtain ⟨C, eC⟩ : ∃ C : Int, (s.length : Int) - ((0 : Nat) : Int) = C := ⟨_, rfl⟩
        rw [eC] at e7
        have d0 : decide (C < (s.length : Int)) = false := by simp only [decide_eq_false_iff_not]; omega
        rw [Nat.sub_zero] at hf hwl hno
        rw [List.take_length] at hno
        obtain ⟨F, eF⟩ : ∃ F : Int, (f : Int) = F := ⟨_, rfl⟩
        rw [eF] at e6
        have t1 : ∀ hh : Heap, slcO hh (some tdStr) (some (.c (.p (.str (bs s))))) (some (some F)) (some none) (some none) = some (some (.v (.c (.p (.str (bs (s.drop f)))))), hh) := by
          intro hh
          rw [slc_from (by omega) (by omega), ← eF]; simp
        have hsp2 : splitL bb s = ws ++ [s.drop f] := by rw [← hsp, splitL_none hno]
        rcases hW with ⟨hw0, i, o, e5⟩ | ⟨hwn, i, e5, hi, hil⟩
        · simp (config := { maxSteps := 4000000, implicitDefEqProofs := false }) only [WK0, WK1, WK2, WK3, WK4, WK5, WK6, WK7, WK8, WK9, WK10, WK11, WK12, WK13, WK14, WK15, WK16, WK17, WK18, WK19, WK20, WK21, WK22, WK23, WK24, WK25, WK26, WK27, WK28, WK29, WK30, look_hit, look_miss, List.map_cons, List.map_nil, Nat.add_zero, max_v, min_v, ↓cnd_t, ↓cnd_f, ↓grd_b, ↓grd_u, startEnv, Option.map_some, List.length_nil, List.length_cons, List.nil_append, List.cons_append, List.getElem?_cons_zero, List.getElem?_cons_succ, List.set_cons_zero, List.set_cons_succ, Bool.not_true, Bool.not_false, reduceIte, Nat.reduceEqDiff, Nat.reduceAdd, Nat.reduceLT, blt_lit, beq_lit, Bool.or_true, Bool.true_or, Bool.or_false, Bool.false_or, Bool.and_true, Bool.true_and, Bool.and_self, cond_true, cond_false, List.append_nil, Iv.eta, Option.map_none, idxO_l0, idxO_l1, decide_true, decide_false, reqs_true, Int.zero_sub, wrap_lit, wrapu_lit, Int.reduceLE, Int.reduceLT, Int.reduceAdd, Int.reduceSub, Int.reduceMul, Int.reduceNeg, Int.reduceEq, Option.bind_some, bin_shr_u64, bin_shl_u64, bin_shr_i64, bin_shl_i64, and_m32', Int.reduceToNat, Int.reducePow, Int.reduceMod, Int.reduceDiv, wrap_u64s, true_or, or_true, true_and, and_true, Option.isSome_none, Option.isSome_some, Nat.reduceLeDiff, Nat.reduceMul, Int.toNat_natCast, Int.cast_ofNat_Int, Int.natCast_zero, Int.natCast_one, List.isEmpty_nil, List.isEmpty_cons, List.replicate_zero, List.replicate_succ, T1, T2, T3, T4, T5, T6, T9, T10, T11, T12, T21, T22, T23, T25, T26, T27, T28, T29, T30, T32, T33, T34, T35, T36, T37, T38, T39, T40, T41, T42, T43, T44, T46, T48, T50, T52, T53, T54, T55, T56, T57, T58, T59, T61, T62, T63, T64, T65, T66, T67, T68, T69, T70, T71, T72, T73, T74, T75, T76, T77, T78, T79, T80, T81, T82, T83, T84, T85, T87, T89, T91, T92, T93, T95, T96, T97, T98, T102, T103, T105, T107, T108, T109, T110, T112, T116, T120, T121, T122, T123, T124, T125, T126, T128, T130, T131, T132, T134, T135, T136, T137, T138, T140, T142, T143, T145, T146, T148, T149, T150, T152, T153, T154, T155, T156, T163, T164, T165, T166, T167, e0, e1, e5, e6, e7, d0, t1, fc]
          subst hr hh hw0
          rw [hsp2]
          refine endM_words (by simp) rfl ?_ (by omega) (by simp; omega) ?_
          · rw [List.getElem?_append_right (by simp)]; simp [wordsC]
          · intro k hk
            rw [List.getElem?_append_left (by simp; omega), List.getElem?_append_left (by omega)]; exact hpf k hk
        · have hwp : 0 < ws.length := by
            cases ws with
            | nil => exact absurd rfl hwn
            | cons _ _ => simp
          have fw := fun (x : PC) (v : ByteArray) (m : Addr → Option PC) => @app_w h m i ws.length _ x v hi (wl ws) hwp (by omega)
          simp (config := { maxSteps := 4000000, implicitDefEqProofs := false }) only [WK0, WK1, WK2, WK3, WK4, WK5, WK6, WK7, WK8, WK9, WK10, WK11, WK12, WK13, WK14, WK15, WK16, WK17, WK18, WK19, WK20, WK21, WK22, WK23, WK24, WK25, WK26, WK27, WK28, WK29, WK30, look_hit, look_miss, List.map_cons, List.map_nil, Nat.add_zero, max_v, min_v, ↓cnd_t, ↓cnd_f, ↓grd_b, ↓grd_u, startEnv, Option.map_some, List.length_nil, List.length_cons, List.nil_append, List.cons_append, List.getElem?_cons_zero, List.getElem?_cons_succ, List.set_cons_zero, List.set_cons_succ, Bool.not_true, Bool.not_false, reduceIte, Nat.reduceEqDiff, Nat.reduceAdd, Nat.reduceLT, blt_lit, beq_lit, Bool.or_true, Bool.true_or, Bool.or_false, Bool.false_or, Bool.and_true, Bool.true_and, Bool.and_self, cond_true, cond_false, List.append_nil, Iv.eta, Option.map_none, idxO_l0, idxO_l1, decide_true, decide_false, reqs_true, Int.zero_sub, wrap_lit, wrapu_lit, Int.reduceLE, Int.reduceLT, Int.reduceAdd, Int.reduceSub, Int.reduceMul, Int.reduceNeg, Int.reduceEq, Option.bind_some, bin_shr_u64, bin_shl_u64, bin_shr_i64, bin_shl_i64, and_m32', Int.reduceToNat, Int.reducePow, Int.reduceMod, Int.reduceDiv, wrap_u64s, true_or, or_true, true_and, and_true, Option.isSome_none, Option.isSome_some, Nat.reduceLeDiff, Nat.reduceMul, Int.toNat_natCast, Int.cast_ofNat_Int, Int.natCast_zero, Int.natCast_one, List.isEmpty_nil, List.isEmpty_cons, List.replicate_zero, List.replicate_succ, T1, T2, T3, T4, T5, T6, T9, T10, T11, T12, T21, T22, T23, T25, T26, T27, T28, T29, T30, T32, T33, T34, T35, T36, T37, T38, T39, T40, T41, T42, T43, T44, T46, T48, T50, T52, T53, T54, T55, T56, T57, T58, T59, T61, T62, T63, T64, T65, T66, T67, T68, T69, T70, T71, T72, T73, T74, T75, T76, T77, T78, T79, T80, T81, T82, T83, T84, T85, T87, T89, T91, T92, T93, T95, T96, T97, T98, T102, T103, T105, T107, T108, T109, T110, T112, T116, T120, T121, T122, T123, T124, T125, T126, T128, T130, T131, T132, T134, T135, T136, T137, T138, T140, T142, T143, T145, T146, T148, T149, T150, T152, T153, T154, T155, T156, T163, T164, T165, T166, T167, e0, e1, e5, e6, e7, d0, t1, fw]
          subst hr hh
          rw [hsp2]
          have e9 : wordsC (ws ++ [s.drop f]) = wordsC ws ++ [.str (bs (s.drop f))] := by simp [wordsC]
          rw [e9, show (ws ++ [s.drop f]).length = ws.length + 1 by simp]
          refine endM_words (by omega) (by rw [List.length_append, wl]; rfl) ?_ (by omega) (by simp; omega) ?_
          · rw [List.getElem?_append_right (by simp)]; simp
          · intro k hk
            rw [List.getElem?_append_left (by simp; omega), List.getElem?_set_ne (by omega), List.getElem?_append_left (by omega)]; exact hpf k hk
      | succ j =>
        obtain ⟨K, eK⟩ : ∃ K : Nat, s.length - (j + 1) = K := ⟨_, rfl⟩
        obtain ⟨C, eC⟩ : ∃ C : Int, (s.length : Int) - ((j + 1 : Nat) : Int) = C := ⟨_, rfl⟩
        have hCK : C = (K : Int) := by omega
        have hK : K < s.length := by omega
        have hj1 : s.length - j = K + 1 := by omega
        obtain ⟨b0, hb⟩ : ∃ b0, s[K]? = some b0 := ⟨_, List.getElem?_eq_getElem hK⟩
        rw [eC] at e7
        rw [eK] at hf hwl hno
        obtain ⟨B, eB⟩ : ∃ B : Int, (b0.toNat : Int) = B := ⟨_, rfl⟩
        obtain ⟨F, eF⟩ : ∃ F : Int, (f : Int) = F := ⟨_, rfl⟩
        rw [eF] at e6
        have d0 : decide (C < (s.length : Int)) = true := by simp only [decide_eq_true_eq]; omega
        have i1 : ∀ hh : Heap, idxO hh (some tdStr) (some (.c (.p (.str (bs s))))) (some (.int .i64 C)) = some (some (sp (.int .u8 B)), hh) := by
          intro hh
          rw [← eB]
          exact idx_txt (by omega) (by rw [hCK]; simpa using hb)
        have w5 : IntKind.i64.wrap (C + 1) = C + 1 := wrap_om (by omega) (by omega)
        by_cases hB : b0 = bb
        · have hB2 : decide (B = b) = true := by subst hB; simp only [decide_eq_true_eq]; omega
          subst hB
          have t1 : ∀ hh : Heap, slcO hh (some tdStr) (some (.c (.p (.str (bs s))))) (some (some F)) (some (some C)) (some none) = some (some (.v (.c (.p (.str (bs ((s.take K).drop f)))))), hh) := by
            intro hh
            rw [slc_txt (by omega) (by omega) (by omega), ← eF, hCK]; simp
          have hsp2 : (ws ++ [(s.take K).drop f]) ++ splitL b0 (s.drop (K + 1)) = splitL b0 s := by
            rw [← hsp, drop_cut hf hb, splitL_hit hno]; simp
          rcases hW with ⟨hw0, i, o, e5⟩ | ⟨hwn, i, e5, hi, hil⟩
          · simp (config := { maxSteps := 4000000, implicitDefEqProofs := false }) only [WK0, WK1, WK2, WK3, WK4, WK5, WK6, WK7, WK8, WK9, WK10, WK11, WK12, WK13, WK14, WK15, WK16, WK17, WK18, WK19, WK20, WK21, WK22, WK23, WK24, WK25, WK26, WK27, WK28, WK29, WK30, look_hit, look_miss, List.map_cons, List.map_nil, Nat.add_zero, max_v, min_v, ↓cnd_t, ↓cnd_f, ↓grd_b, ↓grd_u, startEnv, Option.map_some, List.length_nil, List.length_cons, List.nil_append, List.cons_append, List.getElem?_cons_zero, List.getElem?_cons_succ, List.set_cons_zero, List.set_cons_succ, Bool.not_true, Bool.not_false, reduceIte, Nat.reduceEqDiff, Nat.reduceAdd, Nat.reduceLT, blt_lit, beq_lit, Bool.or_true, Bool.true_or, Bool.or_false, Bool.false_or, Bool.and_true, Bool.true_and, Bool.and_self, cond_true, cond_false, List.append_nil, Iv.eta, Option.map_none, idxO_l0, idxO_l1, decide_true, decide_false, reqs_true, Int.zero_sub, wrap_lit, wrapu_lit, Int.reduceLE, Int.reduceLT, Int.reduceAdd, Int.reduceSub, Int.reduceMul, Int.reduceNeg, Int.reduceEq, Option.bind_some, bin_shr_u64, bin_shl_u64, bin_shr_i64, bin_shl_i64, and_m32', Int.reduceToNat, Int.reducePow, Int.reduceMod, Int.reduceDiv, wrap_u64s, true_or, or_true, true_and, and_true, Option.isSome_none, Option.isSome_some, Nat.reduceLeDiff, Nat.reduceMul, Int.toNat_natCast, Int.cast_ofNat_Int, Int.natCast_zero, Int.natCast_one, List.isEmpty_nil, List.isEmpty_cons, List.replicate_zero, List.replicate_succ, T1, T2, T3, T4, T5, T6, T9, T10, T11, T12, T21, T22, T23, T25, T26, T27, T28, T29, T30, T32, T33, T34, T35, T36, T37, T38, T39, T40, T41, T42, T43, T44, T46, T48, T50, T52, T53, T54, T55, T56, T57, T58, T59, T61, T62, T63, T64, T65, T66, T67, T68, T69, T70, T71, T72, T73, T74, T75, T76, T77, T78, T79, T80, T81, T82, T83, T84, T85, T87, T89, T91, T92, T93, T95, T96, T97, T98, T102, T103, T105, T107, T108, T109, T110, T112, T116, T120, T121, T122, T123, T124, T125, T126, T128, T130, T131, T132, T134, T135, T136, T137, T138, T140, T142, T143, T145, T146, T148, T149, T150, T152, T153, T154, T155, T156, T163, T164, T165, T166, T167, e0, e1, e5, e6, e7, d0, i1, hB2, w5, t1, fc]
            refine hX j _ _ (Nat.lt_succ_self j) ⟨?_, ?_, ?_, by omega, ⟨K + 1, ws ++ [(s.take K).drop f], ?_, by omega, .inr ⟨by simp, h.length + 1, ?_, ?_, by omega⟩, hsp2, by simp; omega, ?_⟩, ?_, ?_⟩
            · simp only [look]; simp [e0]
            · simp only [look]; simp [e1]
            · simp only [look]; simp; omega
            · simp only [look]; simp; omega
            · simp only [look]; simp [hw0]
            · rw [List.getElem?_append_right (by simp)]; simp [wordsC, hw0]
            · rw [hj1, List.drop_of_length_le (by rw [List.length_take]; omega)]; simp
            · simp; omega
            · intro k hk
              rw [List.getElem?_append_left (by simp; omega), List.getElem?_append_left (by omega)]; exact hpf k hk
          · have hwp : 0 < ws.length := by
              cases ws with
              | nil => exact absurd rfl hwn
              | cons _ _ => simp
            have fw := fun (x : PC) (v : ByteArray) (m : Addr → Option PC) => @app_w h m i ws.length _ x v hi (wl ws) hwp (by omega)
            simp (config := { maxSteps := 4000000, implicitDefEqProofs := false }) only [WK0, WK1, WK2, WK3, WK4, WK5, WK6, WK7, WK8, WK9, WK10, WK11, WK12, WK13, WK14, WK15, WK16, WK17, WK18, WK19, WK20, WK21, WK22, WK23, WK24, WK25, WK26, WK27, WK28, WK29, WK30, look_hit, look_miss, List.map_cons, List.map_nil, Nat.add_zero, max_v, min_v, ↓cnd_t, ↓cnd_f, ↓grd_b, ↓grd_u, startEnv, Option.map_some, List.length_nil, List.length_cons, List.nil_append, List.cons_append, List.getElem?_cons_zero, List.getElem?_cons_succ, List.set_cons_zero, List.set_cons_succ, Bool.not_true, Bool.not_false, reduceIte, Nat.reduceEqDiff, Nat.reduceAdd, Nat.reduceLT, blt_lit, beq_lit, Bool.or_true, Bool.true_or, Bool.or_false, Bool.false_or, Bool.and_true, Bool.true_and, Bool.and_self, cond_true, cond_false, List.append_nil, Iv.eta, Option.map_none, idxO_l0, idxO_l1, decide_true, decide_false, reqs_true, Int.zero_sub, wrap_lit, wrapu_lit, Int.reduceLE, Int.reduceLT, Int.reduceAdd, Int.reduceSub, Int.reduceMul, Int.reduceNeg, Int.reduceEq, Option.bind_some, bin_shr_u64, bin_shl_u64, bin_shr_i64, bin_shl_i64, and_m32', Int.reduceToNat, Int.reducePow, Int.reduceMod, Int.reduceDiv, wrap_u64s, true_or, or_true, true_and, and_true, Option.isSome_none, Option.isSome_some, Nat.reduceLeDiff, Nat.reduceMul, Int.toNat_natCast, Int.cast_ofNat_Int, Int.natCast_zero, Int.natCast_one, List.isEmpty_nil, List.isEmpty_cons, List.replicate_zero, List.replicate_succ, T1, T2, T3, T4, T5, T6, T9, T10, T11, T12, T21, T22, T23, T25, T26, T27, T28, T29, T30, T32, T33, T34, T35, T36, T37, T38, T39, T40, T41, T42, T43, T44, T46, T48, T50, T52, T53, T54, T55, T56, T57, T58, T59, T61, T62, T63, T64, T65, T66, T67, T68, T69, T70, T71, T72, T73, T74, T75, T76, T77, T78, T79, T80, T81, T82, T83, T84, T85, T87, T89, T91, T92, T93, T95, T96, T97, T98, T102, T103, T105, T107, T108, T109, T110, T112, T116, T120, T121, T122, T123, T124, T125, T126, T128, T130, T131, T132, T134, T135, T136, T137, T138, T140, T142, T143, T145, T146, T148, T149, T150, T152, T153, T154, T155, T156, T163, T164, T165, T166, T167, e0, e1, e5, e6, e7, d0, i1, hB2, w5, t1, fw]
            refine hX j _ _ (Nat.lt_succ_self j) ⟨?_, ?_, ?_, by omega, ⟨K + 1, ws ++ [(s.take K).drop f], ?_, by omega, .inr ⟨by simp, h.length + 1, ?_, ?_, by omega⟩, hsp2, by simp; omega, ?_⟩, ?_, ?_⟩
            · simp only [look]; simp [e0]
            · simp only [look]; simp [e1]
            · simp only [look]; simp; omega
            · simp only [look]; simp; omega
            · simp only [look]; simp
            · rw [List.getElem?_append_right (by simp)]; simp [wordsC]
            · rw [hj1, List.drop_of_length_le (by rw [List.length_take]; omega)]; simp
            · simp; omega
            · intro k hk
              rw [List.getElem?_append_left (by simp; omega), List.getElem?_set_ne (by omega), List.getElem?_append_left (by omega)]; exact hpf k hk
        · have hB2 : decide (B = b) = false := by
            simp only [decide_eq_false_iff_not]
            intro h2
            exact hB (UInt8.toNat_inj.1 (by omega))
          simp (config := { maxSteps := 4000000, implicitDefEqProofs := false }) only [WK0, WK1, WK2, WK3, WK4, WK5, WK6, WK7, WK8, WK9, WK10, WK11, WK12, WK13, WK14, WK15, WK16, WK17, WK18, WK19, WK20, WK21, WK22, WK23, WK24, WK25, WK26, WK27, WK28, WK29, WK30, look_hit, look_miss, List.map_cons, List.map_nil, Nat.add_zero, max_v, min_v, ↓cnd_t, ↓cnd_f, ↓grd_b, ↓grd_u, startEnv, Option.map_some, List.length_nil, List.length_cons, List.nil_append, List.cons_append, List.getElem?_cons_zero, List.getElem?_cons_succ, List.set_cons_zero, List.set_cons_succ, Bool.not_true, Bool.not_false, reduceIte, Nat.reduceEqDiff, Nat.reduceAdd, Nat.reduceLT, blt_lit, beq_lit, Bool.or_true, Bool.true_or, Bool.or_false, Bool.false_or, Bool.and_true, Bool.true_and, Bool.and_self, cond_true, cond_false, List.append_nil, Iv.eta, Option.map_none, idxO_l0, idxO_l1, decide_true, decide_false, reqs_true, Int.zero_sub, wrap_lit, wrapu_lit, Int.reduceLE, Int.reduceLT, Int.reduceAdd, Int.reduceSub, Int.reduceMul, Int.reduceNeg, Int.reduceEq, Option.bind_some, bin_shr_u64, bin_shl_u64, bin_shr_i64, bin_shl_i64, and_m32', Int.reduceToNat, Int.reducePow, Int.reduceMod, Int.reduceDiv, wrap_u64s, true_or, or_true, true_and, and_true, Option.isSome_none, Option.isSome_some, Nat.reduceLeDiff, Nat.reduceMul, Int.toNat_natCast, Int.cast_ofNat_Int, Int.natCast_zero, Int.natCast_one, List.isEmpty_nil, List.isEmpty_cons, List.replicate_zero, List.replicate_succ, T1, T2, T3, T4, T5, T6, T9, T10, T11, T12, T21, T22, T23, T25, T26, T27, T28, T29, T30, T32, T33, T34, T35, T36, T37, T38, T39, T40, T41, T42, T43, T44, T46, T48, T50, T52, T53, T54, T55, T56, T57, T58, T59, T61, T62, T63, T64, T65, T66, T67, T68, T69, T70, T71, T72, T73, T74, T75, T76, T77, T78, T79, T80, T81, T82, T83, T84, T85, T87, T89, T91, T92, T93, T95, T96, T97, T98, T102, T103, T105, T107, T108, T109, T110, T112, T116, T120, T121, T122, T123, T124, T125, T126, T128, T130, T131, T132, T134, T135, T136, T137, T138, T140, T142, T143, T145, T146, T148, T149, T150, T152, T153, T154, T155, T156, T163, T164, T165, T166, T167, e0, e1, e6, e7, d0, i1, hB2, w5]
          refine hX j _ _ (Nat.lt_succ_self j) ⟨?_, ?_, ?_, by omega, ⟨f, ws, ?_, by omega, ?_, hsp, by omega, ?_⟩, hlen, hpf⟩
          · simp only [look]; simp [e0]
          · simp only [look]; simp [e1]
          · simp only [look]; simp; omega
          · simp only [look]; simp [e6, eF]
          · rcases hW with ⟨hw0, i, o, e5⟩ | ⟨hwn, i, e5, hi, hil⟩
            · exact .inl ⟨hw0, i, o, by simp only [look]; simp [e5]⟩
            · exact .inr ⟨hwn, i, by simp only [look]; simp [e5], hi, hil⟩
          · rw [hj1, take_drop_snoc hf hb]
            intro x hx
            rw [List.mem_append] at hx
            rcases hx with hx | hx
            · exact hno x hx
            · simp at hx; subst hx; exact hB
  · cases hM

end Go.Proofs.YtcnapkdccjibpaaGreatDoor.Eng
