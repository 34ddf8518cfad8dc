/- What functions of the program compute, and that the program computes it: part 29. -/
import Derived.Test.YtcnapkdccjibpaaGreatDoorTab
import Derived.Test.YtcnapkdccjibpaaGreatDoorEng16
import Derived.Laws.BitsLemmas
import Derived.Laws.Bits64
import Derived.Laws.Bits64b
import Derived.Lib.Mul64
import Derived.Lib.BitFns
import Derived.Laws.Externs
import Derived.Test.YtcnapkdccjibpaaGreatDoorL1
import Derived.Test.YtcnapkdccjibpaaGreatDoorL19
import Derived.Test.YtcnapkdccjibpaaGreatDoorL24
import Derived.Test.YtcnapkdccjibpaaGreatDoorL26
namespace Go.Proofs.YtcnapkdccjibpaaGreatDoor.Eng
open Go Go.RowKit
set_option linter.unusedVariables false
set_option linter.unusedSimpArgs false
set_option maxRecDepth 100000
set_option maxHeartbeats 1000000
-- read spec contracts
def F_digit : FT
  | [.c (.p (.int .u8 c))], _ => some (True, .v (.c (.p (.bool (decide (48 ≤ c) && decide (c ≤ 57))))), [])
  | _, _ => none
theorem F_digit_eq {c : Int} {g : List PC} : F_digit [.c (.p (.int .u8 c))] g = some (True, .v (.c (.p (.bool (decide (48 ≤ c) && decide (c ≤ 57))))), []) := rfl
def F_readS : FT
  | [.c (.p (.str s))], _ => some ((s.data.toList).length ≤ 1048576, .tup [.c (.p (.int .i64 ((parseS (s.data.toList)).1))), .c (.p (.int .i64 ((parseS (s.data.toList)).2.1))), .c (.p (.bool ((parseS (s.data.toList)).2.2)))], [])
  | _, _ => none
theorem F_readS_eq {s : ByteArray} {g : List PC} : F_readS [.c (.p (.str s))] g = some ((s.data.toList).length ≤ 1048576, .tup [.c (.p (.int .i64 ((parseS (s.data.toList)).1))), .c (.p (.int .i64 ((parseS (s.data.toList)).2.1))), .c (.p (.bool ((parseS (s.data.toList)).2.2)))], []) := rfl
theorem digit_b {b : UInt8} {B : Int} (h : (b.toNat : Int) = B) : (decide (48 ≤ B) && decide (B ≤ 57)) = digB b := by
  subst h
  unfold digB
  have e1 : (48 ≤ (b.toNat : Int)) = (48 ≤ b.toNat) := by apply propext; omega
  have e2 : ((b.toNat : Int) ≤ 57) = (b.toNat ≤ 57) := by apply propext; omega
  simp only [e1, e2]
theorem parseS_in {s : List UInt8} {m d : Int} (h : parseS s = (m, d, true)) : (0 ≤ d ∧ d ≤ 9) ∧ inR m ∧ inR (pw10 d) := by
  unfold parseS at h
  simp only at h
  split at h
  · simp at h
  rename_i c1
  split at h
  · simp at h
  rename_i c2
  split at h
  · simp at h
  simp only [Prod.mk.injEq, and_true] at h
  obtain ⟨rfl, rfl⟩ := h
  simp only [Bool.or_eq_true, decide_eq_true_eq, not_or] at c1
  simp only [Bool.not_eq_true', Bool.not_eq_false] at c2
  have h0 := digsS_nn s
  have hv := valL_in c2
  have hp := @pw10_mono ((restS (bodyS s)).length : Int) 18 (by omega) (by omega) (by omega)
  have h18 : pw10 18 = 1000000000000000000 := by decide
  have hp9 := pw10_in (n := digsS s) (by omega)
  refine ⟨⟨h0, by omega⟩, ?_, ?_⟩
  · unfold inR signS; split <;> omega
  · unfold inR; omega
theorem loop_then {T : Tab} {O : Orc} {g : Gv} {body : Code} {Q : Ex → St → Prop} {e : Env} {h : Heap} {i : Nat} (Mid : Env → Heap → Prop) (h1 : ∀ Q' : Ex → St → Prop, (∀ e h, Mid e h → Q' (.exit i) ⟨e, h⟩) → goS T O g (.loop body) (some ⟨e, h⟩) Q')
    (h2 : ∀ e h, Mid e h → Q (.exit i) ⟨e, h⟩) : goS T O g (.loop body) (some ⟨e, h⟩) Q := h1 Q h2
theorem loop_ret {T : Tab} {O : Orc} {g : Gv} {body : Code} {Q : Ex → St → Prop} {e : Env} {h : Heap} {i : Nat} (Mid Ret : Env → Heap → Prop) (h1 : ∀ Q' : Ex → St → Prop, (∀ e h, Mid e h → Q' (.exit i) ⟨e, h⟩) → (∀ e h, Ret e h → Q' .ret ⟨e, h⟩) → goS T O g (.loop body) (some ⟨e, h⟩) Q')
    (h2 : ∀ e h, Mid e h → Q (.exit i) ⟨e, h⟩) (h3 : ∀ e h, Ret e h → Q .ret ⟨e, h⟩) : goS T O g (.loop body) (some ⟨e, h⟩) Q := h1 Q h2 h3
theorem take_snoc {l : List UInt8} {i : Nat} {b : UInt8} (h : l[i]? = some b) : l.take (i + 1) = l.take i ++ [b] := by rw [List.take_add_one, h]; rfl
theorem dot_found {s : List UInt8} {i : Nat} (h : s[i]? = some 46) (hn : ∀ x ∈ s.take i, x ≠ 46) : dotAt s = some i := by
  have hi := (List.getElem?_eq_some_iff.1 h).1
  have e : s = s.take i ++ 46 :: s.drop (i + 1) := by
    have h2 : s.drop i = 46 :: s.drop (i + 1) := by
      rw [List.drop_eq_getElem_cons hi]
      obtain ⟨_, h3⟩ := List.getElem?_eq_some_iff.1 h
      rw [h3]
    rw [← h2, List.take_append_drop]
  rw [e, dotAt_dig hn, List.length_take]
  congr 1; omega

-- spec.l01Digit
theorem spec_l01Digit_digit_ok : Fn Tryz.prog 83 F_digit := by
  refine fn_of_go (O := orc []) mixed T_ok (orc_sound _) Tryz.func83 (by kernel_rfl) rfl Tryz.ntmps83 (by kernel_rfl) Tryz.results83 ?_
  intro args g pre r new hF hpre
  unfold F_digit at hF
  split at hF
  · rename_i c
    simp only [Option.some.injEq, Prod.mk.injEq] at hF
    obtain ⟨rfl, hr, rfl⟩ := hF
    refine ⟨by simp, ?_⟩
    simp (config := { maxSteps := 4000000, implicitDefEqProofs := false }) only [WK0, WK1, WK2, WK3, WK4, WK5, WK6, WK7, WK8, WK9, WK10, WK11, WK12, WK13, WK14, WK15, WK16, WK17, WK18, WK19, WK20, WK21, WK22, WK23, WK24, WK25, WK26, WK27, WK28, WK29, WK30, look_hit, look_miss, List.map_cons, List.map_nil, Nat.add_zero, max_v, min_v, ↓cnd_t, ↓cnd_f, ↓grd_b, ↓grd_u, startEnv, Option.map_some, List.length_nil, List.length_cons, List.nil_append, List.cons_append, List.getElem?_cons_zero, List.getElem?_cons_succ, List.set_cons_zero, List.set_cons_succ, Bool.not_true, Bool.not_false, reduceIte, Nat.reduceEqDiff, Nat.reduceAdd, Nat.reduceLT, blt_lit, beq_lit, Bool.or_true, Bool.true_or, Bool.or_false, Bool.false_or, Bool.and_true, Bool.true_and, Bool.and_self, cond_true, cond_false, List.append_nil, Iv.eta, Option.map_none, idxO_l0, idxO_l1, decide_true, decide_false, reqs_true, Int.zero_sub, wrap_lit, wrapu_lit, Int.reduceLE, Int.reduceLT, Int.reduceAdd, Int.reduceSub, Int.reduceMul, Int.reduceNeg, Int.reduceEq, Option.bind_some, bin_shr_u64, bin_shl_u64, bin_shr_i64, bin_shl_i64, and_m32', Int.reduceToNat, Int.reducePow, Int.reduceMod, Int.reduceDiv, wrap_u64s, true_or, or_true, true_and, and_true, Option.isSome_none, Option.isSome_some, Nat.reduceLeDiff, Nat.reduceMul, Int.toNat_natCast, Int.cast_ofNat_Int, Int.natCast_zero, Int.natCast_one, List.isEmpty_nil, List.isEmpty_cons, List.replicate_zero, List.replicate_succ, T1, T2, T3, T4, T5, T6, T9, T10, T11, T12, T21, T22, T23, T25, T26, T27, T28, T29, T30, T32, T33, T34, T35, T36, T37, T38, T39, T40, T41, T42, T43, T44, T46, T48, T50, T52, T53, T54, T55, T56, T57, T58, T59, T61, T62, T63, T64, T65, T66, T67, T68, T69, T70, T71, T72, T73, T74, T75, T76, T77, T78, T79, T80, T81, T82, T83, T84, T85, T87, T89, T91, T92, T93, T95, T96, T97, T98, T102, T103, T105, T107, T108, T109, T110, T112, T116, T120, T121, T122, T123, T124, T125, T126, T128, T130, T131, T132, T134, T135, T136, T137, T138, T140, T142, T143, T145, T146, T148, T149, T150, T152, T153, T154, T155, T156, T163, T164, T165, T166, T167]
    repeat' (first | with_reducible refine cnd_split (fun hc => ?_) (fun hc => ?_) | with_reducible refine Reqs.mk ?_ ?_)
    all_goals first
      | trivial
      | (refine endS_b (t := (decide (48 ≤ c) && decide (c ≤ 57))) hr ?_
         simp_all; done)
      | (refine endS_b (t := (decide (48 ≤ c) && decide (c ≤ 57))) hr ?_
         simp_all
         omega)
  · cases hF

end Go.Proofs.YtcnapkdccjibpaaGreatDoor.Eng
