/- What functions of the program compute, and that the program computes it: part 35. -/
import Derived.Test.YtcnapkdccjibpaaGreatTab
import Derived.Test.YtcnapkdccjibpaaGreatEng16
import Derived.Laws.BitsLemmas
import Derived.Laws.Bits64
import Derived.Laws.Bits64b
import Derived.Lib.Mul64
import Derived.Lib.BitFns
import Derived.Laws.Externs
import Derived.Test.YtcnapkdccjibpaaGreatL1
import Derived.Test.YtcnapkdccjibpaaGreatL24
import Derived.Test.YtcnapkdccjibpaaGreatL26
import Derived.Test.YtcnapkdccjibpaaGreatL27
import Derived.Test.YtcnapkdccjibpaaGreatL28
namespace Go.Proofs.YtcnapkdccjibpaaGreat.Eng
open Go Go.RowKit
set_option linter.unusedVariables false
set_option linter.unusedSimpArgs false
set_option maxRecDepth 100000
set_option maxHeartbeats 1000000
-- def A2Smalls
def smA (m : Addr → Option PC) (a : Option Addr) (n : Nat) : Iv × Sr := sm4 m a n 6 ⟨0, 0⟩
def smB (m : Addr → Option PC) (a : Option Addr) (n : Nat) : Iv × Sr := sm4 m a n 6 (smA m a n).2
def M_smalls : MT := fun m args h => match args, h with
  | [.c (.p (.sl a n c))], [] => some (Told m a n ∧ n ≤ 1048576, .tup [.agg [.int .i64 (smA m a n).1.lo, .int .i64 (smA m a n).1.hi], .agg [.int .i64 (smB m a n).1.lo, .int .i64 (smB m a n).1.hi]], [])
  | _, _ => none
theorem M_smalls_eq {m : Addr → Option PC} {a : Option Addr} {n c : Nat} : M_smalls m [.c (.p (.sl a n c))] [] = some (Told m a n ∧ n ≤ 1048576, .tup [.agg [.int .i64 (smA m a n).1.lo, .int .i64 (smA m a n).1.hi], .agg [.int .i64 (smB m a n).1.lo, .int .i64 (smB m a n).1.hi]], []) := rfl
theorem plain_tupA {k : Nat} {x y : List PC} : SV.plain k (.tup [.agg x, .agg y]) := by
  intro z hz
  simp only [List.mem_cons, List.not_mem_nil, or_false] at hz
  rcases hz with rfl | rfl <;> trivial
theorem endM_tupA {hp l : Heap} {x y : List PC} : endM hp.length (.tup [.agg x, .agg y]) hp (hp ++ l) (some [.agg x, .agg y]) :=
  endM_same rfl plain_tupA rfl rfl (by simp) (by simp)

-- spec.A2Smalls
theorem spec_A2Smalls_smalls_ok : Mn Tryz.prog 22 M_smalls := by
  refine mn_of_go (O := orcM [] [⟨54, M_from, false, no_one, spec_l00From_from_ok⟩, ⟨79, M_small, true, fun _ => one_small, spec_l04Small_small_ok⟩]) mixed T_ok (orcM_sound _ _) Tryz.func22 (by kernel_rfl) rfl Tryz.ntmps22 (by kernel_rfl) Tryz.results22 ?_
  intro m args hp pre r h' hM hpre
  unfold M_smalls at hM
  split at hM
  · rename_i a n c
    simp only [Option.some.injEq, Prod.mk.injEq] at hM
    obtain ⟨rfl, hr, hh⟩ := hM
    subst hh
    obtain ⟨k1, k2⟩ := hpre
    refine ⟨by simp, ?_⟩
    have ok0 := sr0_ok (b := 0) k1 k2 (by omega)
    have ok1 := (sm4_in (most := 6) ok0 (by omega)).2.2.2.2
    unfold smB smA at hr
    obtain ⟨A, hA⟩ : ∃ A, sm4 m a n 6 ⟨0, 0⟩ = A := ⟨_, rfl⟩
    rw [hA] at ok1 hr
    obtain ⟨B, hB⟩ : ∃ B, sm4 m a n 6 A.2 = B := ⟨_, rfl⟩
    rw [hB] at hr
    subst hr
    simp (config := { maxSteps := 4000000, implicitDefEqProofs := false }) only [WK0, WK1, WK2, WK3, WK4, WK5, WK6, WK7, WK8, WK9, WK10, WK11, WK12, WK13, WK14, WK15, WK16, WK17, WK18, WK19, WK20, WK21, WK22, WK23, WK24, WK25, WK26, WK27, WK28, look_hit, look_miss, List.map_cons, List.map_nil, Nat.add_zero, max_v, min_v, ↓cnd_t, ↓cnd_f, ↓grd_b, ↓grd_u, startEnv, Option.map_some, List.length_nil, List.length_cons, List.nil_append, List.cons_append, List.getElem?_cons_zero, List.getElem?_cons_succ, List.set_cons_zero, List.set_cons_succ, Bool.not_true, Bool.not_false, reduceIte, Nat.reduceEqDiff, Nat.reduceAdd, Nat.reduceLT, blt_lit, beq_lit, Bool.or_true, Bool.true_or, Bool.or_false, Bool.false_or, Bool.and_true, Bool.true_and, Bool.and_self, cond_true, cond_false, List.append_nil, Iv.eta, Option.map_none, idxO_l0, idxO_l1, decide_true, decide_false, reqs_true, Int.zero_sub, wrap_lit, wrapu_lit, Int.reduceLE, Int.reduceLT, Int.reduceAdd, Int.reduceSub, Int.reduceMul, Int.reduceNeg, Int.reduceEq, Option.bind_some, bin_shr_u64, bin_shl_u64, bin_shr_i64, bin_shl_i64, and_m32', Int.reduceToNat, Int.reducePow, Int.reduceMod, Int.reduceDiv, wrap_u64s, true_or, or_true, true_and, and_true, Option.isSome_none, Option.isSome_some, Nat.reduceLeDiff, Nat.reduceMul, Int.toNat_natCast, Int.cast_ofNat_Int, Int.natCast_zero, Int.natCast_one, List.isEmpty_nil, List.isEmpty_cons, List.replicate_zero, List.replicate_succ, T1, T2, T3, T4, T5, T6, T9, T10, T11, T12, T21, T22, T23, T24, T26, T27, T28, T29, T30, T31, T32, T33, T34, T35, T37, T38, T39, T40, T42, T43, T44, T45, T46, T47, T48, T50, T52, T54, T55, T56, T57, T58, T59, T60, T61, T62, T63, T64, T65, T66, T67, T68, T69, T70, T71, T72, T73, T75, T77, T78, T79, T80, T82, T83, T84, T85, T87, T89, T90, T91, T92, T95, T97, T103, T104, T105, T106, T107, T109, T110, M_from_eq, M_small_eq, sm4O_some, srOf_C, hA, hB, concat_set, concat_get, box1, box1s, box2, box3, box3s, box4, box5, box5s]
    repeat' (first | with_reducible refine cnd_split (fun hc => ?_) (fun hc => ?_) | with_reducible refine Reqs.mk ?_ ?_)
    all_goals first | trivial | (exact ⟨ok0.mono (by omega), by omega, by omega⟩) | (exact ok1.mono (by omega)) | (exact ok0.mono (by omega)) | (exact ⟨ok1.mono (by omega), by omega, by omega⟩) | skip
    all_goals (show endM 0 _ [] _ _; exact endM_same (k := 0) (h' := []) (h1 := _) rfl plain_tupA rfl rfl (by simp) rfl)
  · cases hM

-- def FnExp
def M_lawFnExp : MT := fun m args h => match args, h with
  | [.c (.p (.sl a n c))], [] => some (Told m a n, .v (.c (.p (.bool true))), [])
  | _, _ => none

end Go.Proofs.YtcnapkdccjibpaaGreat.Eng
