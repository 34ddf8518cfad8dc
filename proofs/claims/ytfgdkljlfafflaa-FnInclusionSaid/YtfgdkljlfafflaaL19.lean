/- What functions of the program compute, and that the program computes it: part 19. -/
import Derived.Test.YtfgdkljlfafflaaTab
import Derived.Test.YtfgdkljlfafflaaEng16
import Derived.Laws.BitsLemmas
import Derived.Laws.Bits64
import Derived.Laws.Bits64b
import Derived.Lib.Mul64
import Derived.Lib.BitFns
import Derived.Laws.Externs
import Derived.Test.YtfgdkljlfafflaaL1
import Derived.Test.YtfgdkljlfafflaaL2
import Derived.Test.YtfgdkljlfafflaaL3
import Derived.Test.YtfgdkljlfafflaaL6
import Derived.Test.YtfgdkljlfafflaaL7
import Derived.Test.YtfgdkljlfafflaaL8
import Derived.Test.YtfgdkljlfafflaaL12
import Derived.Test.YtfgdkljlfafflaaL16
namespace Go.Proofs.Ytfgdkljlfafflaa.Eng
open Go Go.RowKit
set_option linter.unusedVariables false
set_option linter.unusedSimpArgs false
set_option maxRecDepth 100000
set_option maxHeartbeats 1000000
-- impl.HalfI
theorem impl_HalfI_halfI_ok : Fn Try.prog 17 F_halfI := by
  refine fn_of_go (O := orc [⟨36, F_whole, .inl impl_Whole_whole_ok⟩, ⟨45, F_notOk, .inl impl_IsWhole_notOk_ok⟩]) mixed T_ok (orc_sound _) Try.func17 (by kernel_rfl) rfl Try.ntmps17 (by kernel_rfl) Try.results17 ?_
  intro args g pre r new hF hpre
  unfold F_halfI at hF
  split at hF
  · rename_i a1 a2
    simp only [Option.some.injEq, Prod.mk.injEq] at hF
    obtain ⟨rfl, hr, rfl⟩ := hF
    refine ⟨by simp, ?_⟩
    simp (config := { maxSteps := 4000000, implicitDefEqProofs := false }) only [F_notOk_eq, F_whole_eq, WK0, WK1, WK2, WK3, WK4, WK5, WK6, WK7, WK8, WK9, WK10, WK11, WK12, WK13, WK14, WK15, WK16, WK17, WK18, WK19, WK20, WK21, WK22, WK23, WK24, WK25, look_hit, look_miss, List.map_cons, List.map_nil, Nat.add_zero, max_v, min_v, ↓cnd_t, ↓cnd_f, ↓grd_b, ↓grd_u, startEnv, Option.map_some, List.length_nil, List.length_cons, List.nil_append, List.cons_append, List.getElem?_cons_zero, List.getElem?_cons_succ, List.set_cons_zero, List.set_cons_succ, Bool.not_true, Bool.not_false, reduceIte, Nat.reduceEqDiff, Nat.reduceAdd, Nat.reduceLT, blt_lit, beq_lit, Bool.or_true, Bool.true_or, Bool.or_false, Bool.false_or, Bool.and_true, Bool.true_and, Bool.and_self, cond_true, cond_false, List.append_nil, Iv.eta, Option.map_none, idxO_l0, idxO_l1, decide_true, decide_false, reqs_true, Int.zero_sub, wrap_lit, wrapu_lit, Int.reduceLE, Int.reduceLT, Int.reduceAdd, Int.reduceSub, Int.reduceMul, Int.reduceNeg, Int.reduceEq, Option.bind_some, bin_shr_u64, bin_shl_u64, bin_shr_i64, bin_shl_i64, and_m32', Int.reduceToNat, Int.reducePow, Int.reduceMod, Int.reduceDiv, wrap_u64s, true_or, or_true, true_and, and_true, Option.isSome_none, Option.isSome_some, Nat.reduceLeDiff, Nat.reduceMul, Int.toNat_natCast, Int.cast_ofNat_Int, Int.natCast_zero, Int.natCast_one, List.isEmpty_nil, List.isEmpty_cons, List.replicate_zero, List.replicate_succ, T1, T2, T3, T4, T5, T6, T9, T10, T11, T12, T21, T22, T23, T24, T26, T27, T28, T29, T30, T31, T32, T33, T34, T36, T37, T38, T39, T41, T42, T43, T44, T45, T46, T47, T48, T49, T50, T52, T53, T54, T55, T56, T58, T59, T60, T61, T62, T63, T64, T65, T66, T67, T68, T69, T70, T71, T73, T74, T75, T77, T79, T81, T82, T83, T84, T86, T87, T88, T89, T92, T94, T100, T101, T102, T103, T104, T106, T107]
    repeat' (first | with_reducible refine cnd_split (fun hc => ?_) (fun hc => ?_) | with_reducible refine Reqs.mk ?_ ?_)
    all_goals (first | trivial | (refine endS_v (t := (halfI (Iv.mk a1 a2))) hr ?_; try simp_all [halfI]))
    all_goals (try simp only [okI_mk, within_iff] at *)
    all_goals (try simp (disch := omega) only [wrap_om, wrapu_om, mkI_lin])
    all_goals (try simp_all [halfI])
    all_goals (try omega)
  · cases hF

-- mono
def monoI (f : Int → Iv) (x : Iv) : Iv := if okI x then (if okI (f x.lo) && okI (f x.hi) then mkI (f x.lo).lo (f x.hi).hi else whole) else whole
def oddI (f : Int → Iv) (n : Int) : Iv := if n < 0 then negI (f (-n)) else f n
def sinhF (n : Int) : Iv := halfI (subI (expA n) (expA (-n)))
def coshF (n : Int) : Iv := halfI (addI (expA n) (expA (-n)))
def tanhP (n : Int) : Iv := if 51539607552 < n then ⟨4294967295, 4294967296⟩ else divI (subI (intI 1) (expA (-2 * n))) (addI (intI 1) (expA (-2 * n)))
def asinhP (n : Int) : Iv := if n ≤ 35184372088832 then monoI logA (addI ⟨n, n⟩ (sqrtI (addI (sqrI ⟨n, n⟩) (intI 1)))) else addI (addI (lnI 1) (logA n)) ⟨0, 16⟩
def atanhP (n : Int) : Iv := if 4294967296 ≤ n then whole else halfI (monoI logA (divI ⟨4294967296 + n, 4294967296 + n⟩ ⟨4294967296 - n, 4294967296 - n⟩))
def endsI (a b : Iv) : Iv := if okI a && okI b then mkI a.lo b.hi else whole
def F_endsI : FT
  | [.agg [.int .i64 a1, .int .i64 a2], .agg [.int .i64 b1, .int .i64 b2]], _ => some (True, .v (.agg [.int .i64 ((endsI (Iv.mk a1 a2) (Iv.mk b1 b2))).lo, .int .i64 ((endsI (Iv.mk a1 a2) (Iv.mk b1 b2))).hi]), [])
  | _, _ => none
theorem F_endsI_eq {a1 : Int} {a2 : Int} {b1 : Int} {b2 : Int} {g : List PC} : F_endsI [.agg [.int .i64 a1, .int .i64 a2], .agg [.int .i64 b1, .int .i64 b2]] g = some (True, .v (.agg [.int .i64 ((endsI (Iv.mk a1 a2) (Iv.mk b1 b2))).lo, .int .i64 ((endsI (Iv.mk a1 a2) (Iv.mk b1 b2))).hi]), []) := rfl
theorem mono_ok {f : Int → Iv} {x1 x2 : Int} (h : okI ⟨x1, x2⟩ = true) : monoI f ⟨x1, x2⟩ = endsI (f x1) (f x2) := by
  unfold monoI endsI
  rw [if_pos h]
theorem mono_no {f : Int → Iv} {x : Iv} (h : okI x = false) : monoI f x = whole := by
  unfold monoI
  rw [h]; rfl
theorem abs_ok {x : Iv} (h : okI x = true) : okI (absI x) = true ∧ 0 ≤ (absI x).lo := by
  have hn := nearI_ok h
  unfold absI
  rw [if_pos h]
  refine ⟨hn, ?_⟩
  show 0 ≤ nearI x
  unfold nearI absZ
  repeat' split
  all_goals omega
theorem abs_no {x : Iv} (h : okI x = false) : okI (absI x) = false := by
  unfold absI
  rw [h]; rfl
theorem at_mk {n : Int} (h : -1152921504606846976 < n ∧ n < 1152921504606846976) : mkI n n = ⟨n, n⟩ := mkI_lin h.1 (by omega) h.2

-- def ExpI
def expIF (x : Iv) : Iv := monoI (expA) x
def F_expI : FT
  | [.agg [.int .i64 x1, .int .i64 x2]], _ => some (True, .v (.agg [.int .i64 ((expIF (Iv.mk x1 x2))).lo, .int .i64 ((expIF (Iv.mk x1 x2))).hi]), [])
  | _, _ => none
theorem F_expI_eq {x1 : Int} {x2 : Int} {g : List PC} : F_expI [.agg [.int .i64 x1, .int .i64 x2]] g = some (True, .v (.agg [.int .i64 ((expIF (Iv.mk x1 x2))).lo, .int .i64 ((expIF (Iv.mk x1 x2))).hi]), []) := rfl

-- def LogI
def logIF (x : Iv) : Iv := monoI (logA) x
def F_logI : FT
  | [.agg [.int .i64 x1, .int .i64 x2]], _ => some (True, .v (.agg [.int .i64 ((logIF (Iv.mk x1 x2))).lo, .int .i64 ((logIF (Iv.mk x1 x2))).hi]), [])
  | _, _ => none
theorem F_logI_eq {x1 : Int} {x2 : Int} {g : List PC} : F_logI [.agg [.int .i64 x1, .int .i64 x2]] g = some (True, .v (.agg [.int .i64 ((logIF (Iv.mk x1 x2))).lo, .int .i64 ((logIF (Iv.mk x1 x2))).hi]), []) := rfl

-- def SinhI
def sinhIF (x : Iv) : Iv := monoI (sinhF) x
def F_sinhI : FT
  | [.agg [.int .i64 x1, .int .i64 x2]], _ => some (True, .v (.agg [.int .i64 ((sinhIF (Iv.mk x1 x2))).lo, .int .i64 ((sinhIF (Iv.mk x1 x2))).hi]), [])
  | _, _ => none
theorem F_sinhI_eq {x1 : Int} {x2 : Int} {g : List PC} : F_sinhI [.agg [.int .i64 x1, .int .i64 x2]] g = some (True, .v (.agg [.int .i64 ((sinhIF (Iv.mk x1 x2))).lo, .int .i64 ((sinhIF (Iv.mk x1 x2))).hi]), []) := rfl

-- def CoshI
def coshIF (x : Iv) : Iv := monoI (coshF) (absI x)
def F_coshI : FT
  | [.agg [.int .i64 x1, .int .i64 x2]], _ => some (True, .v (.agg [.int .i64 ((coshIF (Iv.mk x1 x2))).lo, .int .i64 ((coshIF (Iv.mk x1 x2))).hi]), [])
  | _, _ => none
theorem F_coshI_eq {x1 : Int} {x2 : Int} {g : List PC} : F_coshI [.agg [.int .i64 x1, .int .i64 x2]] g = some (True, .v (.agg [.int .i64 ((coshIF (Iv.mk x1 x2))).lo, .int .i64 ((coshIF (Iv.mk x1 x2))).hi]), []) := rfl

-- def TanhI
def tanhIF (x : Iv) : Iv := monoI (oddI tanhP) x
def F_tanhI : FT
  | [.agg [.int .i64 x1, .int .i64 x2]], _ => some (True, .v (.agg [.int .i64 ((tanhIF (Iv.mk x1 x2))).lo, .int .i64 ((tanhIF (Iv.mk x1 x2))).hi]), [])
  | _, _ => none
theorem F_tanhI_eq {x1 : Int} {x2 : Int} {g : List PC} : F_tanhI [.agg [.int .i64 x1, .int .i64 x2]] g = some (True, .v (.agg [.int .i64 ((tanhIF (Iv.mk x1 x2))).lo, .int .i64 ((tanhIF (Iv.mk x1 x2))).hi]), []) := rfl

-- def AsinhI
def asinhIF (x : Iv) : Iv := monoI (oddI asinhP) x
def F_asinhI : FT
  | [.agg [.int .i64 x1, .int .i64 x2]], _ => some (True, .v (.agg [.int .i64 ((asinhIF (Iv.mk x1 x2))).lo, .int .i64 ((asinhIF (Iv.mk x1 x2))).hi]), [])
  | _, _ => none
theorem F_asinhI_eq {x1 : Int} {x2 : Int} {g : List PC} : F_asinhI [.agg [.int .i64 x1, .int .i64 x2]] g = some (True, .v (.agg [.int .i64 ((asinhIF (Iv.mk x1 x2))).lo, .int .i64 ((asinhIF (Iv.mk x1 x2))).hi]), []) := rfl

-- def AtanhI
def atanhIF (x : Iv) : Iv := monoI (oddI atanhP) x
def F_atanhI : FT
  | [.agg [.int .i64 x1, .int .i64 x2]], _ => some (True, .v (.agg [.int .i64 ((atanhIF (Iv.mk x1 x2))).lo, .int .i64 ((atanhIF (Iv.mk x1 x2))).hi]), [])
  | _, _ => none
theorem F_atanhI_eq {x1 : Int} {x2 : Int} {g : List PC} : F_atanhI [.agg [.int .i64 x1, .int .i64 x2]] g = some (True, .v (.agg [.int .i64 ((atanhIF (Iv.mk x1 x2))).lo, .int .i64 ((atanhIF (Iv.mk x1 x2))).hi]), []) := rfl

end Go.Proofs.Ytfgdkljlfafflaa.Eng
