/- What is told of the types of this program. -/
import Derived.Test.YtmkpilmlgjnadaaEng11
import Derived.Test.YtmkpilmlgjnadaaProg
import Derived.KernelRfl
namespace Go.Proofs.Ytmkpilmlgjnadaa.Eng
open Go Go.RowKit
set_option linter.unusedVariables false

def tabList : List (Nat × TD) := [(1, tdOne), (2, tdInt .i64), (3, tdInt .i64), (4, tdBool), (5, tdInt .u8), (6, tdInt .u8), (9, tdStr), (10, tdStr), (11, tdStr), (12, tdInt .u64), (21, tdInt .i32), (22, tdPair .i64 .i64), (23, tdPair .i64 .i64), (24, tdOne), (25, tdOne), (26, tdOne), (27, tdPair .i64 .i64), (28, tdOne), (29, tdOne), (30, tdOne), (31, tdOne), (32, tdOne), (33, tdOne), (34, tdOne), (35, tdOne), (36, tdOne), (37, tdOne), (38, tdInt .u64), (39, tdOne), (40, tdOne), (42, tdOne), (43, tdOne), (44, tdRow [.int .i64 0]), (45, tdOne), (46, tdOne), (47, tdOne), (48, tdOne), (50, tdOne), (51, tdOne), (52, tdInt .u64), (53, tdPair .i64 .u64), (54, tdPair .i64 .u64), (55, tdOne), (56, tdOne), (57, tdOne), (58, tdArr .i64 2), (59, tdOne), (61, tdOne), (62, tdOne), (63, tdOne), (65, tdOne), (67, tdOne), (69, tdOne), (70, tdOne), (71, tdOne), (72, tdOne), (75, tdOne), (77, tdOne), (83, tdOne), (84, tdInt .u32), (85, tdInt .u8), (86, tdInt .u8), (87, tdOne), (89, tdInt .i32), (90, tdInt .i32)]
def tabOf : List (Nat × TD) → Nat → Option TD
  | [], _ => none
  | (t, d) :: r, t' => if t' = t then some d else tabOf r t'
def T : Tab := tabOf tabList
theorem T1 : T 1 = some (tdOne) := rfl
theorem T2 : T 2 = some (tdInt .i64) := rfl
theorem T3 : T 3 = some (tdInt .i64) := rfl
theorem T4 : T 4 = some (tdBool) := rfl
theorem T5 : T 5 = some (tdInt .u8) := rfl
theorem T6 : T 6 = some (tdInt .u8) := rfl
theorem T9 : T 9 = some (tdStr) := rfl
theorem T10 : T 10 = some (tdStr) := rfl
theorem T11 : T 11 = some (tdStr) := rfl
theorem T12 : T 12 = some (tdInt .u64) := rfl
theorem T21 : T 21 = some (tdInt .i32) := rfl
theorem T22 : T 22 = some (tdPair .i64 .i64) := rfl
theorem T23 : T 23 = some (tdPair .i64 .i64) := rfl
theorem T24 : T 24 = some (tdOne) := rfl
theorem T25 : T 25 = some (tdOne) := rfl
theorem T26 : T 26 = some (tdOne) := rfl
theorem T27 : T 27 = some (tdPair .i64 .i64) := rfl
theorem T28 : T 28 = some (tdOne) := rfl
theorem T29 : T 29 = some (tdOne) := rfl
theorem T30 : T 30 = some (tdOne) := rfl
theorem T31 : T 31 = some (tdOne) := rfl
theorem T32 : T 32 = some (tdOne) := rfl
theorem T33 : T 33 = some (tdOne) := rfl
theorem T34 : T 34 = some (tdOne) := rfl
theorem T35 : T 35 = some (tdOne) := rfl
theorem T36 : T 36 = some (tdOne) := rfl
theorem T37 : T 37 = some (tdOne) := rfl
theorem T38 : T 38 = some (tdInt .u64) := rfl
theorem T39 : T 39 = some (tdOne) := rfl
theorem T40 : T 40 = some (tdOne) := rfl
theorem T42 : T 42 = some (tdOne) := rfl
theorem T43 : T 43 = some (tdOne) := rfl
theorem T44 : T 44 = some (tdRow [.int .i64 0]) := rfl
theorem T45 : T 45 = some (tdOne) := rfl
theorem T46 : T 46 = some (tdOne) := rfl
theorem T47 : T 47 = some (tdOne) := rfl
theorem T48 : T 48 = some (tdOne) := rfl
theorem T50 : T 50 = some (tdOne) := rfl
theorem T51 : T 51 = some (tdOne) := rfl
theorem T52 : T 52 = some (tdInt .u64) := rfl
theorem T53 : T 53 = some (tdPair .i64 .u64) := rfl
theorem T54 : T 54 = some (tdPair .i64 .u64) := rfl
theorem T55 : T 55 = some (tdOne) := rfl
theorem T56 : T 56 = some (tdOne) := rfl
theorem T57 : T 57 = some (tdOne) := rfl
theorem T58 : T 58 = some (tdArr .i64 2) := rfl
theorem T59 : T 59 = some (tdOne) := rfl
theorem T61 : T 61 = some (tdOne) := rfl
theorem T62 : T 62 = some (tdOne) := rfl
theorem T63 : T 63 = some (tdOne) := rfl
theorem T65 : T 65 = some (tdOne) := rfl
theorem T67 : T 67 = some (tdOne) := rfl
theorem T69 : T 69 = some (tdOne) := rfl
theorem T70 : T 70 = some (tdOne) := rfl
theorem T71 : T 71 = some (tdOne) := rfl
theorem T72 : T 72 = some (tdOne) := rfl
theorem T75 : T 75 = some (tdOne) := rfl
theorem T77 : T 77 = some (tdOne) := rfl
theorem T83 : T 83 = some (tdOne) := rfl
theorem T84 : T 84 = some (tdInt .u32) := rfl
theorem T85 : T 85 = some (tdInt .u8) := rfl
theorem T86 : T 86 = some (tdInt .u8) := rfl
theorem T87 : T 87 = some (tdOne) := rfl
theorem T89 : T 89 = some (tdInt .i32) := rfl
theorem T90 : T 90 = some (tdInt .i32) := rfl
theorem tabOf_ok {P : Program} : ∀ (l : List (Nat × TD)), (∀ x ∈ l, TdOk P x.1 x.2) → ∀ t d, tabOf l t = some d → TdOk P t d
  | [], _, t, d, h => by cases h
  | (t0, d0) :: r, hl, t, d, h => by
    simp only [tabOf] at h
    by_cases e : t = t0
    · rw [if_pos e] at h; obtain rfl := Option.some.inj h; subst e; exact hl _ (List.mem_cons_self ..)
    · rw [if_neg e] at h; exact tabOf_ok r (fun x hx => hl x (List.mem_cons_of_mem _ hx)) t d h
theorem td1_ok : TdOk Try.prog 1 (tdOne) := tdOne_ok Try.underlying1 rfl (z := some .nilFunc) (by kernel_rfl)
theorem td2_ok : TdOk Try.prog 2 (tdInt .i64) := tdInt_ok Try.underlying2 (by kernel_rfl)
theorem td3_ok : TdOk Try.prog 3 (tdInt .i64) := tdInt_ok Try.underlying3 (by kernel_rfl)
theorem td4_ok : TdOk Try.prog 4 (tdBool) := tdBool_ok Try.underlying4 (by kernel_rfl)
theorem td5_ok : TdOk Try.prog 5 (tdInt .u8) := tdInt_ok Try.underlying5 (by kernel_rfl)
theorem td6_ok : TdOk Try.prog 6 (tdInt .u8) := tdInt_ok Try.underlying6 (by kernel_rfl)
theorem td9_ok : TdOk Try.prog 9 (tdStr) := tdStr_ok Try.underlying9 (by kernel_rfl)
theorem td10_ok : TdOk Try.prog 10 (tdStr) := tdStr_ok Try.underlying10 (by kernel_rfl)
theorem td11_ok : TdOk Try.prog 11 (tdStr) := tdStr_ok Try.underlying11 (by kernel_rfl)
theorem td12_ok : TdOk Try.prog 12 (tdInt .u64) := tdInt_ok Try.underlying12 (by kernel_rfl)
theorem td21_ok : TdOk Try.prog 21 (tdInt .i32) := tdInt_ok Try.underlying21 (by kernel_rfl)
theorem td22_ok : TdOk Try.prog 22 (tdPair .i64 .i64) := tdPair_ok Try.underlying22 (by kernel_rfl) rfl rfl rfl rfl Try.underlying2 Try.underlying2 (z1 := some (.int .i64 0)) (z2 := some (.int .i64 0)) (by kernel_rfl) (by kernel_rfl) (by kernel_rfl) (by kernel_rfl)
theorem td23_ok : TdOk Try.prog 23 (tdPair .i64 .i64) := tdPair_ok Try.underlying23 (by kernel_rfl) rfl rfl rfl rfl Try.underlying2 Try.underlying2 (z1 := some (.int .i64 0)) (z2 := some (.int .i64 0)) (by kernel_rfl) (by kernel_rfl) (by kernel_rfl) (by kernel_rfl)
theorem td24_ok : TdOk Try.prog 24 (tdOne) := tdOne_ok Try.underlying24 rfl (z := some .nilFunc) (by kernel_rfl)
theorem td25_ok : TdOk Try.prog 25 (tdOne) := tdOne_ok Try.underlying25 rfl (z := some .nilFunc) (by kernel_rfl)
theorem td26_ok : TdOk Try.prog 26 (tdOne) := tdOne_ok Try.underlying26 rfl (z := some .nilFunc) (by kernel_rfl)
theorem td27_ok : TdOk Try.prog 27 (tdPair .i64 .i64) := tdPair_ok Try.underlying27 (by kernel_rfl) rfl rfl rfl rfl Try.underlying2 Try.underlying2 (z1 := some (.int .i64 0)) (z2 := some (.int .i64 0)) (by kernel_rfl) (by kernel_rfl) (by kernel_rfl) (by kernel_rfl)
theorem td28_ok : TdOk Try.prog 28 (tdOne) := tdOne_ok Try.underlying28 rfl (z := some .nilFunc) (by kernel_rfl)
theorem td29_ok : TdOk Try.prog 29 (tdOne) := tdOne_ok Try.underlying29 rfl (z := some .nilFunc) (by kernel_rfl)
theorem td30_ok : TdOk Try.prog 30 (tdOne) := tdOne_ok Try.underlying30 rfl (z := some .nilFunc) (by kernel_rfl)
theorem td31_ok : TdOk Try.prog 31 (tdOne) := tdOne_ok Try.underlying31 rfl (z := some .nilFunc) (by kernel_rfl)
theorem td32_ok : TdOk Try.prog 32 (tdOne) := tdOne_ok Try.underlying32 rfl (z := some .nilFunc) (by kernel_rfl)
theorem td33_ok : TdOk Try.prog 33 (tdOne) := tdOne_ok Try.underlying33 rfl (z := some .nilFunc) (by kernel_rfl)
theorem td34_ok : TdOk Try.prog 34 (tdOne) := tdOne_ok Try.underlying34 rfl (z := some .nilFunc) (by kernel_rfl)
theorem td35_ok : TdOk Try.prog 35 (tdOne) := tdOne_ok Try.underlying35 rfl (z := some .nilFunc) (by kernel_rfl)
theorem td36_ok : TdOk Try.prog 36 (tdOne) := tdOne_ok Try.underlying36 rfl (z := some .nilFunc) (by kernel_rfl)
theorem td37_ok : TdOk Try.prog 37 (tdOne) := tdOne_ok Try.underlying37 rfl (z := some .nilFunc) (by kernel_rfl)
theorem td38_ok : TdOk Try.prog 38 (tdInt .u64) := tdInt_ok Try.underlying38 (by kernel_rfl)
theorem td39_ok : TdOk Try.prog 39 (tdOne) := tdOne_ok Try.underlying39 rfl (z := some .nilFunc) (by kernel_rfl)
theorem td40_ok : TdOk Try.prog 40 (tdOne) := tdOne_ok Try.underlying40 rfl (z := some .nilFunc) (by kernel_rfl)
theorem td42_ok : TdOk Try.prog 42 (tdOne) := tdOne_ok Try.underlying42 rfl (z := some .nilFunc) (by kernel_rfl)
theorem td43_ok : TdOk Try.prog 43 (tdOne) := tdOne_ok Try.underlying43 rfl (z := some .nilFunc) (by kernel_rfl)
theorem td44_ok : TdOk Try.prog 44 (tdRow [.int .i64 0]) := tdRow_ok Try.underlying44 (by kernel_rfl) (e := 2) (n := 1) (b := 8) (v := .int .i64 0) (by kernel_rfl) rfl rfl (by decide) (by decide) (by decide)
theorem td45_ok : TdOk Try.prog 45 (tdOne) := tdOne_ok Try.underlying45 rfl (z := some .nilFunc) (by kernel_rfl)
theorem td46_ok : TdOk Try.prog 46 (tdOne) := tdOne_ok Try.underlying46 rfl (z := some .nilFunc) (by kernel_rfl)
theorem td47_ok : TdOk Try.prog 47 (tdOne) := tdOne_ok Try.underlying47 rfl (z := some .nilFunc) (by kernel_rfl)
theorem td48_ok : TdOk Try.prog 48 (tdOne) := tdOne_ok Try.underlying48 rfl (z := some .nilFunc) (by kernel_rfl)
theorem td50_ok : TdOk Try.prog 50 (tdOne) := tdOne_ok Try.underlying50 rfl (z := some .nilFunc) (by kernel_rfl)
theorem td51_ok : TdOk Try.prog 51 (tdOne) := tdOne_ok Try.underlying51 rfl (z := some .nilFunc) (by kernel_rfl)
theorem td52_ok : TdOk Try.prog 52 (tdInt .u64) := tdInt_ok Try.underlying52 (by kernel_rfl)
theorem td53_ok : TdOk Try.prog 53 (tdPair .i64 .u64) := tdPair_ok Try.underlying53 (by kernel_rfl) rfl rfl rfl rfl Try.underlying2 Try.underlying52 (z1 := some (.int .i64 0)) (z2 := some (.int .u64 0)) (by kernel_rfl) (by kernel_rfl) (by kernel_rfl) (by kernel_rfl)
theorem td54_ok : TdOk Try.prog 54 (tdPair .i64 .u64) := tdPair_ok Try.underlying54 (by kernel_rfl) rfl rfl rfl rfl Try.underlying2 Try.underlying52 (z1 := some (.int .i64 0)) (z2 := some (.int .u64 0)) (by kernel_rfl) (by kernel_rfl) (by kernel_rfl) (by kernel_rfl)
theorem td55_ok : TdOk Try.prog 55 (tdOne) := tdOne_ok Try.underlying55 rfl (z := some .nilFunc) (by kernel_rfl)
theorem td56_ok : TdOk Try.prog 56 (tdOne) := tdOne_ok Try.underlying56 rfl (z := some .nilFunc) (by kernel_rfl)
theorem td57_ok : TdOk Try.prog 57 (tdOne) := tdOne_ok Try.underlying57 rfl (z := some .nilFunc) (by kernel_rfl)
theorem td58_ok : TdOk Try.prog 58 (tdArr .i64 2) := tdArr_ok Try.underlying58 (by kernel_rfl) Try.underlying2 (by kernel_rfl)
theorem td59_ok : TdOk Try.prog 59 (tdOne) := tdOne_ok Try.underlying59 rfl (z := some .nilFunc) (by kernel_rfl)
theorem td61_ok : TdOk Try.prog 61 (tdOne) := tdOne_ok Try.underlying61 rfl (z := some .nilFunc) (by kernel_rfl)
theorem td62_ok : TdOk Try.prog 62 (tdOne) := tdOne_ok Try.underlying62 rfl (z := some .nilFunc) (by kernel_rfl)
theorem td63_ok : TdOk Try.prog 63 (tdOne) := tdOne_ok Try.underlying63 rfl (z := some .nilFunc) (by kernel_rfl)
theorem td65_ok : TdOk Try.prog 65 (tdOne) := tdOne_ok Try.underlying65 rfl (z := some .nilFunc) (by kernel_rfl)
theorem td67_ok : TdOk Try.prog 67 (tdOne) := tdOne_ok Try.underlying67 rfl (z := some .nilFunc) (by kernel_rfl)
theorem td69_ok : TdOk Try.prog 69 (tdOne) := tdOne_ok Try.underlying69 rfl (z := some .nilFunc) (by kernel_rfl)
theorem td70_ok : TdOk Try.prog 70 (tdOne) := tdOne_ok Try.underlying70 rfl (z := some .nilFunc) (by kernel_rfl)
theorem td71_ok : TdOk Try.prog 71 (tdOne) := tdOne_ok Try.underlying71 rfl (z := some .nilFunc) (by kernel_rfl)
theorem td72_ok : TdOk Try.prog 72 (tdOne) := tdOne_ok Try.underlying72 rfl (z := some .nilFunc) (by kernel_rfl)
theorem td75_ok : TdOk Try.prog 75 (tdOne) := tdOne_ok Try.underlying75 rfl (z := some .nilFunc) (by kernel_rfl)
theorem td77_ok : TdOk Try.prog 77 (tdOne) := tdOne_ok Try.underlying77 rfl (z := some .nilFunc) (by kernel_rfl)
theorem td83_ok : TdOk Try.prog 83 (tdOne) := tdOne_ok Try.underlying83 rfl (z := some .nilFunc) (by kernel_rfl)
theorem td84_ok : TdOk Try.prog 84 (tdInt .u32) := tdInt_ok Try.underlying84 (by kernel_rfl)
theorem td85_ok : TdOk Try.prog 85 (tdInt .u8) := tdInt_ok Try.underlying85 (by kernel_rfl)
theorem td86_ok : TdOk Try.prog 86 (tdInt .u8) := tdInt_ok Try.underlying86 (by kernel_rfl)
theorem td87_ok : TdOk Try.prog 87 (tdOne) := tdOne_ok Try.underlying87 rfl (z := some .nilFunc) (by kernel_rfl)
theorem td89_ok : TdOk Try.prog 89 (tdInt .i32) := tdInt_ok Try.underlying89 (by kernel_rfl)
theorem td90_ok : TdOk Try.prog 90 (tdInt .i32) := tdInt_ok Try.underlying90 (by kernel_rfl)
theorem T_ok : ∀ t d, T t = some d → TdOk Try.prog t d := by
  refine tabOf_ok tabList ?_
  unfold tabList
  refine List.forall_mem_cons.2 ⟨td1_ok, ?_⟩
  refine List.forall_mem_cons.2 ⟨td2_ok, ?_⟩
  refine List.forall_mem_cons.2 ⟨td3_ok, ?_⟩
  refine List.forall_mem_cons.2 ⟨td4_ok, ?_⟩
  refine List.forall_mem_cons.2 ⟨td5_ok, ?_⟩
  refine List.forall_mem_cons.2 ⟨td6_ok, ?_⟩
  refine List.forall_mem_cons.2 ⟨td9_ok, ?_⟩
  refine List.forall_mem_cons.2 ⟨td10_ok, ?_⟩
  refine List.forall_mem_cons.2 ⟨td11_ok, ?_⟩
  refine List.forall_mem_cons.2 ⟨td12_ok, ?_⟩
  refine List.forall_mem_cons.2 ⟨td21_ok, ?_⟩
  refine List.forall_mem_cons.2 ⟨td22_ok, ?_⟩
  refine List.forall_mem_cons.2 ⟨td23_ok, ?_⟩
  refine List.forall_mem_cons.2 ⟨td24_ok, ?_⟩
  refine List.forall_mem_cons.2 ⟨td25_ok, ?_⟩
  refine List.forall_mem_cons.2 ⟨td26_ok, ?_⟩
  refine List.forall_mem_cons.2 ⟨td27_ok, ?_⟩
  refine List.forall_mem_cons.2 ⟨td28_ok, ?_⟩
  refine List.forall_mem_cons.2 ⟨td29_ok, ?_⟩
  refine List.forall_mem_cons.2 ⟨td30_ok, ?_⟩
  refine List.forall_mem_cons.2 ⟨td31_ok, ?_⟩
  refine List.forall_mem_cons.2 ⟨td32_ok, ?_⟩
  refine List.forall_mem_cons.2 ⟨td33_ok, ?_⟩
  refine List.forall_mem_cons.2 ⟨td34_ok, ?_⟩
  refine List.forall_mem_cons.2 ⟨td35_ok, ?_⟩
  refine List.forall_mem_cons.2 ⟨td36_ok, ?_⟩
  refine List.forall_mem_cons.2 ⟨td37_ok, ?_⟩
  refine List.forall_mem_cons.2 ⟨td38_ok, ?_⟩
  refine List.forall_mem_cons.2 ⟨td39_ok, ?_⟩
  refine List.forall_mem_cons.2 ⟨td40_ok, ?_⟩
  refine List.forall_mem_cons.2 ⟨td42_ok, ?_⟩
  refine List.forall_mem_cons.2 ⟨td43_ok, ?_⟩
  refine List.forall_mem_cons.2 ⟨td44_ok, ?_⟩
  refine List.forall_mem_cons.2 ⟨td45_ok, ?_⟩
  refine List.forall_mem_cons.2 ⟨td46_ok, ?_⟩
  refine List.forall_mem_cons.2 ⟨td47_ok, ?_⟩
  refine List.forall_mem_cons.2 ⟨td48_ok, ?_⟩
  refine List.forall_mem_cons.2 ⟨td50_ok, ?_⟩
  refine List.forall_mem_cons.2 ⟨td51_ok, ?_⟩
  refine List.forall_mem_cons.2 ⟨td52_ok, ?_⟩
  refine List.forall_mem_cons.2 ⟨td53_ok, ?_⟩
  refine List.forall_mem_cons.2 ⟨td54_ok, ?_⟩
  refine List.forall_mem_cons.2 ⟨td55_ok, ?_⟩
  refine List.forall_mem_cons.2 ⟨td56_ok, ?_⟩
  refine List.forall_mem_cons.2 ⟨td57_ok, ?_⟩
  refine List.forall_mem_cons.2 ⟨td58_ok, ?_⟩
  refine List.forall_mem_cons.2 ⟨td59_ok, ?_⟩
  refine List.forall_mem_cons.2 ⟨td61_ok, ?_⟩
  refine List.forall_mem_cons.2 ⟨td62_ok, ?_⟩
  refine List.forall_mem_cons.2 ⟨td63_ok, ?_⟩
  refine List.forall_mem_cons.2 ⟨td65_ok, ?_⟩
  refine List.forall_mem_cons.2 ⟨td67_ok, ?_⟩
  refine List.forall_mem_cons.2 ⟨td69_ok, ?_⟩
  refine List.forall_mem_cons.2 ⟨td70_ok, ?_⟩
  refine List.forall_mem_cons.2 ⟨td71_ok, ?_⟩
  refine List.forall_mem_cons.2 ⟨td72_ok, ?_⟩
  refine List.forall_mem_cons.2 ⟨td75_ok, ?_⟩
  refine List.forall_mem_cons.2 ⟨td77_ok, ?_⟩
  refine List.forall_mem_cons.2 ⟨td83_ok, ?_⟩
  refine List.forall_mem_cons.2 ⟨td84_ok, ?_⟩
  refine List.forall_mem_cons.2 ⟨td85_ok, ?_⟩
  refine List.forall_mem_cons.2 ⟨td86_ok, ?_⟩
  refine List.forall_mem_cons.2 ⟨td87_ok, ?_⟩
  refine List.forall_mem_cons.2 ⟨td89_ok, ?_⟩
  refine List.forall_mem_cons.2 ⟨td90_ok, ?_⟩
  simp
theorem mixed : Try.prog.follows .mixedOrders = true := by kernel_rfl
end Go.Proofs.Ytmkpilmlgjnadaa.Eng
