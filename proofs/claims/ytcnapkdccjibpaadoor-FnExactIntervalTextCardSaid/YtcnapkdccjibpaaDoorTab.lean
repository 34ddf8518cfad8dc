/- What is told of the types of this program. -/
import Derived.Test.YtcnapkdccjibpaaDoorEng11
import Derived.Test.YtcnapkdccjibpaaDoorProg
import Derived.KernelRfl
namespace Go.Proofs.YtcnapkdccjibpaaDoor.Eng
open Go Go.RowKit
set_option linter.unusedVariables false

def tabList : List (Nat × TD) := [(1, tdOne), (2, tdInt .i64), (3, tdInt .i64), (4, tdBool), (5, tdInt .u8), (6, tdInt .u8), (9, tdStr), (10, tdStr), (11, tdStr), (12, tdInt .u64), (21, tdInt .i32), (22, tdPair .i64 .i64), (23, tdPair .i64 .i64), (24, tdOne), (25, tdPair .i64 .i64), (26, tdOne), (27, tdOne), (28, tdOne), (29, tdOne), (30, tdOne), (31, tdOne), (32, tdOne), (34, tdOne), (35, tdOne), (36, tdOne), (37, tdInt .u64), (38, tdPair .i64 .u64), (39, tdPair .i64 .u64), (40, tdOne), (41, tdOne), (42, tdOne), (43, tdOne), (44, tdOne), (45, tdInt .u64), (47, tdOne), (48, tdOne), (50, tdOne), (51, tdOne), (53, tdRow [.int .u8 0]), (56, tdOne), (60, tdOne), (61, tdOne), (62, tdOne), (63, tdOne), (64, tdOne), (65, tdInt .u32), (67, tdOne), (69, tdOne), (70, tdArr .u8 24), (71, tdOne), (72, tdOne), (74, tdOne), (76, tdOne), (77, tdOne), (78, tdOne), (79, tdOne), (80, tdArr .u64 20), (82, tdOne), (83, tdOne), (84, tdOne), (85, tdArr .u8 32), (86, tdArr .u8 64), (92, tdInt .u8), (93, tdInt .u8), (94, tdOne), (95, tdInt .i32), (96, tdInt .i32), (99, tdOne)]
def tabOf : List (Nat × TD) → Nat → Option TD
  | [], _ => none
  | (t, d) :: r, t' => if t' = t then some d else tabOf r t'
def T : Tab := tabOf tabList
theorem T1 : T 1 = some (tdOne) := rfl
theorem T2 : T 2 = some (tdInt .i64) := rfl
theorem T3 : T 3 = some (tdInt .i64) := rfl
theorem T4 : T 4 = some (tdBool) := rfl
theorem T5 : T 5 = some (tdInt .u8) := rfl
theorem T6 : T 6 = some (tdInt .u8) := rfl
theorem T9 : T 9 = some (tdStr) := rfl
theorem T10 : T 10 = some (tdStr) := rfl
theorem T11 : T 11 = some (tdStr) := rfl
theorem T12 : T 12 = some (tdInt .u64) := rfl
theorem T21 : T 21 = some (tdInt .i32) := rfl
theorem T22 : T 22 = some (tdPair .i64 .i64) := rfl
theorem T23 : T 23 = some (tdPair .i64 .i64) := rfl
theorem T24 : T 24 = some (tdOne) := rfl
theorem T25 : T 25 = some (tdPair .i64 .i64) := rfl
theorem T26 : T 26 = some (tdOne) := rfl
theorem T27 : T 27 = some (tdOne) := rfl
theorem T28 : T 28 = some (tdOne) := rfl
theorem T29 : T 29 = some (tdOne) := rfl
theorem T30 : T 30 = some (tdOne) := rfl
theorem T31 : T 31 = some (tdOne) := rfl
theorem T32 : T 32 = some (tdOne) := rfl
theorem T34 : T 34 = some (tdOne) := rfl
theorem T35 : T 35 = some (tdOne) := rfl
theorem T36 : T 36 = some (tdOne) := rfl
theorem T37 : T 37 = some (tdInt .u64) := rfl
theorem T38 : T 38 = some (tdPair .i64 .u64) := rfl
theorem T39 : T 39 = some (tdPair .i64 .u64) := rfl
theorem T40 : T 40 = some (tdOne) := rfl
theorem T41 : T 41 = some (tdOne) := rfl
theorem T42 : T 42 = some (tdOne) := rfl
theorem T43 : T 43 = some (tdOne) := rfl
theorem T44 : T 44 = some (tdOne) := rfl
theorem T45 : T 45 = some (tdInt .u64) := rfl
theorem T47 : T 47 = some (tdOne) := rfl
theorem T48 : T 48 = some (tdOne) := rfl
theorem T50 : T 50 = some (tdOne) := rfl
theorem T51 : T 51 = some (tdOne) := rfl
theorem T53 : T 53 = some (tdRow [.int .u8 0]) := rfl
theorem T56 : T 56 = some (tdOne) := rfl
theorem T60 : T 60 = some (tdOne) := rfl
theorem T61 : T 61 = some (tdOne) := rfl
theorem T62 : T 62 = some (tdOne) := rfl
theorem T63 : T 63 = some (tdOne) := rfl
theorem T64 : T 64 = some (tdOne) := rfl
theorem T65 : T 65 = some (tdInt .u32) := rfl
theorem T67 : T 67 = some (tdOne) := rfl
theorem T69 : T 69 = some (tdOne) := rfl
theorem T70 : T 70 = some (tdArr .u8 24) := rfl
theorem T71 : T 71 = some (tdOne) := rfl
theorem T72 : T 72 = some (tdOne) := rfl
theorem T74 : T 74 = some (tdOne) := rfl
theorem T76 : T 76 = some (tdOne) := rfl
theorem T77 : T 77 = some (tdOne) := rfl
theorem T78 : T 78 = some (tdOne) := rfl
theorem T79 : T 79 = some (tdOne) := rfl
theorem T80 : T 80 = some (tdArr .u64 20) := rfl
theorem T82 : T 82 = some (tdOne) := rfl
theorem T83 : T 83 = some (tdOne) := rfl
theorem T84 : T 84 = some (tdOne) := rfl
theorem T85 : T 85 = some (tdArr .u8 32) := rfl
theorem T86 : T 86 = some (tdArr .u8 64) := rfl
theorem T92 : T 92 = some (tdInt .u8) := rfl
theorem T93 : T 93 = some (tdInt .u8) := rfl
theorem T94 : T 94 = some (tdOne) := rfl
theorem T95 : T 95 = some (tdInt .i32) := rfl
theorem T96 : T 96 = some (tdInt .i32) := rfl
theorem T99 : T 99 = some (tdOne) := rfl
theorem tabOf_ok {P : Program} : ∀ (l : List (Nat × TD)), (∀ x ∈ l, TdOk P x.1 x.2) → ∀ t d, tabOf l t = some d → TdOk P t d
  | [], _, t, d, h => by cases h
  | (t0, d0) :: r, hl, t, d, h => by
    simp only [tabOf] at h
    by_cases e : t = t0
    · rw [if_pos e] at h; obtain rfl := Option.some.inj h; subst e; exact hl _ (List.mem_cons_self ..)
    · rw [if_neg e] at h; exact tabOf_ok r (fun x hx => hl x (List.mem_cons_of_mem _ hx)) t d h
theorem td1_ok : TdOk Tryd.prog 1 (tdOne) := tdOne_ok Tryd.underlying1 rfl (z := some .nilFunc) (by kernel_rfl)
theorem td2_ok : TdOk Tryd.prog 2 (tdInt .i64) := tdInt_ok Tryd.underlying2 (by kernel_rfl)
theorem td3_ok : TdOk Tryd.prog 3 (tdInt .i64) := tdInt_ok Tryd.underlying3 (by kernel_rfl)
theorem td4_ok : TdOk Tryd.prog 4 (tdBool) := tdBool_ok Tryd.underlying4 (by kernel_rfl)
theorem td5_ok : TdOk Tryd.prog 5 (tdInt .u8) := tdInt_ok Tryd.underlying5 (by kernel_rfl)
theorem td6_ok : TdOk Tryd.prog 6 (tdInt .u8) := tdInt_ok Tryd.underlying6 (by kernel_rfl)
theorem td9_ok : TdOk Tryd.prog 9 (tdStr) := tdStr_ok Tryd.underlying9 (by kernel_rfl)
theorem td10_ok : TdOk Tryd.prog 10 (tdStr) := tdStr_ok Tryd.underlying10 (by kernel_rfl)
theorem td11_ok : TdOk Tryd.prog 11 (tdStr) := tdStr_ok Tryd.underlying11 (by kernel_rfl)
theorem td12_ok : TdOk Tryd.prog 12 (tdInt .u64) := tdInt_ok Tryd.underlying12 (by kernel_rfl)
theorem td21_ok : TdOk Tryd.prog 21 (tdInt .i32) := tdInt_ok Tryd.underlying21 (by kernel_rfl)
theorem td22_ok : TdOk Tryd.prog 22 (tdPair .i64 .i64) := tdPair_ok Tryd.underlying22 (by kernel_rfl) rfl rfl rfl rfl Tryd.underlying2 Tryd.underlying2 (z1 := some (.int .i64 0)) (z2 := some (.int .i64 0)) (by kernel_rfl) (by kernel_rfl) (by kernel_rfl) (by kernel_rfl)
theorem td23_ok : TdOk Tryd.prog 23 (tdPair .i64 .i64) := tdPair_ok Tryd.underlying23 (by kernel_rfl) rfl rfl rfl rfl Tryd.underlying2 Tryd.underlying2 (z1 := some (.int .i64 0)) (z2 := some (.int .i64 0)) (by kernel_rfl) (by kernel_rfl) (by kernel_rfl) (by kernel_rfl)
theorem td24_ok : TdOk Tryd.prog 24 (tdOne) := tdOne_ok Tryd.underlying24 rfl (z := some .nilFunc) (by kernel_rfl)
theorem td25_ok : TdOk Tryd.prog 25 (tdPair .i64 .i64) := tdPair_ok Tryd.underlying25 (by kernel_rfl) rfl rfl rfl rfl Tryd.underlying2 Tryd.underlying2 (z1 := some (.int .i64 0)) (z2 := some (.int .i64 0)) (by kernel_rfl) (by kernel_rfl) (by kernel_rfl) (by kernel_rfl)
theorem td26_ok : TdOk Tryd.prog 26 (tdOne) := tdOne_ok Tryd.underlying26 rfl (z := some .nilFunc) (by kernel_rfl)
theorem td27_ok : TdOk Tryd.prog 27 (tdOne) := tdOne_ok Tryd.underlying27 rfl (z := some .nilFunc) (by kernel_rfl)
theorem td28_ok : TdOk Tryd.prog 28 (tdOne) := tdOne_ok Tryd.underlying28 rfl (z := some .nilFunc) (by kernel_rfl)
theorem td29_ok : TdOk Tryd.prog 29 (tdOne) := tdOne_ok Tryd.underlying29 rfl (z := some .nilFunc) (by kernel_rfl)
theorem td30_ok : TdOk Tryd.prog 30 (tdOne) := tdOne_ok Tryd.underlying30 rfl (z := some .nilFunc) (by kernel_rfl)
theorem td31_ok : TdOk Tryd.prog 31 (tdOne) := tdOne_ok Tryd.underlying31 rfl (z := some .nilFunc) (by kernel_rfl)
theorem td32_ok : TdOk Tryd.prog 32 (tdOne) := tdOne_ok Tryd.underlying32 rfl (z := some .nilFunc) (by kernel_rfl)
theorem td34_ok : TdOk Tryd.prog 34 (tdOne) := tdOne_ok Tryd.underlying34 rfl (z := some .nilFunc) (by kernel_rfl)
theorem td35_ok : TdOk Tryd.prog 35 (tdOne) := tdOne_ok Tryd.underlying35 rfl (z := some .nilFunc) (by kernel_rfl)
theorem td36_ok : TdOk Tryd.prog 36 (tdOne) := tdOne_ok Tryd.underlying36 rfl (z := some .nilFunc) (by kernel_rfl)
theorem td37_ok : TdOk Tryd.prog 37 (tdInt .u64) := tdInt_ok Tryd.underlying37 (by kernel_rfl)
theorem td38_ok : TdOk Tryd.prog 38 (tdPair .i64 .u64) := tdPair_ok Tryd.underlying38 (by kernel_rfl) rfl rfl rfl rfl Tryd.underlying2 Tryd.underlying37 (z1 := some (.int .i64 0)) (z2 := some (.int .u64 0)) (by kernel_rfl) (by kernel_rfl) (by kernel_rfl) (by kernel_rfl)
theorem td39_ok : TdOk Tryd.prog 39 (tdPair .i64 .u64) := tdPair_ok Tryd.underlying39 (by kernel_rfl) rfl rfl rfl rfl Tryd.underlying2 Tryd.underlying37 (z1 := some (.int .i64 0)) (z2 := some (.int .u64 0)) (by kernel_rfl) (by kernel_rfl) (by kernel_rfl) (by kernel_rfl)
theorem td40_ok : TdOk Tryd.prog 40 (tdOne) := tdOne_ok Tryd.underlying40 rfl (z := some .nilFunc) (by kernel_rfl)
theorem td41_ok : TdOk Tryd.prog 41 (tdOne) := tdOne_ok Tryd.underlying41 rfl (z := some .nilFunc) (by kernel_rfl)
theorem td42_ok : TdOk Tryd.prog 42 (tdOne) := tdOne_ok Tryd.underlying42 rfl (z := some .nilFunc) (by kernel_rfl)
theorem td43_ok : TdOk Tryd.prog 43 (tdOne) := tdOne_ok Tryd.underlying43 rfl (z := some .nilFunc) (by kernel_rfl)
theorem td44_ok : TdOk Tryd.prog 44 (tdOne) := tdOne_ok Tryd.underlying44 rfl (z := some .nilFunc) (by kernel_rfl)
theorem td45_ok : TdOk Tryd.prog 45 (tdInt .u64) := tdInt_ok Tryd.underlying45 (by kernel_rfl)
theorem td47_ok : TdOk Tryd.prog 47 (tdOne) := tdOne_ok Tryd.underlying47 rfl (z := some .nilFunc) (by kernel_rfl)
theorem td48_ok : TdOk Tryd.prog 48 (tdOne) := tdOne_ok Tryd.underlying48 rfl (z := some .nilFunc) (by kernel_rfl)
theorem td50_ok : TdOk Tryd.prog 50 (tdOne) := tdOne_ok Tryd.underlying50 rfl (z := some .nilFunc) (by kernel_rfl)
theorem td51_ok : TdOk Tryd.prog 51 (tdOne) := tdOne_ok Tryd.underlying51 rfl (z := some .nilFunc) (by kernel_rfl)
theorem td53_ok : TdOk Tryd.prog 53 (tdRow [.int .u8 0]) := tdRow_ok Tryd.underlying53 (by kernel_rfl) (e := 5) (n := 1) (b := 1) (v := .int .u8 0) (by kernel_rfl) rfl rfl (by decide) (by decide) (by decide) (fun _ => Tryd.underlying5)
theorem td56_ok : TdOk Tryd.prog 56 (tdOne) := tdOne_ok Tryd.underlying56 rfl (z := some .nilFunc) (by kernel_rfl)
theorem td60_ok : TdOk Tryd.prog 60 (tdOne) := tdOne_ok Tryd.underlying60 rfl (z := some .nilFunc) (by kernel_rfl)
theorem td61_ok : TdOk Tryd.prog 61 (tdOne) := tdOne_ok Tryd.underlying61 rfl (z := some .nilFunc) (by kernel_rfl)
theorem td62_ok : TdOk Tryd.prog 62 (tdOne) := tdOne_ok Tryd.underlying62 rfl (z := some .nilFunc) (by kernel_rfl)
theorem td63_ok : TdOk Tryd.prog 63 (tdOne) := tdOne_ok Tryd.underlying63 rfl (z := some .nilFunc) (by kernel_rfl)
theorem td64_ok : TdOk Tryd.prog 64 (tdOne) := tdOne_ok Tryd.underlying64 rfl (z := some .nilFunc) (by kernel_rfl)
theorem td65_ok : TdOk Tryd.prog 65 (tdInt .u32) := tdInt_ok Tryd.underlying65 (by kernel_rfl)
theorem td67_ok : TdOk Tryd.prog 67 (tdOne) := tdOne_ok Tryd.underlying67 rfl (z := some .nilFunc) (by kernel_rfl)
theorem td69_ok : TdOk Tryd.prog 69 (tdOne) := tdOne_ok Tryd.underlying69 rfl (z := some .nilFunc) (by kernel_rfl)
theorem td70_ok : TdOk Tryd.prog 70 (tdArr .u8 24) := tdArr_ok Tryd.underlying70 (by kernel_rfl) Tryd.underlying5 (by kernel_rfl)
theorem td71_ok : TdOk Tryd.prog 71 (tdOne) := tdOne_ok Tryd.underlying71 rfl (z := some .nilFunc) (by kernel_rfl)
theorem td72_ok : TdOk Tryd.prog 72 (tdOne) := tdOne_ok Tryd.underlying72 rfl (z := some .nilFunc) (by kernel_rfl)
theorem td74_ok : TdOk Tryd.prog 74 (tdOne) := tdOne_ok Tryd.underlying74 rfl (z := some .nilFunc) (by kernel_rfl)
theorem td76_ok : TdOk Tryd.prog 76 (tdOne) := tdOne_ok Tryd.underlying76 rfl (z := some .nilFunc) (by kernel_rfl)
theorem td77_ok : TdOk Tryd.prog 77 (tdOne) := tdOne_ok Tryd.underlying77 rfl (z := some .nilFunc) (by kernel_rfl)
theorem td78_ok : TdOk Tryd.prog 78 (tdOne) := tdOne_ok Tryd.underlying78 rfl (z := some .nilFunc) (by kernel_rfl)
theorem td79_ok : TdOk Tryd.prog 79 (tdOne) := tdOne_ok Tryd.underlying79 rfl (z := some .nilFunc) (by kernel_rfl)
theorem td80_ok : TdOk Tryd.prog 80 (tdArr .u64 20) := tdArr_ok Tryd.underlying80 (by kernel_rfl) Tryd.underlying37 (by kernel_rfl)
theorem td82_ok : TdOk Tryd.prog 82 (tdOne) := tdOne_ok Tryd.underlying82 rfl (z := some .nilFunc) (by kernel_rfl)
theorem td83_ok : TdOk Tryd.prog 83 (tdOne) := tdOne_ok Tryd.underlying83 rfl (z := some .nilFunc) (by kernel_rfl)
theorem td84_ok : TdOk Tryd.prog 84 (tdOne) := tdOne_ok Tryd.underlying84 rfl (z := some .nilFunc) (by kernel_rfl)
theorem td85_ok : TdOk Tryd.prog 85 (tdArr .u8 32) := tdArr_ok Tryd.underlying85 (by kernel_rfl) Tryd.underlying5 (by kernel_rfl)
theorem td86_ok : TdOk Tryd.prog 86 (tdArr .u8 64) := tdArr_ok Tryd.underlying86 (by kernel_rfl) Tryd.underlying5 (by kernel_rfl)
theorem td92_ok : TdOk Tryd.prog 92 (tdInt .u8) := tdInt_ok Tryd.underlying92 (by kernel_rfl)
theorem td93_ok : TdOk Tryd.prog 93 (tdInt .u8) := tdInt_ok Tryd.underlying93 (by kernel_rfl)
theorem td94_ok : TdOk Tryd.prog 94 (tdOne) := tdOne_ok Tryd.underlying94 rfl (z := some .nilFunc) (by kernel_rfl)
theorem td95_ok : TdOk Tryd.prog 95 (tdInt .i32) := tdInt_ok Tryd.underlying95 (by kernel_rfl)
theorem td96_ok : TdOk Tryd.prog 96 (tdInt .i32) := tdInt_ok Tryd.underlying96 (by kernel_rfl)
theorem td99_ok : TdOk Tryd.prog 99 (tdOne) := tdOne_ok Tryd.underlying99 rfl (z := some .nilFunc) (by kernel_rfl)
theorem T_ok : ∀ t d, T t = some d → TdOk Tryd.prog t d := by
  refine tabOf_ok tabList ?_
  unfold tabList
  refine List.forall_mem_cons.2 ⟨td1_ok, ?_⟩
  refine List.forall_mem_cons.2 ⟨td2_ok, ?_⟩
  refine List.forall_mem_cons.2 ⟨td3_ok, ?_⟩
  refine List.forall_mem_cons.2 ⟨td4_ok, ?_⟩
  refine List.forall_mem_cons.2 ⟨td5_ok, ?_⟩
  refine List.forall_mem_cons.2 ⟨td6_ok, ?_⟩
  refine List.forall_mem_cons.2 ⟨td9_ok, ?_⟩
  refine List.forall_mem_cons.2 ⟨td10_ok, ?_⟩
  refine List.forall_mem_cons.2 ⟨td11_ok, ?_⟩
  refine List.forall_mem_cons.2 ⟨td12_ok, ?_⟩
  refine List.forall_mem_cons.2 ⟨td21_ok, ?_⟩
  refine List.forall_mem_cons.2 ⟨td22_ok, ?_⟩
  refine List.forall_mem_cons.2 ⟨td23_ok, ?_⟩
  refine List.forall_mem_cons.2 ⟨td24_ok, ?_⟩
  refine List.forall_mem_cons.2 ⟨td25_ok, ?_⟩
  refine List.forall_mem_cons.2 ⟨td26_ok, ?_⟩
  refine List.forall_mem_cons.2 ⟨td27_ok, ?_⟩
  refine List.forall_mem_cons.2 ⟨td28_ok, ?_⟩
  refine List.forall_mem_cons.2 ⟨td29_ok, ?_⟩
  refine List.forall_mem_cons.2 ⟨td30_ok, ?_⟩
  refine List.forall_mem_cons.2 ⟨td31_ok, ?_⟩
  refine List.forall_mem_cons.2 ⟨td32_ok, ?_⟩
  refine List.forall_mem_cons.2 ⟨td34_ok, ?_⟩
  refine List.forall_mem_cons.2 ⟨td35_ok, ?_⟩
  refine List.forall_mem_cons.2 ⟨td36_ok, ?_⟩
  refine List.forall_mem_cons.2 ⟨td37_ok, ?_⟩
  refine List.forall_mem_cons.2 ⟨td38_ok, ?_⟩
  refine List.forall_mem_cons.2 ⟨td39_ok, ?_⟩
  refine List.forall_mem_cons.2 ⟨td40_ok, ?_⟩
  refine List.forall_mem_cons.2 ⟨td41_ok, ?_⟩
  refine List.forall_mem_cons.2 ⟨td42_ok, ?_⟩
  refine List.forall_mem_cons.2 ⟨td43_ok, ?_⟩
  refine List.forall_mem_cons.2 ⟨td44_ok, ?_⟩
  refine List.forall_mem_cons.2 ⟨td45_ok, ?_⟩
  refine List.forall_mem_cons.2 ⟨td47_ok, ?_⟩
  refine List.forall_mem_cons.2 ⟨td48_ok, ?_⟩
  refine List.forall_mem_cons.2 ⟨td50_ok, ?_⟩
  refine List.forall_mem_cons.2 ⟨td51_ok, ?_⟩
  refine List.forall_mem_cons.2 ⟨td53_ok, ?_⟩
  refine List.forall_mem_cons.2 ⟨td56_ok, ?_⟩
  refine List.forall_mem_cons.2 ⟨td60_ok, ?_⟩
  refine List.forall_mem_cons.2 ⟨td61_ok, ?_⟩
  refine List.forall_mem_cons.2 ⟨td62_ok, ?_⟩
  refine List.forall_mem_cons.2 ⟨td63_ok, ?_⟩
  refine List.forall_mem_cons.2 ⟨td64_ok, ?_⟩
  refine List.forall_mem_cons.2 ⟨td65_ok, ?_⟩
  refine List.forall_mem_cons.2 ⟨td67_ok, ?_⟩
  refine List.forall_mem_cons.2 ⟨td69_ok, ?_⟩
  refine List.forall_mem_cons.2 ⟨td70_ok, ?_⟩
  refine List.forall_mem_cons.2 ⟨td71_ok, ?_⟩
  refine List.forall_mem_cons.2 ⟨td72_ok, ?_⟩
  refine List.forall_mem_cons.2 ⟨td74_ok, ?_⟩
  refine List.forall_mem_cons.2 ⟨td76_ok, ?_⟩
  refine List.forall_mem_cons.2 ⟨td77_ok, ?_⟩
  refine List.forall_mem_cons.2 ⟨td78_ok, ?_⟩
  refine List.forall_mem_cons.2 ⟨td79_ok, ?_⟩
  refine List.forall_mem_cons.2 ⟨td80_ok, ?_⟩
  refine List.forall_mem_cons.2 ⟨td82_ok, ?_⟩
  refine List.forall_mem_cons.2 ⟨td83_ok, ?_⟩
  refine List.forall_mem_cons.2 ⟨td84_ok, ?_⟩
  refine List.forall_mem_cons.2 ⟨td85_ok, ?_⟩
  refine List.forall_mem_cons.2 ⟨td86_ok, ?_⟩
  refine List.forall_mem_cons.2 ⟨td92_ok, ?_⟩
  refine List.forall_mem_cons.2 ⟨td93_ok, ?_⟩
  refine List.forall_mem_cons.2 ⟨td94_ok, ?_⟩
  refine List.forall_mem_cons.2 ⟨td95_ok, ?_⟩
  refine List.forall_mem_cons.2 ⟨td96_ok, ?_⟩
  refine List.forall_mem_cons.2 ⟨td99_ok, ?_⟩
  simp
theorem mixed : Tryd.prog.follows .mixedOrders = true := by kernel_rfl
end Go.Proofs.YtcnapkdccjibpaaDoor.Eng
