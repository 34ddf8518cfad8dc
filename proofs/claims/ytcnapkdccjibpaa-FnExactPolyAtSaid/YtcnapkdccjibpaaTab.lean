/- What is told of the types of this program. -/
import Derived.Test.YtcnapkdccjibpaaEng11
import Derived.Test.YtcnapkdccjibpaaProg
import Derived.KernelRfl
namespace Go.Proofs.Ytcnapkdccjibpaa.Eng
open Go Go.RowKit
set_option linter.unusedVariables false

def tabList : List (Nat × TD) := [(1, tdOne), (2, tdInt .i64), (3, tdInt .i64), (4, tdBool), (5, tdInt .u8), (6, tdInt .u8), (9, tdStr), (10, tdStr), (11, tdStr), (12, tdInt .u64), (21, tdInt .i32), (22, tdRow [.int .i64 0, .int .i64 0]), (23, tdOne), (24, tdOne), (25, tdRow [.int .i64 0, .int .i64 0]), (26, tdOne), (27, tdOne), (28, tdOne), (30, tdOne), (31, tdOne), (32, tdOne), (33, tdPair .i64 .i64), (34, tdPair .i64 .i64), (35, tdPair .i64 .i64), (36, tdOne), (37, tdOne), (38, tdOne), (39, tdOne), (40, tdOne), (41, tdRow [.int .u8 0]), (42, tdOne), (44, tdOne), (45, tdOne), (46, tdOne), (47, tdOne), (48, tdOne), (49, tdOne), (50, tdOne), (51, tdOne), (52, tdOne), (53, tdOne), (55, tdOne), (56, tdOne), (57, tdOne), (58, tdOne), (59, tdOne), (60, tdRow [.int .i64 0]), (61, tdOne), (63, tdOne), (64, tdOne), (66, tdOne), (67, tdOne), (68, tdOne), (69, tdOne), (70, tdInt .u64), (71, tdTri (.sl none 0 0) (.int .i64 0) (.int .u64 0)), (72, tdTri (.sl none 0 0) (.int .i64 0) (.int .u64 0)), (73, tdInt .u64), (74, tdOne), (75, tdOne), (76, tdOne), (77, tdArr .i64 2), (78, tdOne), (79, tdPair .i64 .u64), (80, tdPair .i64 .u64), (81, tdOne), (82, tdOne), (83, tdOne), (84, tdOne), (86, tdOne), (87, tdOne), (88, tdOne), (89, tdOne), (91, tdOne), (93, tdOne), (94, tdOne), (95, tdOne), (98, tdOne), (100, tdOne), (106, tdOne), (107, tdInt .u32), (108, tdInt .u8), (109, tdInt .u8), (110, tdOne), (112, tdInt .i32), (113, tdInt .i32)]
def tabOf : List (Nat × TD) → Nat → Option TD
  | [], _ => none
  | (t, d) :: r, t' => if t' = t then some d else tabOf r t'
def T : Tab := tabOf tabList
theorem T1 : T 1 = some (tdOne) := rfl
theorem T2 : T 2 = some (tdInt .i64) := rfl
theorem T3 : T 3 = some (tdInt .i64) := rfl
theorem T4 : T 4 = some (tdBool) := rfl
theorem T5 : T 5 = some (tdInt .u8) := rfl
theorem T6 : T 6 = some (tdInt .u8) := rfl
theorem T9 : T 9 = some (tdStr) := rfl
theorem T10 : T 10 = some (tdStr) := rfl
theorem T11 : T 11 = some (tdStr) := rfl
theorem T12 : T 12 = some (tdInt .u64) := rfl
theorem T21 : T 21 = some (tdInt .i32) := rfl
theorem T22 : T 22 = some (tdRow [.int .i64 0, .int .i64 0]) := rfl
theorem T23 : T 23 = some (tdOne) := rfl
theorem T24 : T 24 = some (tdOne) := rfl
theorem T25 : T 25 = some (tdRow [.int .i64 0, .int .i64 0]) := rfl
theorem T26 : T 26 = some (tdOne) := rfl
theorem T27 : T 27 = some (tdOne) := rfl
theorem T28 : T 28 = some (tdOne) := rfl
theorem T30 : T 30 = some (tdOne) := rfl
theorem T31 : T 31 = some (tdOne) := rfl
theorem T32 : T 32 = some (tdOne) := rfl
theorem T33 : T 33 = some (tdPair .i64 .i64) := rfl
theorem T34 : T 34 = some (tdPair .i64 .i64) := rfl
theorem T35 : T 35 = some (tdPair .i64 .i64) := rfl
theorem T36 : T 36 = some (tdOne) := rfl
theorem T37 : T 37 = some (tdOne) := rfl
theorem T38 : T 38 = some (tdOne) := rfl
theorem T39 : T 39 = some (tdOne) := rfl
theorem T40 : T 40 = some (tdOne) := rfl
theorem T41 : T 41 = some (tdRow [.int .u8 0]) := rfl
theorem T42 : T 42 = some (tdOne) := rfl
theorem T44 : T 44 = some (tdOne) := rfl
theorem T45 : T 45 = some (tdOne) := rfl
theorem T46 : T 46 = some (tdOne) := rfl
theorem T47 : T 47 = some (tdOne) := rfl
theorem T48 : T 48 = some (tdOne) := rfl
theorem T49 : T 49 = some (tdOne) := rfl
theorem T50 : T 50 = some (tdOne) := rfl
theorem T51 : T 51 = some (tdOne) := rfl
theorem T52 : T 52 = some (tdOne) := rfl
theorem T53 : T 53 = some (tdOne) := rfl
theorem T55 : T 55 = some (tdOne) := rfl
theorem T56 : T 56 = some (tdOne) := rfl
theorem T57 : T 57 = some (tdOne) := rfl
theorem T58 : T 58 = some (tdOne) := rfl
theorem T59 : T 59 = some (tdOne) := rfl
theorem T60 : T 60 = some (tdRow [.int .i64 0]) := rfl
theorem T61 : T 61 = some (tdOne) := rfl
theorem T63 : T 63 = some (tdOne) := rfl
theorem T64 : T 64 = some (tdOne) := rfl
theorem T66 : T 66 = some (tdOne) := rfl
theorem T67 : T 67 = some (tdOne) := rfl
theorem T68 : T 68 = some (tdOne) := rfl
theorem T69 : T 69 = some (tdOne) := rfl
theorem T70 : T 70 = some (tdInt .u64) := rfl
theorem T71 : T 71 = some (tdTri (.sl none 0 0) (.int .i64 0) (.int .u64 0)) := rfl
theorem T72 : T 72 = some (tdTri (.sl none 0 0) (.int .i64 0) (.int .u64 0)) := rfl
theorem T73 : T 73 = some (tdInt .u64) := rfl
theorem T74 : T 74 = some (tdOne) := rfl
theorem T75 : T 75 = some (tdOne) := rfl
theorem T76 : T 76 = some (tdOne) := rfl
theorem T77 : T 77 = some (tdArr .i64 2) := rfl
theorem T78 : T 78 = some (tdOne) := rfl
theorem T79 : T 79 = some (tdPair .i64 .u64) := rfl
theorem T80 : T 80 = some (tdPair .i64 .u64) := rfl
theorem T81 : T 81 = some (tdOne) := rfl
theorem T82 : T 82 = some (tdOne) := rfl
theorem T83 : T 83 = some (tdOne) := rfl
theorem T84 : T 84 = some (tdOne) := rfl
theorem T86 : T 86 = some (tdOne) := rfl
theorem T87 : T 87 = some (tdOne) := rfl
theorem T88 : T 88 = some (tdOne) := rfl
theorem T89 : T 89 = some (tdOne) := rfl
theorem T91 : T 91 = some (tdOne) := rfl
theorem T93 : T 93 = some (tdOne) := rfl
theorem T94 : T 94 = some (tdOne) := rfl
theorem T95 : T 95 = some (tdOne) := rfl
theorem T98 : T 98 = some (tdOne) := rfl
theorem T100 : T 100 = some (tdOne) := rfl
theorem T106 : T 106 = some (tdOne) := rfl
theorem T107 : T 107 = some (tdInt .u32) := rfl
theorem T108 : T 108 = some (tdInt .u8) := rfl
theorem T109 : T 109 = some (tdInt .u8) := rfl
theorem T110 : T 110 = some (tdOne) := rfl
theorem T112 : T 112 = some (tdInt .i32) := rfl
theorem T113 : T 113 = some (tdInt .i32) := rfl
theorem tabOf_ok {P : Program} : ∀ (l : List (Nat × TD)), (∀ x ∈ l, TdOk P x.1 x.2) → ∀ t d, tabOf l t = some d → TdOk P t d
  | [], _, t, d, h => by cases h
  | (t0, d0) :: r, hl, t, d, h => by
    simp only [tabOf] at h
    by_cases e : t = t0
    · rw [if_pos e] at h; obtain rfl := Option.some.inj h; subst e; exact hl _ (List.mem_cons_self ..)
    · rw [if_neg e] at h; exact tabOf_ok r (fun x hx => hl x (List.mem_cons_of_mem _ hx)) t d h
theorem td1_ok : TdOk Try.prog 1 (tdOne) := tdOne_ok Try.underlying1 rfl (z := some .nilFunc) (by kernel_rfl)
theorem td2_ok : TdOk Try.prog 2 (tdInt .i64) := tdInt_ok Try.underlying2 (by kernel_rfl)
theorem td3_ok : TdOk Try.prog 3 (tdInt .i64) := tdInt_ok Try.underlying3 (by kernel_rfl)
theorem td4_ok : TdOk Try.prog 4 (tdBool) := tdBool_ok Try.underlying4 (by kernel_rfl)
theorem td5_ok : TdOk Try.prog 5 (tdInt .u8) := tdInt_ok Try.underlying5 (by kernel_rfl)
theorem td6_ok : TdOk Try.prog 6 (tdInt .u8) := tdInt_ok Try.underlying6 (by kernel_rfl)
theorem td9_ok : TdOk Try.prog 9 (tdStr) := tdStr_ok Try.underlying9 (by kernel_rfl)
theorem td10_ok : TdOk Try.prog 10 (tdStr) := tdStr_ok Try.underlying10 (by kernel_rfl)
theorem td11_ok : TdOk Try.prog 11 (tdStr) := tdStr_ok Try.underlying11 (by kernel_rfl)
theorem td12_ok : TdOk Try.prog 12 (tdInt .u64) := tdInt_ok Try.underlying12 (by kernel_rfl)
theorem td21_ok : TdOk Try.prog 21 (tdInt .i32) := tdInt_ok Try.underlying21 (by kernel_rfl)
theorem td22_ok : TdOk Try.prog 22 (tdRow [.int .i64 0, .int .i64 0]) := tdRow_ok Try.underlying22 (by kernel_rfl) (e := 34) (n := 2) (b := 16) (v := .agg #[.int .i64 0, .int .i64 0]) (by kernel_rfl) rfl rfl (by decide) (by decide) (by decide) (fun h => by cases h)
theorem td23_ok : TdOk Try.prog 23 (tdOne) := tdOne_ok Try.underlying23 rfl (z := some .nilFunc) (by kernel_rfl)
theorem td24_ok : TdOk Try.prog 24 (tdOne) := tdOne_ok Try.underlying24 rfl (z := some .nilFunc) (by kernel_rfl)
theorem td25_ok : TdOk Try.prog 25 (tdRow [.int .i64 0, .int .i64 0]) := tdRow_ok Try.underlying25 (by kernel_rfl) (e := 35) (n := 2) (b := 16) (v := .agg #[.int .i64 0, .int .i64 0]) (by kernel_rfl) rfl rfl (by decide) (by decide) (by decide) (fun h => by cases h)
theorem td26_ok : TdOk Try.prog 26 (tdOne) := tdOne_ok Try.underlying26 rfl (z := some .nilFunc) (by kernel_rfl)
theorem td27_ok : TdOk Try.prog 27 (tdOne) := tdOne_ok Try.underlying27 rfl (z := some .nilFunc) (by kernel_rfl)
theorem td28_ok : TdOk Try.prog 28 (tdOne) := tdOne_ok Try.underlying28 rfl (z := some .nilFunc) (by kernel_rfl)
theorem td30_ok : TdOk Try.prog 30 (tdOne) := tdOne_ok Try.underlying30 rfl (z := some .nilFunc) (by kernel_rfl)
theorem td31_ok : TdOk Try.prog 31 (tdOne) := tdOne_ok Try.underlying31 rfl (z := some .nilFunc) (by kernel_rfl)
theorem td32_ok : TdOk Try.prog 32 (tdOne) := tdOne_ok Try.underlying32 rfl (z := some .nilFunc) (by kernel_rfl)
theorem td33_ok : TdOk Try.prog 33 (tdPair .i64 .i64) := tdPair_ok Try.underlying33 (by kernel_rfl) rfl rfl rfl rfl Try.underlying2 Try.underlying2 (z1 := some (.int .i64 0)) (z2 := some (.int .i64 0)) (by kernel_rfl) (by kernel_rfl) (by kernel_rfl) (by kernel_rfl)
theorem td34_ok : TdOk Try.prog 34 (tdPair .i64 .i64) := tdPair_ok Try.underlying34 (by kernel_rfl) rfl rfl rfl rfl Try.underlying2 Try.underlying2 (z1 := some (.int .i64 0)) (z2 := some (.int .i64 0)) (by kernel_rfl) (by kernel_rfl) (by kernel_rfl) (by kernel_rfl)
theorem td35_ok : TdOk Try.prog 35 (tdPair .i64 .i64) := tdPair_ok Try.underlying35 (by kernel_rfl) rfl rfl rfl rfl Try.underlying2 Try.underlying2 (z1 := some (.int .i64 0)) (z2 := some (.int .i64 0)) (by kernel_rfl) (by kernel_rfl) (by kernel_rfl) (by kernel_rfl)
theorem td36_ok : TdOk Try.prog 36 (tdOne) := tdOne_ok Try.underlying36 rfl (z := some .nilFunc) (by kernel_rfl)
theorem td37_ok : TdOk Try.prog 37 (tdOne) := tdOne_ok Try.underlying37 rfl (z := some .nilFunc) (by kernel_rfl)
theorem td38_ok : TdOk Try.prog 38 (tdOne) := tdOne_ok Try.underlying38 rfl (z := some .nilFunc) (by kernel_rfl)
theorem td39_ok : TdOk Try.prog 39 (tdOne) := tdOne_ok Try.underlying39 rfl (z := some .nilFunc) (by kernel_rfl)
theorem td40_ok : TdOk Try.prog 40 (tdOne) := tdOne_ok Try.underlying40 rfl (z := some .nilFunc) (by kernel_rfl)
theorem td41_ok : TdOk Try.prog 41 (tdRow [.int .u8 0]) := tdRow_ok Try.underlying41 (by kernel_rfl) (e := 5) (n := 1) (b := 1) (v := .int .u8 0) (by kernel_rfl) rfl rfl (by decide) (by decide) (by decide) (fun _ => Try.underlying5)
theorem td42_ok : TdOk Try.prog 42 (tdOne) := tdOne_ok Try.underlying42 rfl (z := some .nilFunc) (by kernel_rfl)
theorem td44_ok : TdOk Try.prog 44 (tdOne) := tdOne_ok Try.underlying44 rfl (z := some .nilFunc) (by kernel_rfl)
theorem td45_ok : TdOk Try.prog 45 (tdOne) := tdOne_ok Try.underlying45 rfl (z := some .nilFunc) (by kernel_rfl)
theorem td46_ok : TdOk Try.prog 46 (tdOne) := tdOne_ok Try.underlying46 rfl (z := some .nilFunc) (by kernel_rfl)
theorem td47_ok : TdOk Try.prog 47 (tdOne) := tdOne_ok Try.underlying47 rfl (z := some .nilFunc) (by kernel_rfl)
theorem td48_ok : TdOk Try.prog 48 (tdOne) := tdOne_ok Try.underlying48 rfl (z := some .nilFunc) (by kernel_rfl)
theorem td49_ok : TdOk Try.prog 49 (tdOne) := tdOne_ok Try.underlying49 rfl (z := some .nilFunc) (by kernel_rfl)
theorem td50_ok : TdOk Try.prog 50 (tdOne) := tdOne_ok Try.underlying50 rfl (z := some .nilFunc) (by kernel_rfl)
theorem td51_ok : TdOk Try.prog 51 (tdOne) := tdOne_ok Try.underlying51 rfl (z := some .nilFunc) (by kernel_rfl)
theorem td52_ok : TdOk Try.prog 52 (tdOne) := tdOne_ok Try.underlying52 rfl (z := some .nilFunc) (by kernel_rfl)
theorem td53_ok : TdOk Try.prog 53 (tdOne) := tdOne_ok Try.underlying53 rfl (z := some .nilFunc) (by kernel_rfl)
theorem td55_ok : TdOk Try.prog 55 (tdOne) := tdOne_ok Try.underlying55 rfl (z := some .nilFunc) (by kernel_rfl)
theorem td56_ok : TdOk Try.prog 56 (tdOne) := tdOne_ok Try.underlying56 rfl (z := some .nilFunc) (by kernel_rfl)
theorem td57_ok : TdOk Try.prog 57 (tdOne) := tdOne_ok Try.underlying57 rfl (z := some .nilFunc) (by kernel_rfl)
theorem td58_ok : TdOk Try.prog 58 (tdOne) := tdOne_ok Try.underlying58 rfl (z := some .nilFunc) (by kernel_rfl)
theorem td59_ok : TdOk Try.prog 59 (tdOne) := tdOne_ok Try.underlying59 rfl (z := some .nilFunc) (by kernel_rfl)
theorem td60_ok : TdOk Try.prog 60 (tdRow [.int .i64 0]) := tdRow_ok Try.underlying60 (by kernel_rfl) (e := 2) (n := 1) (b := 8) (v := .int .i64 0) (by kernel_rfl) rfl rfl (by decide) (by decide) (by decide) (fun h => by cases h)
theorem td61_ok : TdOk Try.prog 61 (tdOne) := tdOne_ok Try.underlying61 rfl (z := some .nilFunc) (by kernel_rfl)
theorem td63_ok : TdOk Try.prog 63 (tdOne) := tdOne_ok Try.underlying63 rfl (z := some .nilFunc) (by kernel_rfl)
theorem td64_ok : TdOk Try.prog 64 (tdOne) := tdOne_ok Try.underlying64 rfl (z := some .nilFunc) (by kernel_rfl)
theorem td66_ok : TdOk Try.prog 66 (tdOne) := tdOne_ok Try.underlying66 rfl (z := some .nilFunc) (by kernel_rfl)
theorem td67_ok : TdOk Try.prog 67 (tdOne) := tdOne_ok Try.underlying67 rfl (z := some .nilFunc) (by kernel_rfl)
theorem td68_ok : TdOk Try.prog 68 (tdOne) := tdOne_ok Try.underlying68 rfl (z := some .nilFunc) (by kernel_rfl)
theorem td69_ok : TdOk Try.prog 69 (tdOne) := tdOne_ok Try.underlying69 rfl (z := some .nilFunc) (by kernel_rfl)
theorem td70_ok : TdOk Try.prog 70 (tdInt .u64) := tdInt_ok Try.underlying70 (by kernel_rfl)
theorem td71_ok : TdOk Try.prog 71 (tdTri (.sl none 0 0) (.int .i64 0) (.int .u64 0)) := tdTri_ok Try.underlying71 (by kernel_rfl) rfl rfl rfl Try.underlying41 Try.underlying3 Try.underlying70 rfl rfl rfl (y1 := some (.slice none 0 0)) (y2 := some (.int .i64 0)) (y3 := some (.int .u64 0)) (by kernel_rfl) (by kernel_rfl) (by kernel_rfl)
theorem td72_ok : TdOk Try.prog 72 (tdTri (.sl none 0 0) (.int .i64 0) (.int .u64 0)) := tdTri_ok Try.underlying72 (by kernel_rfl) rfl rfl rfl Try.underlying41 Try.underlying3 Try.underlying70 rfl rfl rfl (y1 := some (.slice none 0 0)) (y2 := some (.int .i64 0)) (y3 := some (.int .u64 0)) (by kernel_rfl) (by kernel_rfl) (by kernel_rfl)
theorem td73_ok : TdOk Try.prog 73 (tdInt .u64) := tdInt_ok Try.underlying73 (by kernel_rfl)
theorem td74_ok : TdOk Try.prog 74 (tdOne) := tdOne_ok Try.underlying74 rfl (z := some .nilFunc) (by kernel_rfl)
theorem td75_ok : TdOk Try.prog 75 (tdOne) := tdOne_ok Try.underlying75 rfl (z := some .nilFunc) (by kernel_rfl)
theorem td76_ok : TdOk Try.prog 76 (tdOne) := tdOne_ok Try.underlying76 rfl (z := some .nilFunc) (by kernel_rfl)
theorem td77_ok : TdOk Try.prog 77 (tdArr .i64 2) := tdArr_ok Try.underlying77 (by kernel_rfl) Try.underlying2 (by kernel_rfl)
theorem td78_ok : TdOk Try.prog 78 (tdOne) := tdOne_ok Try.underlying78 rfl (z := some .nilFunc) (by kernel_rfl)
theorem td79_ok : TdOk Try.prog 79 (tdPair .i64 .u64) := tdPair_ok Try.underlying79 (by kernel_rfl) rfl rfl rfl rfl Try.underlying2 Try.underlying70 (z1 := some (.int .i64 0)) (z2 := some (.int .u64 0)) (by kernel_rfl) (by kernel_rfl) (by kernel_rfl) (by kernel_rfl)
theorem td80_ok : TdOk Try.prog 80 (tdPair .i64 .u64) := tdPair_ok Try.underlying80 (by kernel_rfl) rfl rfl rfl rfl Try.underlying2 Try.underlying70 (z1 := some (.int .i64 0)) (z2 := some (.int .u64 0)) (by kernel_rfl) (by kernel_rfl) (by kernel_rfl) (by kernel_rfl)
theorem td81_ok : TdOk Try.prog 81 (tdOne) := tdOne_ok Try.underlying81 rfl (z := some .nilFunc) (by kernel_rfl)
theorem td82_ok : TdOk Try.prog 82 (tdOne) := tdOne_ok Try.underlying82 rfl (z := some .nilFunc) (by kernel_rfl)
theorem td83_ok : TdOk Try.prog 83 (tdOne) := tdOne_ok Try.underlying83 rfl (z := some .nilFunc) (by kernel_rfl)
theorem td84_ok : TdOk Try.prog 84 (tdOne) := tdOne_ok Try.underlying84 rfl (z := some .nilFunc) (by kernel_rfl)
theorem td86_ok : TdOk Try.prog 86 (tdOne) := tdOne_ok Try.underlying86 rfl (z := some .nilFunc) (by kernel_rfl)
theorem td87_ok : TdOk Try.prog 87 (tdOne) := tdOne_ok Try.underlying87 rfl (z := some .nilFunc) (by kernel_rfl)
theorem td88_ok : TdOk Try.prog 88 (tdOne) := tdOne_ok Try.underlying88 rfl (z := some .nilFunc) (by kernel_rfl)
theorem td89_ok : TdOk Try.prog 89 (tdOne) := tdOne_ok Try.underlying89 rfl (z := some .nilFunc) (by kernel_rfl)
theorem td91_ok : TdOk Try.prog 91 (tdOne) := tdOne_ok Try.underlying91 rfl (z := some .nilFunc) (by kernel_rfl)
theorem td93_ok : TdOk Try.prog 93 (tdOne) := tdOne_ok Try.underlying93 rfl (z := some .nilFunc) (by kernel_rfl)
theorem td94_ok : TdOk Try.prog 94 (tdOne) := tdOne_ok Try.underlying94 rfl (z := some .nilFunc) (by kernel_rfl)
theorem td95_ok : TdOk Try.prog 95 (tdOne) := tdOne_ok Try.underlying95 rfl (z := some .nilFunc) (by kernel_rfl)
theorem td98_ok : TdOk Try.prog 98 (tdOne) := tdOne_ok Try.underlying98 rfl (z := some .nilFunc) (by kernel_rfl)
theorem td100_ok : TdOk Try.prog 100 (tdOne) := tdOne_ok Try.underlying100 rfl (z := some .nilFunc) (by kernel_rfl)
theorem td106_ok : TdOk Try.prog 106 (tdOne) := tdOne_ok Try.underlying106 rfl (z := some .nilFunc) (by kernel_rfl)
theorem td107_ok : TdOk Try.prog 107 (tdInt .u32) := tdInt_ok Try.underlying107 (by kernel_rfl)
theorem td108_ok : TdOk Try.prog 108 (tdInt .u8) := tdInt_ok Try.underlying108 (by kernel_rfl)
theorem td109_ok : TdOk Try.prog 109 (tdInt .u8) := tdInt_ok Try.underlying109 (by kernel_rfl)
theorem td110_ok : TdOk Try.prog 110 (tdOne) := tdOne_ok Try.underlying110 rfl (z := some .nilFunc) (by kernel_rfl)
theorem td112_ok : TdOk Try.prog 112 (tdInt .i32) := tdInt_ok Try.underlying112 (by kernel_rfl)
theorem td113_ok : TdOk Try.prog 113 (tdInt .i32) := tdInt_ok Try.underlying113 (by kernel_rfl)
theorem T_ok : ∀ t d, T t = some d → TdOk Try.prog t d := by
  refine tabOf_ok tabList ?_
  unfold tabList
  refine List.forall_mem_cons.2 ⟨td1_ok, ?_⟩
  refine List.forall_mem_cons.2 ⟨td2_ok, ?_⟩
  refine List.forall_mem_cons.2 ⟨td3_ok, ?_⟩
  refine List.forall_mem_cons.2 ⟨td4_ok, ?_⟩
  refine List.forall_mem_cons.2 ⟨td5_ok, ?_⟩
  refine List.forall_mem_cons.2 ⟨td6_ok, ?_⟩
  refine List.forall_mem_cons.2 ⟨td9_ok, ?_⟩
  refine List.forall_mem_cons.2 ⟨td10_ok, ?_⟩
  refine List.forall_mem_cons.2 ⟨td11_ok, ?_⟩
  refine List.forall_mem_cons.2 ⟨td12_ok, ?_⟩
  refine List.forall_mem_cons.2 ⟨td21_ok, ?_⟩
  refine List.forall_mem_cons.2 ⟨td22_ok, ?_⟩
  refine List.forall_mem_cons.2 ⟨td23_ok, ?_⟩
  refine List.forall_mem_cons.2 ⟨td24_ok, ?_⟩
  refine List.forall_mem_cons.2 ⟨td25_ok, ?_⟩
  refine List.forall_mem_cons.2 ⟨td26_ok, ?_⟩
  refine List.forall_mem_cons.2 ⟨td27_ok, ?_⟩
  refine List.forall_mem_cons.2 ⟨td28_ok, ?_⟩
  refine List.forall_mem_cons.2 ⟨td30_ok, ?_⟩
  refine List.forall_mem_cons.2 ⟨td31_ok, ?_⟩
  refine List.forall_mem_cons.2 ⟨td32_ok, ?_⟩
  refine List.forall_mem_cons.2 ⟨td33_ok, ?_⟩
  refine List.forall_mem_cons.2 ⟨td34_ok, ?_⟩
  refine List.forall_mem_cons.2 ⟨td35_ok, ?_⟩
  refine List.forall_mem_cons.2 ⟨td36_ok, ?_⟩
  refine List.forall_mem_cons.2 ⟨td37_ok, ?_⟩
  refine List.forall_mem_cons.2 ⟨td38_ok, ?_⟩
  refine List.forall_mem_cons.2 ⟨td39_ok, ?_⟩
  refine List.forall_mem_cons.2 ⟨td40_ok, ?_⟩
  refine List.forall_mem_cons.2 ⟨td41_ok, ?_⟩
  refine List.forall_mem_cons.2 ⟨td42_ok, ?_⟩
  refine List.forall_mem_cons.2 ⟨td44_ok, ?_⟩
  refine List.forall_mem_cons.2 ⟨td45_ok, ?_⟩
  refine List.forall_mem_cons.2 ⟨td46_ok, ?_⟩
  refine List.forall_mem_cons.2 ⟨td47_ok, ?_⟩
  refine List.forall_mem_cons.2 ⟨td48_ok, ?_⟩
  refine List.forall_mem_cons.2 ⟨td49_ok, ?_⟩
  refine List.forall_mem_cons.2 ⟨td50_ok, ?_⟩
  refine List.forall_mem_cons.2 ⟨td51_ok, ?_⟩
  refine List.forall_mem_cons.2 ⟨td52_ok, ?_⟩
  refine List.forall_mem_cons.2 ⟨td53_ok, ?_⟩
  refine List.forall_mem_cons.2 ⟨td55_ok, ?_⟩
  refine List.forall_mem_cons.2 ⟨td56_ok, ?_⟩
  refine List.forall_mem_cons.2 ⟨td57_ok, ?_⟩
  refine List.forall_mem_cons.2 ⟨td58_ok, ?_⟩
  refine List.forall_mem_cons.2 ⟨td59_ok, ?_⟩
  refine List.forall_mem_cons.2 ⟨td60_ok, ?_⟩
  refine List.forall_mem_cons.2 ⟨td61_ok, ?_⟩
  refine List.forall_mem_cons.2 ⟨td63_ok, ?_⟩
  refine List.forall_mem_cons.2 ⟨td64_ok, ?_⟩
  refine List.forall_mem_cons.2 ⟨td66_ok, ?_⟩
  refine List.forall_mem_cons.2 ⟨td67_ok, ?_⟩
  refine List.forall_mem_cons.2 ⟨td68_ok, ?_⟩
  refine List.forall_mem_cons.2 ⟨td69_ok, ?_⟩
  refine List.forall_mem_cons.2 ⟨td70_ok, ?_⟩
  refine List.forall_mem_cons.2 ⟨td71_ok, ?_⟩
  refine List.forall_mem_cons.2 ⟨td72_ok, ?_⟩
  refine List.forall_mem_cons.2 ⟨td73_ok, ?_⟩
  refine List.forall_mem_cons.2 ⟨td74_ok, ?_⟩
  refine List.forall_mem_cons.2 ⟨td75_ok, ?_⟩
  refine List.forall_mem_cons.2 ⟨td76_ok, ?_⟩
  refine List.forall_mem_cons.2 ⟨td77_ok, ?_⟩
  refine List.forall_mem_cons.2 ⟨td78_ok, ?_⟩
  refine List.forall_mem_cons.2 ⟨td79_ok, ?_⟩
  refine List.forall_mem_cons.2 ⟨td80_ok, ?_⟩
  refine List.forall_mem_cons.2 ⟨td81_ok, ?_⟩
  refine List.forall_mem_cons.2 ⟨td82_ok, ?_⟩
  refine List.forall_mem_cons.2 ⟨td83_ok, ?_⟩
  refine List.forall_mem_cons.2 ⟨td84_ok, ?_⟩
  refine List.forall_mem_cons.2 ⟨td86_ok, ?_⟩
  refine List.forall_mem_cons.2 ⟨td87_ok, ?_⟩
  refine List.forall_mem_cons.2 ⟨td88_ok, ?_⟩
  refine List.forall_mem_cons.2 ⟨td89_ok, ?_⟩
  refine List.forall_mem_cons.2 ⟨td91_ok, ?_⟩
  refine List.forall_mem_cons.2 ⟨td93_ok, ?_⟩
  refine List.forall_mem_cons.2 ⟨td94_ok, ?_⟩
  refine List.forall_mem_cons.2 ⟨td95_ok, ?_⟩
  refine List.forall_mem_cons.2 ⟨td98_ok, ?_⟩
  refine List.forall_mem_cons.2 ⟨td100_ok, ?_⟩
  refine List.forall_mem_cons.2 ⟨td106_ok, ?_⟩
  refine List.forall_mem_cons.2 ⟨td107_ok, ?_⟩
  refine List.forall_mem_cons.2 ⟨td108_ok, ?_⟩
  refine List.forall_mem_cons.2 ⟨td109_ok, ?_⟩
  refine List.forall_mem_cons.2 ⟨td110_ok, ?_⟩
  refine List.forall_mem_cons.2 ⟨td112_ok, ?_⟩
  refine List.forall_mem_cons.2 ⟨td113_ok, ?_⟩
  simp
theorem mixed : Try.prog.follows .mixedOrders = true := by kernel_rfl
end Go.Proofs.Ytcnapkdccjibpaa.Eng
