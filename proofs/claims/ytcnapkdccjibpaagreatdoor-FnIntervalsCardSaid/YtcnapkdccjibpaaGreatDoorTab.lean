/- What is told of the types of this program. -/
import Derived.Test.YtcnapkdccjibpaaGreatDoorEng11
import Derived.Test.YtcnapkdccjibpaaGreatDoorProg
import Derived.KernelRfl
namespace Go.Proofs.YtcnapkdccjibpaaGreatDoor.Eng
open Go Go.RowKit
set_option linter.unusedVariables false

def tabList : List (Nat × TD) := [(1, tdOne), (2, tdInt .i64), (3, tdInt .i64), (4, tdBool), (5, tdInt .u8), (6, tdInt .u8), (9, tdStr), (10, tdStr), (11, tdStr), (12, tdInt .u64), (21, tdInt .i32), (22, tdPair .i64 .i64), (23, tdPair .i64 .i64), (25, tdOne), (26, tdOne), (27, tdOne), (28, tdRow [.int .u8 0]), (29, tdOne), (30, tdRow [.int .i64 0, .int .i64 0]), (32, tdOne), (33, tdOne), (34, tdOne), (35, tdOne), (36, tdOne), (37, tdOne), (38, tdOne), (39, tdOne), (40, tdOne), (41, tdOne), (42, tdOne), (43, tdRow [.str ByteArray.empty]), (44, tdOne), (46, tdOne), (48, tdOne), (50, tdOne), (52, tdOne), (53, tdOne), (54, tdOne), (55, tdOne), (56, tdOne), (57, tdOne), (58, tdOne), (59, tdOne), (61, tdOne), (62, tdOne), (63, tdOne), (64, tdInt .u64), (65, tdOne), (66, tdInt .u64), (67, tdTri (.sl none 0 0) (.int .i64 0) (.int .u64 0)), (68, tdTri (.sl none 0 0) (.int .i64 0) (.int .u64 0)), (69, tdOne), (70, tdOne), (71, tdOne), (72, tdArr .i64 2), (73, tdOne), (74, tdOne), (75, tdPair .i64 .u64), (76, tdPair .i64 .u64), (77, tdOne), (78, tdOne), (79, tdOne), (80, tdOne), (81, tdOne), (82, tdOne), (83, tdRow [.int .i64 0]), (84, tdOne), (85, tdOne), (87, tdOne), (89, tdOne), (91, tdOne), (92, tdOne), (93, tdOne), (95, tdOne), (96, tdOne), (97, tdOne), (98, tdOne), (102, tdOne), (103, tdOne), (105, tdOne), (107, tdOne), (108, tdOne), (109, tdOne), (110, tdOne), (112, tdOne), (116, tdOne), (120, tdOne), (121, tdOne), (122, tdOne), (123, tdOne), (124, tdOne), (125, tdOne), (126, tdInt .u32), (128, tdOne), (130, tdOne), (131, tdOne), (132, tdOne), (134, tdOne), (135, tdOne), (136, tdOne), (137, tdArr .u8 24), (138, tdOne), (140, tdOne), (142, tdOne), (143, tdOne), (145, tdPair .u8 .u8), (146, tdPair .u8 .u8), (148, tdOne), (149, tdOne), (150, tdArr .u64 20), (152, tdOne), (153, tdOne), (154, tdOne), (155, tdArr .u8 32), (156, tdArr .u8 64), (163, tdInt .u8), (164, tdInt .u8), (165, tdOne), (166, tdInt .i32), (167, tdInt .i32)]
def tabOf : List (Nat × TD) → Nat → Option TD
  | [], _ => none
  | (t, d) :: r, t' => if t' = t then some d else tabOf r t'
def T : Tab := tabOf tabList
theorem T1 : T 1 = some (tdOne) := rfl
theorem T2 : T 2 = some (tdInt .i64) := rfl
theorem T3 : T 3 = some (tdInt .i64) := rfl
theorem T4 : T 4 = some (tdBool) := rfl
theorem T5 : T 5 = some (tdInt .u8) := rfl
theorem T6 : T 6 = some (tdInt .u8) := rfl
theorem T9 : T 9 = some (tdStr) := rfl
theorem T10 : T 10 = some (tdStr) := rfl
theorem T11 : T 11 = some (tdStr) := rfl
theorem T12 : T 12 = some (tdInt .u64) := rfl
theorem T21 : T 21 = some (tdInt .i32) := rfl
theorem T22 : T 22 = some (tdPair .i64 .i64) := rfl
theorem T23 : T 23 = some (tdPair .i64 .i64) := rfl
theorem T25 : T 25 = some (tdOne) := rfl
theorem T26 : T 26 = some (tdOne) := rfl
theorem T27 : T 27 = some (tdOne) := rfl
theorem T28 : T 28 = some (tdRow [.int .u8 0]) := rfl
theorem T29 : T 29 = some (tdOne) := rfl
theorem T30 : T 30 = some (tdRow [.int .i64 0, .int .i64 0]) := rfl
theorem T32 : T 32 = some (tdOne) := rfl
theorem T33 : T 33 = some (tdOne) := rfl
theorem T34 : T 34 = some (tdOne) := rfl
theorem T35 : T 35 = some (tdOne) := rfl
theorem T36 : T 36 = some (tdOne) := rfl
theorem T37 : T 37 = some (tdOne) := rfl
theorem T38 : T 38 = some (tdOne) := rfl
theorem T39 : T 39 = some (tdOne) := rfl
theorem T40 : T 40 = some (tdOne) := rfl
theorem T41 : T 41 = some (tdOne) := rfl
theorem T42 : T 42 = some (tdOne) := rfl
theorem T43 : T 43 = some (tdRow [.str ByteArray.empty]) := rfl
theorem T44 : T 44 = some (tdOne) := rfl
theorem T46 : T 46 = some (tdOne) := rfl
theorem T48 : T 48 = some (tdOne) := rfl
theorem T50 : T 50 = some (tdOne) := rfl
theorem T52 : T 52 = some (tdOne) := rfl
theorem T53 : T 53 = some (tdOne) := rfl
theorem T54 : T 54 = some (tdOne) := rfl
theorem T55 : T 55 = some (tdOne) := rfl
theorem T56 : T 56 = some (tdOne) := rfl
theorem T57 : T 57 = some (tdOne) := rfl
theorem T58 : T 58 = some (tdOne) := rfl
theorem T59 : T 59 = some (tdOne) := rfl
theorem T61 : T 61 = some (tdOne) := rfl
theorem T62 : T 62 = some (tdOne) := rfl
theorem T63 : T 63 = some (tdOne) := rfl
theorem T64 : T 64 = some (tdInt .u64) := rfl
theorem T65 : T 65 = some (tdOne) := rfl
theorem T66 : T 66 = some (tdInt .u64) := rfl
theorem T67 : T 67 = some (tdTri (.sl none 0 0) (.int .i64 0) (.int .u64 0)) := rfl
theorem T68 : T 68 = some (tdTri (.sl none 0 0) (.int .i64 0) (.int .u64 0)) := rfl
theorem T69 : T 69 = some (tdOne) := rfl
theorem T70 : T 70 = some (tdOne) := rfl
theorem T71 : T 71 = some (tdOne) := rfl
theorem T72 : T 72 = some (tdArr .i64 2) := rfl
theorem T73 : T 73 = some (tdOne) := rfl
theorem T74 : T 74 = some (tdOne) := rfl
theorem T75 : T 75 = some (tdPair .i64 .u64) := rfl
theorem T76 : T 76 = some (tdPair .i64 .u64) := rfl
theorem T77 : T 77 = some (tdOne) := rfl
theorem T78 : T 78 = some (tdOne) := rfl
theorem T79 : T 79 = some (tdOne) := rfl
theorem T80 : T 80 = some (tdOne) := rfl
theorem T81 : T 81 = some (tdOne) := rfl
theorem T82 : T 82 = some (tdOne) := rfl
theorem T83 : T 83 = some (tdRow [.int .i64 0]) := rfl
theorem T84 : T 84 = some (tdOne) := rfl
theorem T85 : T 85 = some (tdOne) := rfl
theorem T87 : T 87 = some (tdOne) := rfl
theorem T89 : T 89 = some (tdOne) := rfl
theorem T91 : T 91 = some (tdOne) := rfl
theorem T92 : T 92 = some (tdOne) := rfl
theorem T93 : T 93 = some (tdOne) := rfl
theorem T95 : T 95 = some (tdOne) := rfl
theorem T96 : T 96 = some (tdOne) := rfl
theorem T97 : T 97 = some (tdOne) := rfl
theorem T98 : T 98 = some (tdOne) := rfl
theorem T102 : T 102 = some (tdOne) := rfl
theorem T103 : T 103 = some (tdOne) := rfl
theorem T105 : T 105 = some (tdOne) := rfl
theorem T107 : T 107 = some (tdOne) := rfl
theorem T108 : T 108 = some (tdOne) := rfl
theorem T109 : T 109 = some (tdOne) := rfl
theorem T110 : T 110 = some (tdOne) := rfl
theorem T112 : T 112 = some (tdOne) := rfl
theorem T116 : T 116 = some (tdOne) := rfl
theorem T120 : T 120 = some (tdOne) := rfl
theorem T121 : T 121 = some (tdOne) := rfl
theorem T122 : T 122 = some (tdOne) := rfl
theorem T123 : T 123 = some (tdOne) := rfl
theorem T124 : T 124 = some (tdOne) := rfl
theorem T125 : T 125 = some (tdOne) := rfl
theorem T126 : T 126 = some (tdInt .u32) := rfl
theorem T128 : T 128 = some (tdOne) := rfl
theorem T130 : T 130 = some (tdOne) := rfl
theorem T131 : T 131 = some (tdOne) := rfl
theorem T132 : T 132 = some (tdOne) := rfl
theorem T134 : T 134 = some (tdOne) := rfl
theorem T135 : T 135 = some (tdOne) := rfl
theorem T136 : T 136 = some (tdOne) := rfl
theorem T137 : T 137 = some (tdArr .u8 24) := rfl
theorem T138 : T 138 = some (tdOne) := rfl
theorem T140 : T 140 = some (tdOne) := rfl
theorem T142 : T 142 = some (tdOne) := rfl
theorem T143 : T 143 = some (tdOne) := rfl
theorem T145 : T 145 = some (tdPair .u8 .u8) := rfl
theorem T146 : T 146 = some (tdPair .u8 .u8) := rfl
theorem T148 : T 148 = some (tdOne) := rfl
theorem T149 : T 149 = some (tdOne) := rfl
theorem T150 : T 150 = some (tdArr .u64 20) := rfl
theorem T152 : T 152 = some (tdOne) := rfl
theorem T153 : T 153 = some (tdOne) := rfl
theorem T154 : T 154 = some (tdOne) := rfl
theorem T155 : T 155 = some (tdArr .u8 32) := rfl
theorem T156 : T 156 = some (tdArr .u8 64) := rfl
theorem T163 : T 163 = some (tdInt .u8) := rfl
theorem T164 : T 164 = some (tdInt .u8) := rfl
theorem T165 : T 165 = some (tdOne) := rfl
theorem T166 : T 166 = some (tdInt .i32) := rfl
theorem T167 : T 167 = some (tdInt .i32) := rfl
theorem tabOf_ok {P : Program} : ∀ (l : List (Nat × TD)), (∀ x ∈ l, TdOk P x.1 x.2) → ∀ t d, tabOf l t = some d → TdOk P t d
  | [], _, t, d, h => by cases h
  | (t0, d0) :: r, hl, t, d, h => by
    simp only [tabOf] at h
    by_cases e : t = t0
    · rw [if_pos e] at h; obtain rfl := Option.some.inj h; subst e; exact hl _ (List.mem_cons_self ..)
    · rw [if_neg e] at h; exact tabOf_ok r (fun x hx => hl x (List.mem_cons_of_mem _ hx)) t d h
theorem td1_ok : TdOk Tryz.prog 1 (tdOne) := tdOne_ok Tryz.underlying1 rfl (z := some .nilFunc) (by kernel_rfl)
theorem td2_ok : TdOk Tryz.prog 2 (tdInt .i64) := tdInt_ok Tryz.underlying2 (by kernel_rfl)
theorem td3_ok : TdOk Tryz.prog 3 (tdInt .i64) := tdInt_ok Tryz.underlying3 (by kernel_rfl)
theorem td4_ok : TdOk Tryz.prog 4 (tdBool) := tdBool_ok Tryz.underlying4 (by kernel_rfl)
theorem td5_ok : TdOk Tryz.prog 5 (tdInt .u8) := tdInt_ok Tryz.underlying5 (by kernel_rfl)
theorem td6_ok : TdOk Tryz.prog 6 (tdInt .u8) := tdInt_ok Tryz.underlying6 (by kernel_rfl)
theorem td9_ok : TdOk Tryz.prog 9 (tdStr) := tdStr_ok Tryz.underlying9 (by kernel_rfl)
theorem td10_ok : TdOk Tryz.prog 10 (tdStr) := tdStr_ok Tryz.underlying10 (by kernel_rfl)
theorem td11_ok : TdOk Tryz.prog 11 (tdStr) := tdStr_ok Tryz.underlying11 (by kernel_rfl)
theorem td12_ok : TdOk Tryz.prog 12 (tdInt .u64) := tdInt_ok Tryz.underlying12 (by kernel_rfl)
theorem td21_ok : TdOk Tryz.prog 21 (tdInt .i32) := tdInt_ok Tryz.underlying21 (by kernel_rfl)
theorem td22_ok : TdOk Tryz.prog 22 (tdPair .i64 .i64) := tdPair_ok Tryz.underlying22 (by kernel_rfl) rfl rfl rfl rfl Tryz.underlying2 Tryz.underlying2 (z1 := some (.int .i64 0)) (z2 := some (.int .i64 0)) (by kernel_rfl) (by kernel_rfl) (by kernel_rfl) (by kernel_rfl)
theorem td23_ok : TdOk Tryz.prog 23 (tdPair .i64 .i64) := tdPair_ok Tryz.underlying23 (by kernel_rfl) rfl rfl rfl rfl Tryz.underlying2 Tryz.underlying2 (z1 := some (.int .i64 0)) (z2 := some (.int .i64 0)) (by kernel_rfl) (by kernel_rfl) (by kernel_rfl) (by kernel_rfl)
theorem td25_ok : TdOk Tryz.prog 25 (tdOne) := tdOne_ok Tryz.underlying25 rfl (z := some .nilFunc) (by kernel_rfl)
theorem td26_ok : TdOk Tryz.prog 26 (tdOne) := tdOne_ok Tryz.underlying26 rfl (z := some .nilFunc) (by kernel_rfl)
theorem td27_ok : TdOk Tryz.prog 27 (tdOne) := tdOne_ok Tryz.underlying27 rfl (z := some .nilFunc) (by kernel_rfl)
theorem td28_ok : TdOk Tryz.prog 28 (tdRow [.int .u8 0]) := tdRow_ok Tryz.underlying28 (by kernel_rfl) (e := 5) (n := 1) (b := 1) (v := .int .u8 0) (by kernel_rfl) rfl rfl (by decide) (by decide) (by decide) (fun _ => Tryz.underlying5)
theorem td29_ok : TdOk Tryz.prog 29 (tdOne) := tdOne_ok Tryz.underlying29 rfl (z := some .nilFunc) (by kernel_rfl)
theorem td30_ok : TdOk Tryz.prog 30 (tdRow [.int .i64 0, .int .i64 0]) := tdRow_ok Tryz.underlying30 (by kernel_rfl) (e := 23) (n := 2) (b := 16) (v := .agg #[.int .i64 0, .int .i64 0]) (by kernel_rfl) rfl rfl (by decide) (by decide) (by decide) (fun h => by cases h)
theorem td32_ok : TdOk Tryz.prog 32 (tdOne) := tdOne_ok Tryz.underlying32 rfl (z := some .nilFunc) (by kernel_rfl)
theorem td33_ok : TdOk Tryz.prog 33 (tdOne) := tdOne_ok Tryz.underlying33 rfl (z := some .nilFunc) (by kernel_rfl)
theorem td34_ok : TdOk Tryz.prog 34 (tdOne) := tdOne_ok Tryz.underlying34 rfl (z := some .nilFunc) (by kernel_rfl)
theorem td35_ok : TdOk Tryz.prog 35 (tdOne) := tdOne_ok Tryz.underlying35 rfl (z := some .nilFunc) (by kernel_rfl)
theorem td36_ok : TdOk Tryz.prog 36 (tdOne) := tdOne_ok Tryz.underlying36 rfl (z := some .nilFunc) (by kernel_rfl)
theorem td37_ok : TdOk Tryz.prog 37 (tdOne) := tdOne_ok Tryz.underlying37 rfl (z := some .nilFunc) (by kernel_rfl)
theorem td38_ok : TdOk Tryz.prog 38 (tdOne) := tdOne_ok Tryz.underlying38 rfl (z := some .nilFunc) (by kernel_rfl)
theorem td39_ok : TdOk Tryz.prog 39 (tdOne) := tdOne_ok Tryz.underlying39 rfl (z := some .nilFunc) (by kernel_rfl)
theorem td40_ok : TdOk Tryz.prog 40 (tdOne) := tdOne_ok Tryz.underlying40 rfl (z := some .nilFunc) (by kernel_rfl)
theorem td41_ok : TdOk Tryz.prog 41 (tdOne) := tdOne_ok Tryz.underlying41 rfl (z := some .nilFunc) (by kernel_rfl)
theorem td42_ok : TdOk Tryz.prog 42 (tdOne) := tdOne_ok Tryz.underlying42 rfl (z := some .nilFunc) (by kernel_rfl)
theorem td43_ok : TdOk Tryz.prog 43 (tdRow [.str ByteArray.empty]) := tdRow_ok Tryz.underlying43 (by kernel_rfl) (e := 9) (n := 1) (b := 16) (v := .string ByteArray.empty) (by kernel_rfl) rfl rfl (by decide) (by decide) (by decide) (fun h => by cases h)
theorem td44_ok : TdOk Tryz.prog 44 (tdOne) := tdOne_ok Tryz.underlying44 rfl (z := some .nilFunc) (by kernel_rfl)
theorem td46_ok : TdOk Tryz.prog 46 (tdOne) := tdOne_ok Tryz.underlying46 rfl (z := some .nilFunc) (by kernel_rfl)
theorem td48_ok : TdOk Tryz.prog 48 (tdOne) := tdOne_ok Tryz.underlying48 rfl (z := some .nilFunc) (by kernel_rfl)
theorem td50_ok : TdOk Tryz.prog 50 (tdOne) := tdOne_ok Tryz.underlying50 rfl (z := some .nilFunc) (by kernel_rfl)
theorem td52_ok : TdOk Tryz.prog 52 (tdOne) := tdOne_ok Tryz.underlying52 rfl (z := some .nilFunc) (by kernel_rfl)
theorem td53_ok : TdOk Tryz.prog 53 (tdOne) := tdOne_ok Tryz.underlying53 rfl (z := some .nilFunc) (by kernel_rfl)
theorem td54_ok : TdOk Tryz.prog 54 (tdOne) := tdOne_ok Tryz.underlying54 rfl (z := some .nilFunc) (by kernel_rfl)
theorem td55_ok : TdOk Tryz.prog 55 (tdOne) := tdOne_ok Tryz.underlying55 rfl (z := some .nilFunc) (by kernel_rfl)
theorem td56_ok : TdOk Tryz.prog 56 (tdOne) := tdOne_ok Tryz.underlying56 rfl (z := some .nilFunc) (by kernel_rfl)
theorem td57_ok : TdOk Tryz.prog 57 (tdOne) := tdOne_ok Tryz.underlying57 rfl (z := some .nilFunc) (by kernel_rfl)
theorem td58_ok : TdOk Tryz.prog 58 (tdOne) := tdOne_ok Tryz.underlying58 rfl (z := some .nilFunc) (by kernel_rfl)
theorem td59_ok : TdOk Tryz.prog 59 (tdOne) := tdOne_ok Tryz.underlying59 rfl (z := some .nilFunc) (by kernel_rfl)
theorem td61_ok : TdOk Tryz.prog 61 (tdOne) := tdOne_ok Tryz.underlying61 rfl (z := some .nilFunc) (by kernel_rfl)
theorem td62_ok : TdOk Tryz.prog 62 (tdOne) := tdOne_ok Tryz.underlying62 rfl (z := some .nilFunc) (by kernel_rfl)
theorem td63_ok : TdOk Tryz.prog 63 (tdOne) := tdOne_ok Tryz.underlying63 rfl (z := some .nilFunc) (by kernel_rfl)
theorem td64_ok : TdOk Tryz.prog 64 (tdInt .u64) := tdInt_ok Tryz.underlying64 (by kernel_rfl)
theorem td65_ok : TdOk Tryz.prog 65 (tdOne) := tdOne_ok Tryz.underlying65 rfl (z := some .nilFunc) (by kernel_rfl)
theorem td66_ok : TdOk Tryz.prog 66 (tdInt .u64) := tdInt_ok Tryz.underlying66 (by kernel_rfl)
theorem td67_ok : TdOk Tryz.prog 67 (tdTri (.sl none 0 0) (.int .i64 0) (.int .u64 0)) := tdTri_ok Tryz.underlying67 (by kernel_rfl) rfl rfl rfl Tryz.underlying28 Tryz.underlying3 Tryz.underlying66 rfl rfl rfl (y1 := some (.slice none 0 0)) (y2 := some (.int .i64 0)) (y3 := some (.int .u64 0)) (by kernel_rfl) (by kernel_rfl) (by kernel_rfl)
theorem td68_ok : TdOk Tryz.prog 68 (tdTri (.sl none 0 0) (.int .i64 0) (.int .u64 0)) := tdTri_ok Tryz.underlying68 (by kernel_rfl) rfl rfl rfl Tryz.underlying28 Tryz.underlying3 Tryz.underlying66 rfl rfl rfl (y1 := some (.slice none 0 0)) (y2 := some (.int .i64 0)) (y3 := some (.int .u64 0)) (by kernel_rfl) (by kernel_rfl) (by kernel_rfl)
theorem td69_ok : TdOk Tryz.prog 69 (tdOne) := tdOne_ok Tryz.underlying69 rfl (z := some .nilFunc) (by kernel_rfl)
theorem td70_ok : TdOk Tryz.prog 70 (tdOne) := tdOne_ok Tryz.underlying70 rfl (z := some .nilFunc) (by kernel_rfl)
theorem td71_ok : TdOk Tryz.prog 71 (tdOne) := tdOne_ok Tryz.underlying71 rfl (z := some .nilFunc) (by kernel_rfl)
theorem td72_ok : TdOk Tryz.prog 72 (tdArr .i64 2) := tdArr_ok Tryz.underlying72 (by kernel_rfl) Tryz.underlying2 (by kernel_rfl)
theorem td73_ok : TdOk Tryz.prog 73 (tdOne) := tdOne_ok Tryz.underlying73 rfl (z := some .nilFunc) (by kernel_rfl)
theorem td74_ok : TdOk Tryz.prog 74 (tdOne) := tdOne_ok Tryz.underlying74 rfl (z := some .nilFunc) (by kernel_rfl)
theorem td75_ok : TdOk Tryz.prog 75 (tdPair .i64 .u64) := tdPair_ok Tryz.underlying75 (by kernel_rfl) rfl rfl rfl rfl Tryz.underlying2 Tryz.underlying66 (z1 := some (.int .i64 0)) (z2 := some (.int .u64 0)) (by kernel_rfl) (by kernel_rfl) (by kernel_rfl) (by kernel_rfl)
theorem td76_ok : TdOk Tryz.prog 76 (tdPair .i64 .u64) := tdPair_ok Tryz.underlying76 (by kernel_rfl) rfl rfl rfl rfl Tryz.underlying2 Tryz.underlying66 (z1 := some (.int .i64 0)) (z2 := some (.int .u64 0)) (by kernel_rfl) (by kernel_rfl) (by kernel_rfl) (by kernel_rfl)
theorem td77_ok : TdOk Tryz.prog 77 (tdOne) := tdOne_ok Tryz.underlying77 rfl (z := some .nilFunc) (by kernel_rfl)
theorem td78_ok : TdOk Tryz.prog 78 (tdOne) := tdOne_ok Tryz.underlying78 rfl (z := some .nilFunc) (by kernel_rfl)
theorem td79_ok : TdOk Tryz.prog 79 (tdOne) := tdOne_ok Tryz.underlying79 rfl (z := some .nilFunc) (by kernel_rfl)
theorem td80_ok : TdOk Tryz.prog 80 (tdOne) := tdOne_ok Tryz.underlying80 rfl (z := some .nilFunc) (by kernel_rfl)
theorem td81_ok : TdOk Tryz.prog 81 (tdOne) := tdOne_ok Tryz.underlying81 rfl (z := some .nilFunc) (by kernel_rfl)
theorem td82_ok : TdOk Tryz.prog 82 (tdOne) := tdOne_ok Tryz.underlying82 rfl (z := some .nilFunc) (by kernel_rfl)
theorem td83_ok : TdOk Tryz.prog 83 (tdRow [.int .i64 0]) := tdRow_ok Tryz.underlying83 (by kernel_rfl) (e := 2) (n := 1) (b := 8) (v := .int .i64 0) (by kernel_rfl) rfl rfl (by decide) (by decide) (by decide) (fun h => by cases h)
theorem td84_ok : TdOk Tryz.prog 84 (tdOne) := tdOne_ok Tryz.underlying84 rfl (z := some .nilFunc) (by kernel_rfl)
theorem td85_ok : TdOk Tryz.prog 85 (tdOne) := tdOne_ok Tryz.underlying85 rfl (z := some .nilFunc) (by kernel_rfl)
theorem td87_ok : TdOk Tryz.prog 87 (tdOne) := tdOne_ok Tryz.underlying87 rfl (z := some .nilFunc) (by kernel_rfl)
theorem td89_ok : TdOk Tryz.prog 89 (tdOne) := tdOne_ok Tryz.underlying89 rfl (z := some .nilFunc) (by kernel_rfl)
theorem td91_ok : TdOk Tryz.prog 91 (tdOne) := tdOne_ok Tryz.underlying91 rfl (z := some .nilFunc) (by kernel_rfl)
theorem td92_ok : TdOk Tryz.prog 92 (tdOne) := tdOne_ok Tryz.underlying92 rfl (z := some .nilFunc) (by kernel_rfl)
theorem td93_ok : TdOk Tryz.prog 93 (tdOne) := tdOne_ok Tryz.underlying93 rfl (z := some .nilFunc) (by kernel_rfl)
theorem td95_ok : TdOk Tryz.prog 95 (tdOne) := tdOne_ok Tryz.underlying95 rfl (z := some .nilFunc) (by kernel_rfl)
theorem td96_ok : TdOk Tryz.prog 96 (tdOne) := tdOne_ok Tryz.underlying96 rfl (z := some .nilFunc) (by kernel_rfl)
theorem td97_ok : TdOk Tryz.prog 97 (tdOne) := tdOne_ok Tryz.underlying97 rfl (z := some .nilFunc) (by kernel_rfl)
theorem td98_ok : TdOk Tryz.prog 98 (tdOne) := tdOne_ok Tryz.underlying98 rfl (z := some .nilFunc) (by kernel_rfl)
theorem td102_ok : TdOk Tryz.prog 102 (tdOne) := tdOne_ok Tryz.underlying102 rfl (z := some .nilFunc) (by kernel_rfl)
theorem td103_ok : TdOk Tryz.prog 103 (tdOne) := tdOne_ok Tryz.underlying103 rfl (z := some .nilFunc) (by kernel_rfl)
theorem td105_ok : TdOk Tryz.prog 105 (tdOne) := tdOne_ok Tryz.underlying105 rfl (z := some .nilFunc) (by kernel_rfl)
theorem td107_ok : TdOk Tryz.prog 107 (tdOne) := tdOne_ok Tryz.underlying107 rfl (z := some .nilFunc) (by kernel_rfl)
theorem td108_ok : TdOk Tryz.prog 108 (tdOne) := tdOne_ok Tryz.underlying108 rfl (z := some .nilFunc) (by kernel_rfl)
theorem td109_ok : TdOk Tryz.prog 109 (tdOne) := tdOne_ok Tryz.underlying109 rfl (z := some .nilFunc) (by kernel_rfl)
theorem td110_ok : TdOk Tryz.prog 110 (tdOne) := tdOne_ok Tryz.underlying110 rfl (z := some .nilFunc) (by kernel_rfl)
theorem td112_ok : TdOk Tryz.prog 112 (tdOne) := tdOne_ok Tryz.underlying112 rfl (z := some .nilFunc) (by kernel_rfl)
theorem td116_ok : TdOk Tryz.prog 116 (tdOne) := tdOne_ok Tryz.underlying116 rfl (z := some .nilFunc) (by kernel_rfl)
theorem td120_ok : TdOk Tryz.prog 120 (tdOne) := tdOne_ok Tryz.underlying120 rfl (z := some .nilFunc) (by kernel_rfl)
theorem td121_ok : TdOk Tryz.prog 121 (tdOne) := tdOne_ok Tryz.underlying121 rfl (z := some .nilFunc) (by kernel_rfl)
theorem td122_ok : TdOk Tryz.prog 122 (tdOne) := tdOne_ok Tryz.underlying122 rfl (z := some .nilFunc) (by kernel_rfl)
theorem td123_ok : TdOk Tryz.prog 123 (tdOne) := tdOne_ok Tryz.underlying123 rfl (z := some .nilFunc) (by kernel_rfl)
theorem td124_ok : TdOk Tryz.prog 124 (tdOne) := tdOne_ok Tryz.underlying124 rfl (z := some .nilFunc) (by kernel_rfl)
theorem td125_ok : TdOk Tryz.prog 125 (tdOne) := tdOne_ok Tryz.underlying125 rfl (z := some .nilFunc) (by kernel_rfl)
theorem td126_ok : TdOk Tryz.prog 126 (tdInt .u32) := tdInt_ok Tryz.underlying126 (by kernel_rfl)
theorem td128_ok : TdOk Tryz.prog 128 (tdOne) := tdOne_ok Tryz.underlying128 rfl (z := some .nilFunc) (by kernel_rfl)
theorem td130_ok : TdOk Tryz.prog 130 (tdOne) := tdOne_ok Tryz.underlying130 rfl (z := some .nilFunc) (by kernel_rfl)
theorem td131_ok : TdOk Tryz.prog 131 (tdOne) := tdOne_ok Tryz.underlying131 rfl (z := some .nilFunc) (by kernel_rfl)
theorem td132_ok : TdOk Tryz.prog 132 (tdOne) := tdOne_ok Tryz.underlying132 rfl (z := some .nilFunc) (by kernel_rfl)
theorem td134_ok : TdOk Tryz.prog 134 (tdOne) := tdOne_ok Tryz.underlying134 rfl (z := some .nilFunc) (by kernel_rfl)
theorem td135_ok : TdOk Tryz.prog 135 (tdOne) := tdOne_ok Tryz.underlying135 rfl (z := some .nilFunc) (by kernel_rfl)
theorem td136_ok : TdOk Tryz.prog 136 (tdOne) := tdOne_ok Tryz.underlying136 rfl (z := some .nilFunc) (by kernel_rfl)
theorem td137_ok : TdOk Tryz.prog 137 (tdArr .u8 24) := tdArr_ok Tryz.underlying137 (by kernel_rfl) Tryz.underlying5 (by kernel_rfl)
theorem td138_ok : TdOk Tryz.prog 138 (tdOne) := tdOne_ok Tryz.underlying138 rfl (z := some .nilFunc) (by kernel_rfl)
theorem td140_ok : TdOk Tryz.prog 140 (tdOne) := tdOne_ok Tryz.underlying140 rfl (z := some .nilFunc) (by kernel_rfl)
theorem td142_ok : TdOk Tryz.prog 142 (tdOne) := tdOne_ok Tryz.underlying142 rfl (z := some .nilFunc) (by kernel_rfl)
theorem td143_ok : TdOk Tryz.prog 143 (tdOne) := tdOne_ok Tryz.underlying143 rfl (z := some .nilFunc) (by kernel_rfl)
theorem td145_ok : TdOk Tryz.prog 145 (tdPair .u8 .u8) := tdPair_ok Tryz.underlying145 (by kernel_rfl) rfl rfl rfl rfl Tryz.underlying5 Tryz.underlying5 (z1 := some (.int .u8 0)) (z2 := some (.int .u8 0)) (by kernel_rfl) (by kernel_rfl) (by kernel_rfl) (by kernel_rfl)
theorem td146_ok : TdOk Tryz.prog 146 (tdPair .u8 .u8) := tdPair_ok Tryz.underlying146 (by kernel_rfl) rfl rfl rfl rfl Tryz.underlying5 Tryz.underlying5 (z1 := some (.int .u8 0)) (z2 := some (.int .u8 0)) (by kernel_rfl) (by kernel_rfl) (by kernel_rfl) (by kernel_rfl)
theorem td148_ok : TdOk Tryz.prog 148 (tdOne) := tdOne_ok Tryz.underlying148 rfl (z := some .nilFunc) (by kernel_rfl)
theorem td149_ok : TdOk Tryz.prog 149 (tdOne) := tdOne_ok Tryz.underlying149 rfl (z := some .nilFunc) (by kernel_rfl)
theorem td150_ok : TdOk Tryz.prog 150 (tdArr .u64 20) := tdArr_ok Tryz.underlying150 (by kernel_rfl) Tryz.underlying66 (by kernel_rfl)
theorem td152_ok : TdOk Tryz.prog 152 (tdOne) := tdOne_ok Tryz.underlying152 rfl (z := some .nilFunc) (by kernel_rfl)
theorem td153_ok : TdOk Tryz.prog 153 (tdOne) := tdOne_ok Tryz.underlying153 rfl (z := some .nilFunc) (by kernel_rfl)
theorem td154_ok : TdOk Tryz.prog 154 (tdOne) := tdOne_ok Tryz.underlying154 rfl (z := some .nilFunc) (by kernel_rfl)
theorem td155_ok : TdOk Tryz.prog 155 (tdArr .u8 32) := tdArr_ok Tryz.underlying155 (by kernel_rfl) Tryz.underlying5 (by kernel_rfl)
theorem td156_ok : TdOk Tryz.prog 156 (tdArr .u8 64) := tdArr_ok Tryz.underlying156 (by kernel_rfl) Tryz.underlying5 (by kernel_rfl)
theorem td163_ok : TdOk Tryz.prog 163 (tdInt .u8) := tdInt_ok Tryz.underlying163 (by kernel_rfl)
theorem td164_ok : TdOk Tryz.prog 164 (tdInt .u8) := tdInt_ok Tryz.underlying164 (by kernel_rfl)
theorem td165_ok : TdOk Tryz.prog 165 (tdOne) := tdOne_ok Tryz.underlying165 rfl (z := some .nilFunc) (by kernel_rfl)
theorem td166_ok : TdOk Tryz.prog 166 (tdInt .i32) := tdInt_ok Tryz.underlying166 (by kernel_rfl)
theorem td167_ok : TdOk Tryz.prog 167 (tdInt .i32) := tdInt_ok Tryz.underlying167 (by kernel_rfl)
theorem T_ok : ∀ t d, T t = some d → TdOk Tryz.prog t d := by
  refine tabOf_ok tabList ?_
  unfold tabList
  refine List.forall_mem_cons.2 ⟨td1_ok, ?_⟩
  refine List.forall_mem_cons.2 ⟨td2_ok, ?_⟩
  refine List.forall_mem_cons.2 ⟨td3_ok, ?_⟩
  refine List.forall_mem_cons.2 ⟨td4_ok, ?_⟩
  refine List.forall_mem_cons.2 ⟨td5_ok, ?_⟩
  refine List.forall_mem_cons.2 ⟨td6_ok, ?_⟩
  refine List.forall_mem_cons.2 ⟨td9_ok, ?_⟩
  refine List.forall_mem_cons.2 ⟨td10_ok, ?_⟩
  refine List.forall_mem_cons.2 ⟨td11_ok, ?_⟩
  refine List.forall_mem_cons.2 ⟨td12_ok, ?_⟩
  refine List.forall_mem_cons.2 ⟨td21_ok, ?_⟩
  refine List.forall_mem_cons.2 ⟨td22_ok, ?_⟩
  refine List.forall_mem_cons.2 ⟨td23_ok, ?_⟩
  refine List.forall_mem_cons.2 ⟨td25_ok, ?_⟩
  refine List.forall_mem_cons.2 ⟨td26_ok, ?_⟩
  refine List.forall_mem_cons.2 ⟨td27_ok, ?_⟩
  refine List.forall_mem_cons.2 ⟨td28_ok, ?_⟩
  refine List.forall_mem_cons.2 ⟨td29_ok, ?_⟩
  refine List.forall_mem_cons.2 ⟨td30_ok, ?_⟩
  refine List.forall_mem_cons.2 ⟨td32_ok, ?_⟩
  refine List.forall_mem_cons.2 ⟨td33_ok, ?_⟩
  refine List.forall_mem_cons.2 ⟨td34_ok, ?_⟩
  refine List.forall_mem_cons.2 ⟨td35_ok, ?_⟩
  refine List.forall_mem_cons.2 ⟨td36_ok, ?_⟩
  refine List.forall_mem_cons.2 ⟨td37_ok, ?_⟩
  refine List.forall_mem_cons.2 ⟨td38_ok, ?_⟩
  refine List.forall_mem_cons.2 ⟨td39_ok, ?_⟩
  refine List.forall_mem_cons.2 ⟨td40_ok, ?_⟩
  refine List.forall_mem_cons.2 ⟨td41_ok, ?_⟩
  refine List.forall_mem_cons.2 ⟨td42_ok, ?_⟩
  refine List.forall_mem_cons.2 ⟨td43_ok, ?_⟩
  refine List.forall_mem_cons.2 ⟨td44_ok, ?_⟩
  refine List.forall_mem_cons.2 ⟨td46_ok, ?_⟩
  refine List.forall_mem_cons.2 ⟨td48_ok, ?_⟩
  refine List.forall_mem_cons.2 ⟨td50_ok, ?_⟩
  refine List.forall_mem_cons.2 ⟨td52_ok, ?_⟩
  refine List.forall_mem_cons.2 ⟨td53_ok, ?_⟩
  refine List.forall_mem_cons.2 ⟨td54_ok, ?_⟩
  refine List.forall_mem_cons.2 ⟨td55_ok, ?_⟩
  refine List.forall_mem_cons.2 ⟨td56_ok, ?_⟩
  refine List.forall_mem_cons.2 ⟨td57_ok, ?_⟩
  refine List.forall_mem_cons.2 ⟨td58_ok, ?_⟩
  refine List.forall_mem_cons.2 ⟨td59_ok, ?_⟩
  refine List.forall_mem_cons.2 ⟨td61_ok, ?_⟩
  refine List.forall_mem_cons.2 ⟨td62_ok, ?_⟩
  refine List.forall_mem_cons.2 ⟨td63_ok, ?_⟩
  refine List.forall_mem_cons.2 ⟨td64_ok, ?_⟩
  refine List.forall_mem_cons.2 ⟨td65_ok, ?_⟩
  refine List.forall_mem_cons.2 ⟨td66_ok, ?_⟩
  refine List.forall_mem_cons.2 ⟨td67_ok, ?_⟩
  refine List.forall_mem_cons.2 ⟨td68_ok, ?_⟩
  refine List.forall_mem_cons.2 ⟨td69_ok, ?_⟩
  refine List.forall_mem_cons.2 ⟨td70_ok, ?_⟩
  refine List.forall_mem_cons.2 ⟨td71_ok, ?_⟩
  refine List.forall_mem_cons.2 ⟨td72_ok, ?_⟩
  refine List.forall_mem_cons.2 ⟨td73_ok, ?_⟩
  refine List.forall_mem_cons.2 ⟨td74_ok, ?_⟩
  refine List.forall_mem_cons.2 ⟨td75_ok, ?_⟩
  refine List.forall_mem_cons.2 ⟨td76_ok, ?_⟩
  refine List.forall_mem_cons.2 ⟨td77_ok, ?_⟩
  refine List.forall_mem_cons.2 ⟨td78_ok, ?_⟩
  refine List.forall_mem_cons.2 ⟨td79_ok, ?_⟩
  refine List.forall_mem_cons.2 ⟨td80_ok, ?_⟩
  refine List.forall_mem_cons.2 ⟨td81_ok, ?_⟩
  refine List.forall_mem_cons.2 ⟨td82_ok, ?_⟩
  refine List.forall_mem_cons.2 ⟨td83_ok, ?_⟩
  refine List.forall_mem_cons.2 ⟨td84_ok, ?_⟩
  refine List.forall_mem_cons.2 ⟨td85_ok, ?_⟩
  refine List.forall_mem_cons.2 ⟨td87_ok, ?_⟩
  refine List.forall_mem_cons.2 ⟨td89_ok, ?_⟩
  refine List.forall_mem_cons.2 ⟨td91_ok, ?_⟩
  refine List.forall_mem_cons.2 ⟨td92_ok, ?_⟩
  refine List.forall_mem_cons.2 ⟨td93_ok, ?_⟩
  refine List.forall_mem_cons.2 ⟨td95_ok, ?_⟩
  refine List.forall_mem_cons.2 ⟨td96_ok, ?_⟩
  refine List.forall_mem_cons.2 ⟨td97_ok, ?_⟩
  refine List.forall_mem_cons.2 ⟨td98_ok, ?_⟩
  refine List.forall_mem_cons.2 ⟨td102_ok, ?_⟩
  refine List.forall_mem_cons.2 ⟨td103_ok, ?_⟩
  refine List.forall_mem_cons.2 ⟨td105_ok, ?_⟩
  refine List.forall_mem_cons.2 ⟨td107_ok, ?_⟩
  refine List.forall_mem_cons.2 ⟨td108_ok, ?_⟩
  refine List.forall_mem_cons.2 ⟨td109_ok, ?_⟩
  refine List.forall_mem_cons.2 ⟨td110_ok, ?_⟩
  refine List.forall_mem_cons.2 ⟨td112_ok, ?_⟩
  refine List.forall_mem_cons.2 ⟨td116_ok, ?_⟩
  refine List.forall_mem_cons.2 ⟨td120_ok, ?_⟩
  refine List.forall_mem_cons.2 ⟨td121_ok, ?_⟩
  refine List.forall_mem_cons.2 ⟨td122_ok, ?_⟩
  refine List.forall_mem_cons.2 ⟨td123_ok, ?_⟩
  refine List.forall_mem_cons.2 ⟨td124_ok, ?_⟩
  refine List.forall_mem_cons.2 ⟨td125_ok, ?_⟩
  refine List.forall_mem_cons.2 ⟨td126_ok, ?_⟩
  refine List.forall_mem_cons.2 ⟨td128_ok, ?_⟩
  refine List.forall_mem_cons.2 ⟨td130_ok, ?_⟩
  refine List.forall_mem_cons.2 ⟨td131_ok, ?_⟩
  refine List.forall_mem_cons.2 ⟨td132_ok, ?_⟩
  refine List.forall_mem_cons.2 ⟨td134_ok, ?_⟩
  refine List.forall_mem_cons.2 ⟨td135_ok, ?_⟩
  refine List.forall_mem_cons.2 ⟨td136_ok, ?_⟩
  refine List.forall_mem_cons.2 ⟨td137_ok, ?_⟩
  refine List.forall_mem_cons.2 ⟨td138_ok, ?_⟩
  refine List.forall_mem_cons.2 ⟨td140_ok, ?_⟩
  refine List.forall_mem_cons.2 ⟨td142_ok, ?_⟩
  refine List.forall_mem_cons.2 ⟨td143_ok, ?_⟩
  refine List.forall_mem_cons.2 ⟨td145_ok, ?_⟩
  refine List.forall_mem_cons.2 ⟨td146_ok, ?_⟩
  refine List.forall_mem_cons.2 ⟨td148_ok, ?_⟩
  refine List.forall_mem_cons.2 ⟨td149_ok, ?_⟩
  refine List.forall_mem_cons.2 ⟨td150_ok, ?_⟩
  refine List.forall_mem_cons.2 ⟨td152_ok, ?_⟩
  refine List.forall_mem_cons.2 ⟨td153_ok, ?_⟩
  refine List.forall_mem_cons.2 ⟨td154_ok, ?_⟩
  refine List.forall_mem_cons.2 ⟨td155_ok, ?_⟩
  refine List.forall_mem_cons.2 ⟨td156_ok, ?_⟩
  refine List.forall_mem_cons.2 ⟨td163_ok, ?_⟩
  refine List.forall_mem_cons.2 ⟨td164_ok, ?_⟩
  refine List.forall_mem_cons.2 ⟨td165_ok, ?_⟩
  refine List.forall_mem_cons.2 ⟨td166_ok, ?_⟩
  refine List.forall_mem_cons.2 ⟨td167_ok, ?_⟩
  simp
theorem mixed : Tryz.prog.follows .mixedOrders = true := by kernel_rfl
end Go.Proofs.YtcnapkdccjibpaaGreatDoor.Eng
