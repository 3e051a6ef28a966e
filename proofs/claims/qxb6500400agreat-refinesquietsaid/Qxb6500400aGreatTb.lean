import Derived.Test.Qxb6500400aGreatProg
import Derived.Test.Qxb6500400aGreatEc
set_option linter.unusedVariables false
namespace Go.Proofs.Qxb6500400aGreat.T
open Go.Eng
theorem ag104 : agS Tryz.prog 104 = some (some 4) := by kernel_rfl
theorem ag114 : agS Tryz.prog 114 = some (some 3) := by kernel_rfl
theorem ag28 : agS Tryz.prog 28 = some none := by kernel_rfl
theorem ag29 : agS Tryz.prog 29 = some none := by kernel_rfl
theorem ag3 : agS Tryz.prog 3 = some none := by kernel_rfl
theorem ag31 : agS Tryz.prog 31 = some (some 2) := by kernel_rfl
theorem ag33 : agS Tryz.prog 33 = some none := by kernel_rfl
theorem ag34 : agS Tryz.prog 34 = some none := by kernel_rfl
theorem ag35 : agS Tryz.prog 35 = some none := by kernel_rfl
theorem ag36 : agS Tryz.prog 36 = some none := by kernel_rfl
theorem ag38 : agS Tryz.prog 38 = some (some 3) := by kernel_rfl
theorem ag39 : agS Tryz.prog 39 = some none := by kernel_rfl
theorem ag4 : agS Tryz.prog 4 = some none := by kernel_rfl
theorem ag40 : agS Tryz.prog 40 = some none := by kernel_rfl
theorem ag49 : agS Tryz.prog 49 = some (some 6) := by kernel_rfl
theorem ag53 : agS Tryz.prog 53 = some none := by kernel_rfl
theorem ag74 : agS Tryz.prog 74 = some none := by kernel_rfl
theorem ag81 : agS Tryz.prog 81 = some none := by kernel_rfl
theorem ag85 : agS Tryz.prog 85 = some none := by kernel_rfl
theorem ag9 : agS Tryz.prog 9 = some none := by kernel_rfl
theorem ag93 : agS Tryz.prog 93 = some none := by kernel_rfl
theorem ar73 : arS Tryz.prog 73 = some (12, 1) := by kernel_rfl
theorem ar75 : arS Tryz.prog 75 = some (13, 1) := by kernel_rfl
theorem ar76 : arS Tryz.prog 76 = some (13, 1) := by kernel_rfl
theorem ar79 : arS Tryz.prog 79 = some (624, 1) := by kernel_rfl
theorem ar80 : arS Tryz.prog 80 = some (52, 1) := by kernel_rfl
theorem ar82 : arS Tryz.prog 82 = some (26, 1) := by kernel_rfl
theorem ar88 : arS Tryz.prog 88 = some (52, 1) := by kernel_rfl
theorem ar89 : arS Tryz.prog 89 = some (52, 1) := by kernel_rfl
theorem bld104 : buildV Tryz.prog 104 [] = some (.agg #[.int .i64 0, .slice none 0 0, .int .i64 0, .int .i64 0]) := by kernel_rfl
theorem bld104_0 : ∀ (x0 : Int), buildV Tryz.prog 104 [(0, .int .i64 x0)] = some (.agg #[.int .i64 x0, .slice none 0 0, .int .i64 0, .int .i64 0]) := by intros; kernel_rfl
theorem bld104_1_2_3 : ∀ (x1 : Option Addr) (x1n x1c : Nat) (x2 : Int) (x3 : Int), buildV Tryz.prog 104 [(1, .slice x1 x1n x1c), (2, .int .i64 x2), (3, .int .i64 x3)] = some (.agg #[.int .i64 0, .slice x1 x1n x1c, .int .i64 x2, .int .i64 x3]) := by intros; kernel_rfl
theorem bld114_0_1_2 : ∀ (x0 : Int) (x1 : Int) (x2 : Int), buildV Tryz.prog 114 [(0, .int .i64 x0), (1, .int .i64 x1), (2, .int .i64 x2)] = some (.agg #[.int .i64 x0, .int .i64 x1, .int .i64 x2]) := by intros; kernel_rfl
theorem bld31_0_1 : ∀ (x0 : Option Addr) (x1 : Option Addr), buildV Tryz.prog 31 [(0, .pointer x0), (1, .pointer x1)] = some (.agg #[.pointer x0, .pointer x1]) := by intros; kernel_rfl
theorem bld38_0_1_2 : ∀ (x0 : Option Addr) (x1 : Option Addr) (x2 : Option Addr), buildV Tryz.prog 38 [(0, .pointer x0), (1, .pointer x1), (2, .pointer x2)] = some (.agg #[.pointer x0, .pointer x1, .pointer x2]) := by intros; kernel_rfl
theorem bld42_0_4 : ∀ (x0_0 : Option Addr) (x0_1 : Option Addr) (x4 : Int), buildV Tryz.prog 42 [(0, .agg #[.pointer x0_0, .pointer x0_1]), (4, .int .i64 x4)] = some (.agg #[.pointer x0_0, .pointer x0_1, .pointer none, .pointer none, .pointer none, .pointer none, .slice none 0 0, .int .i64 x4, .bool false, .slice none 0 0]) := by intros; kernel_rfl
theorem bld55_0_1 : ∀ (x0 : Option Addr) (x1 : Option Addr), buildV Tryz.prog 55 [(0, .pointer x0), (1, .pointer x1)] = some (.agg #[.pointer x0, .pointer x1, .int .u16 0, .int .u16 0, .int .u16 0, .int .i64 0, .int .i64 0]) := by intros; kernel_rfl
theorem bld63_0_1 : ∀ (x0 : Option Addr) (x1 : Option Addr), buildV Tryz.prog 63 [(0, .pointer x0), (1, .pointer x1)] = some (.agg #[.pointer x0, .pointer x1, .int .i64 0, .slice none 0 0, .slice none 0 0]) := by intros; kernel_rfl
theorem bld78 : buildV Tryz.prog 78 [] = some (.agg #[.int .i64 0, .int .i64 0, .int .i64 0, .int .i64 0, .int .i64 0, .int .i64 0, .int .i64 0, .int .i64 0, .int .i64 0, .int .i64 0, .int .i64 0, .int .i64 0, .int .i64 0, .int .i64 0, .int .i64 0, .int .i8 0, .int .i8 0, .int .i8 0, .int .i8 0, .int .i8 0, .int .i8 0, .int .i8 0, .int .i8 0, .int .i8 0, .int .i8 0, .int .i8 0, .int .i8 0, .int .i8 0, .int .i64 0, .int .i64 0, .int .i64 0, .int .i64 0, .int .i64 0, .int .i64 0, .int .i64 0, .int .i64 0, .int .i64 0, .int .i64 0, .int .i64 0, .int .i64 0, .int .i64 0, .int .i64 0, .int .i64 0, .int .i64 0, .int .i64 0, .int .i64 0, .int .i64 0, .int .i64 0, .int .i64 0, .int .i64 0, .int .i64 0, .int .i64 0, .int .i64 0, .int .i64 0, .int .i64 0, .int .i64 0, .int .i64 0, .int .i64 0, .int .i64 0, .int .i64 0, .int .i64 0, .int .i64 0, .int .i64 0, .int .i64 0, .int .i64 0, .int .i64 0, .int .i64 0, .int .i64 0, .int .i64 0, .int .i64 0, .int .i64 0, .int .i64 0, .int .i64 0, .int .i64 0, .int .i64 0, .int .i64 0, .int .i64 0, .int .i64 0, .int .i64 0, .int .i64 0, .int .i64 0]) := by kernel_rfl
theorem bld84_0 : ∀ (x0 : Option Addr), buildV Tryz.prog 84 [(0, .pointer x0)] = some (.agg #[.pointer x0, .int .i64 0, .int .i64 0, .int .i64 0, .int .i64 0, .int .i64 0, .int .i64 0, .int .i64 0, .int .i64 0, .int .i64 0, .int .i64 0, .int .i64 0, .int .i64 0, .int .i64 0, .int .i64 0, .int .i64 0, .int .i64 0, .int .i64 0, .int .i64 0, .int .i64 0, .int .i64 0, .int .i64 0, .int .i64 0, .int .i64 0, .int .i64 0, .int .i64 0, .int .i64 0, .int .i64 0, .int .i64 0, .int .i64 0, .int .i64 0, .int .i64 0, .int .i64 0, .int .i64 0, .int .i64 0, .int .i64 0, .int .i64 0, .int .i64 0, .int .i64 0, .int .i64 0, .int .i64 0, .int .i64 0, .int .i64 0, .int .i64 0, .int .i64 0, .int .i64 0, .int .i64 0, .int .i64 0, .int .i64 0, .int .i64 0, .int .i64 0, .int .i64 0, .int .i64 0, .int .i64 0, .int .i64 0, .int .i64 0, .int .i64 0, .int .i64 0, .int .i64 0, .int .i64 0, .int .i64 0, .int .i64 0, .int .i64 0, .int .i64 0, .int .i64 0, .int .i64 0, .int .i64 0, .int .i64 0, .int .i64 0, .int .i64 0, .int .i64 0, .int .i64 0, .int .i64 0, .int .i64 0, .int .i64 0, .int .i64 0, .int .i64 0, .int .i64 0, .int .i64 0, .int .i64 0, .int .i64 0, .int .i64 0, .int .i64 0, .int .i64 0, .int .i64 0, .int .i64 0, .int .i64 0, .int .i64 0, .int .i64 0, .int .i64 0, .int .i64 0, .int .i64 0, .int .i64 0, .int .i64 0, .int .i64 0, .int .i64 0, .int .i64 0, .int .i64 0, .int .i64 0, .int .i64 0, .int .i64 0, .int .i64 0, .int .i64 0, .int .i64 0, .int .i64 0, .int .i64 0, .int .i64 0, .int .i64 0, .int .i64 0, .int .i64 0, .int .i64 0, .int .i64 0, .int .i64 0, .int .i64 0, .int .i64 0, .int .i64 0, .int .i64 0, .int .i64 0, .int .i64 0, .int .i64 0, .int .i64 0, .int .i64 0, .int .i64 0, .int .i64 0, .int .i64 0, .int .i64 0, .int .i64 0, .int .i64 0, .int .i64 0, .int .i64 0, .int .i64 0, .int .i64 0, .int .i64 0, .int .i64 0, .int .i64 0, .int .i64 0, .int .i64 0, .int .i64 0, .int .i64 0, .int .i64 0, .int .i64 0, .int .i64 0, .int .i64 0, .int .i64 0, .int .i64 0, .int .i64 0, .int .i64 0, .int .i64 0, .int .i64 0, .int .i64 0, .int .i64 0, .int .i64 0, .int .i64 0, .int .i64 0, .int .i64 0, .int .i64 0, .int .i64 0, .int .i64 0, .int .i64 0, .int .i64 0, .int .i64 0, .int .i64 0, .int .i64 0, .int .i64 0, .int .i64 0, .int .i64 0, .int .i64 0, .int .i64 0, .int .i64 0, .int .i64 0, .int .i64 0, .int .i64 0, .int .i64 0, .int .i64 0, .int .i64 0, .int .i64 0, .int .i64 0, .int .i64 0, .int .i64 0, .int .i64 0, .int .i64 0, .int .i64 0, .int .i64 0, .int .i64 0, .int .i64 0, .int .i64 0, .int .i64 0, .int .i64 0, .int .i64 0, .int .i64 0, .int .i64 0, .int .i64 0, .int .i64 0, .int .i64 0, .int .i64 0, .int .i64 0, .int .i64 0, .int .i64 0, .int .i64 0, .int .i64 0, .int .i64 0, .int .i64 0, .int .i64 0, .int .i64 0, .int .i64 0, .int .i64 0, .int .i64 0, .int .i64 0, .int .i64 0, .int .i64 0, .int .i64 0, .int .i64 0, .int .i64 0, .int .i64 0, .int .i64 0, .int .i64 0, .int .i64 0, .int .i64 0, .int .i64 0, .int .i64 0, .int .i64 0, .int .i64 0, .int .i64 0, .int .i64 0, .int .i64 0, .int .i64 0, .int .i64 0, .int .i64 0, .int .i64 0, .int .i64 0, .int .i64 0, .int .i64 0, .int .i64 0, .int .i64 0, .int .i64 0, .int .i64 0, .int .i64 0, .int .i64 0, .int .i64 0, .int .i64 0, .int .i64 0, .int .i64 0, .int .i64 0, .int .i64 0, .int .i64 0, .int .i64 0, .int .i64 0, .int .i64 0, .int .i64 0, .int .i64 0, .int .i64 0, .int .i64 0, .int .i64 0, .int .i64 0, .int .i64 0, .int .i64 0, .int .i64 0, .int .i64 0, .int .i64 0, .int .i64 0, .int .i64 0, .int .i64 0, .int .i64 0, .int .i64 0, .int .i64 0, .int .i64 0, .int .i64 0, .int .i64 0, .int .i64 0, .int .i64 0, .int .i64 0, .int .i64 0, .int .i64 0, .int .i64 0, .int .i64 0, .int .i64 0, .int .i64 0, .int .i64 0, .int .i64 0, .int .i64 0, .int .i64 0, .int .i64 0, .int .i64 0, .int .i64 0, .int .i64 0, .int .i64 0, .int .i64 0, .int .i64 0, .int .i64 0, .int .i64 0, .int .i64 0, .int .i64 0, .int .i64 0, .int .i64 0, .int .i64 0, .int .i64 0, .int .i64 0, .int .i64 0, .int .i64 0, .int .i64 0, .int .i64 0, .int .i64 0, .int .i64 0, .int .i64 0, .int .i64 0, .int .i64 0, .int .i64 0, .int .i64 0, .int .i64 0, .int .i64 0, .int .i64 0, .int .i64 0, .int .i64 0, .int .i64 0, .int .i64 0, .int .i64 0, .int .i64 0, .int .i64 0, .int .i64 0, .int .i64 0, .int .i64 0, .int .i64 0, .int .i64 0, .int .i64 0, .int .i64 0, .int .i64 0, .int .i64 0, .int .i64 0, .int .i64 0, .int .i64 0, .int .i64 0, .int .i64 0, .int .i64 0, .int .i64 0, .int .i64 0, .int .i64 0, .int .i64 0, .int .i64 0, .int .i64 0, .int .i64 0, .int .i64 0, .int .i64 0, .int .i64 0, .int .i64 0, .int .i64 0, .int .i64 0, .int .i64 0, .int .i64 0, .int .i64 0, .int .i64 0, .int .i64 0, .int .i64 0, .int .i64 0, .int .i64 0, .int .i64 0, .int .i64 0, .int .i64 0, .int .i64 0, .int .i64 0, .int .i64 0, .int .i64 0, .int .i64 0, .int .i64 0, .int .i64 0, .int .i64 0, .int .i64 0, .int .i64 0, .int .i64 0, .int .i64 0, .int .i64 0, .int .i64 0, .int .i64 0, .int .i64 0, .int .i64 0, .int .i64 0, .int .i64 0, .int .i64 0, .int .i64 0, .int .i64 0, .int .i64 0, .int .i64 0, .int .i64 0, .int .i64 0, .int .i64 0, .int .i64 0, .int .i64 0, .int .i64 0, .int .i64 0, .int .i64 0, .int .i64 0, .int .i64 0, .int .i64 0, .int .i64 0, .int .i64 0, .int .i64 0, .int .i64 0, .int .i64 0, .int .i64 0, .int .i64 0, .int .i64 0, .int .i64 0, .int .i64 0, .int .i64 0, .int .i64 0, .int .i64 0, .int .i64 0, .int .i64 0, .int .i64 0, .int .i64 0, .int .i64 0, .int .i64 0, .int .i64 0, .int .i64 0, .int .i64 0, .int .i64 0, .int .i64 0, .int .i64 0, .int .i64 0, .int .i64 0, .int .i64 0, .int .i64 0, .int .i64 0, .int .i64 0, .int .i64 0, .int .i64 0, .int .i64 0, .int .i64 0, .int .i64 0, .int .i64 0, .int .i64 0, .int .i64 0, .int .i64 0, .int .i64 0, .int .i64 0, .int .i64 0, .int .i64 0, .int .i64 0, .int .i64 0, .int .i64 0, .int .i64 0, .int .i64 0, .int .i64 0, .int .i64 0, .int .i64 0, .int .i64 0, .int .i64 0, .int .i64 0, .int .i64 0, .int .i64 0, .int .i64 0, .int .i64 0, .int .i64 0, .int .i64 0, .int .i64 0, .int .i64 0, .int .i64 0, .int .i64 0, .int .i64 0, .int .i64 0, .int .i64 0, .int .i64 0, .int .i64 0, .int .i64 0, .int .i64 0, .int .i64 0, .int .i64 0, .int .i64 0, .int .i64 0, .int .i64 0, .int .i64 0, .int .i64 0, .int .i64 0, .int .i64 0, .int .i64 0, .int .i64 0, .int .i64 0, .int .i64 0, .int .i64 0, .int .i64 0, .int .i64 0, .int .i64 0, .int .i64 0, .int .i64 0, .int .i64 0, .int .i64 0, .int .i64 0, .int .i64 0, .int .i64 0, .int .i64 0, .int .i64 0, .int .i64 0, .int .i64 0, .int .i64 0, .int .i64 0, .int .i64 0, .int .i64 0, .int .i64 0, .int .i64 0, .int .i64 0, .int .i64 0, .int .i64 0, .int .i64 0, .int .i64 0, .int .i64 0, .int .i64 0, .int .i64 0, .int .i64 0, .int .i64 0, .int .i64 0, .int .i64 0, .int .i64 0, .int .i64 0, .int .i64 0, .int .i64 0, .int .i64 0, .int .i64 0, .int .i64 0, .int .i64 0, .int .i64 0, .int .i64 0, .int .i64 0, .int .i64 0, .int .i64 0, .int .i64 0, .int .i64 0, .int .i64 0, .int .i64 0, .int .i64 0, .int .i64 0, .int .i64 0, .int .i64 0, .int .i64 0, .int .i64 0, .int .i64 0, .int .i64 0, .int .i64 0, .int .i64 0, .int .i64 0, .int .i64 0, .int .i64 0, .int .i64 0, .int .i64 0, .int .i64 0, .int .i64 0, .int .i64 0, .int .i64 0, .int .i64 0, .int .i64 0, .int .i64 0, .int .i64 0, .int .i64 0, .int .i64 0, .int .i64 0, .int .i64 0, .int .i64 0, .int .i64 0, .int .i64 0, .int .i64 0, .int .i64 0, .int .i64 0, .int .i64 0, .int .i64 0, .int .i64 0, .int .i64 0, .int .i64 0, .int .i64 0, .int .i64 0, .int .i64 0, .int .i64 0, .int .i64 0, .int .i64 0, .int .i64 0, .int .i64 0, .int .i64 0, .int .i64 0, .int .i64 0, .int .i64 0, .int .i64 0, .int .i64 0, .int .i64 0, .int .i64 0, .int .i64 0, .int .i64 0, .int .i64 0, .int .i64 0, .int .i64 0, .int .i64 0, .int .i64 0, .int .i64 0, .int .i64 0, .int .i64 0, .int .i64 0, .int .i64 0, .int .i64 0, .int .i64 0, .int .i64 0, .int .i64 0, .int .i64 0, .int .i64 0, .int .i64 0, .int .i64 0, .int .i64 0, .int .i64 0, .int .i64 0, .int .i64 0, .int .i64 0, .int .i64 0, .int .i64 0, .int .i64 0, .int .i64 0, .int .i64 0, .int .i64 0, .int .i64 0, .int .i64 0, .int .i64 0, .int .i64 0, .int .i64 0, .int .i64 0, .int .i64 0, .int .i64 0, .int .i64 0, .int .i64 0, .int .i64 0, .int .i64 0, .int .i64 0, .int .i64 0, .int .i64 0, .int .i64 0, .int .i64 0, .int .i64 0, .int .i64 0, .int .i64 0, .int .i64 0, .int .i64 0, .int .i64 0, .int .i64 0, .int .i64 0, .int .i64 0, .int .i64 0, .int .i64 0, .int .i64 0, .int .i64 0, .int .i64 0, .int .i64 0, .int .i64 0, .int .i64 0, .int .i64 0, .int .i64 0, .int .i64 0, .int .i64 0, .int .i64 0, .int .i64 0, .int .i64 0, .int .i64 0, .int .i64 0, .int .i64 0, .int .i64 0, .int .i64 0, .int .i64 0, .int .i64 0, .int .i64 0, .int .i64 0, .int .i64 0, .int .i64 0, .int .i64 0, .int .i64 0, .int .i64 0, .int .i64 0, .int .i64 0, .int .i64 0, .int .i64 0, .int .i64 0, .int .i64 0, .int .i64 0, .int .i64 0, .int .i64 0, .int .i64 0, .int .u64 0, .int .u64 0, .int .u64 0, .int .u64 0, .int .u64 0, .int .u64 0, .int .u64 0, .int .u64 0, .int .u64 0, .int .u64 0, .int .u64 0, .int .u64 0, .int .u64 0, .int .u64 0, .int .u64 0, .int .u64 0, .int .u64 0, .int .u64 0, .int .u64 0, .int .u64 0, .int .u64 0, .int .u64 0, .int .u64 0, .int .u64 0, .int .u64 0, .int .u64 0, .int .u64 0, .int .u64 0, .int .u64 0, .int .i64 0]) := by intros; kernel_rfl
theorem bld87 : buildV Tryz.prog 87 [] = some (.agg #[.slice none 0 0, .int .i64 0, .int .i64 0, .slice none 0 0]) := by kernel_rfl
theorem bld87_1_2 : ∀ (x1 : Int) (x2 : Int), buildV Tryz.prog 87 [(1, .int .i64 x1), (2, .int .i64 x2)] = some (.agg #[.slice none 0 0, .int .i64 x1, .int .i64 x2, .slice none 0 0]) := by intros; kernel_rfl
theorem bld91_0 : ∀ (x0 : Option Addr), buildV Tryz.prog 91 [(0, .pointer x0)] = some (.agg #[.pointer x0, .bool false, .bool false, .bool false, .bool false, .bool false, .bool false, .bool false, .bool false, .bool false, .bool false, .bool false, .bool false, .bool false, .bool false, .bool false, .bool false, .bool false, .bool false, .bool false, .bool false, .bool false, .bool false, .bool false, .bool false, .bool false, .bool false, .bool false, .bool false, .bool false, .bool false, .bool false, .bool false, .bool false, .bool false, .bool false, .bool false, .bool false, .bool false, .bool false, .bool false, .bool false, .bool false, .bool false, .bool false, .bool false, .bool false, .bool false, .bool false, .bool false, .bool false, .bool false, .bool false, .slice none 0 0, .slice none 0 0, .slice none 0 0, .slice none 0 0, .slice none 0 0, .slice none 0 0, .slice none 0 0, .slice none 0 0, .slice none 0 0, .slice none 0 0, .slice none 0 0, .slice none 0 0, .slice none 0 0, .slice none 0 0, .slice none 0 0, .slice none 0 0, .slice none 0 0, .slice none 0 0, .slice none 0 0, .slice none 0 0, .slice none 0 0, .slice none 0 0, .slice none 0 0, .slice none 0 0, .slice none 0 0, .slice none 0 0, .slice none 0 0, .slice none 0 0, .slice none 0 0, .slice none 0 0, .slice none 0 0, .slice none 0 0, .slice none 0 0, .slice none 0 0, .slice none 0 0, .slice none 0 0, .slice none 0 0, .slice none 0 0, .slice none 0 0, .slice none 0 0, .slice none 0 0, .slice none 0 0, .slice none 0 0, .slice none 0 0, .slice none 0 0, .slice none 0 0, .slice none 0 0, .slice none 0 0, .slice none 0 0, .slice none 0 0, .slice none 0 0, .slice none 0 0, .bool false, .bool false, .bool false, .bool false, .bool false, .bool false, .bool false, .bool false, .bool false, .bool false, .bool false, .bool false, .bool false, .bool false, .bool false, .bool false, .bool false, .bool false, .bool false, .bool false, .bool false, .bool false, .bool false, .bool false, .bool false, .bool false, .bool false, .bool false, .bool false, .bool false, .bool false, .bool false, .bool false, .bool false, .bool false, .bool false, .bool false, .bool false, .bool false, .bool false, .bool false, .bool false, .bool false, .bool false, .bool false, .bool false, .bool false, .bool false, .bool false, .bool false, .bool false, .bool false, .int .i64 0, .slice none 0 0, .int .i64 0, .int .i64 0, .int .i64 0]) := by intros; kernel_rfl
theorem bs39_1_0 : ∀ (x0 : Int), Instr.fill (fun i => some (i * 1, 1)) (mkZ #[.int .i64 0] (1 * 1)) [(0, .int .i64 x0)] = some #[.int .i64 x0] := by intros; kernel_rfl
theorem bs39_2_0_1 : ∀ (x0 : Int) (x1 : Int), Instr.fill (fun i => some (i * 1, 1)) (mkZ #[.int .i64 0] (2 * 1)) [(0, .int .i64 x0), (1, .int .i64 x1)] = some #[.int .i64 x0, .int .i64 x1] := by intros; kernel_rfl
theorem bs40_1_0 : ∀ (x0 : Option Addr) (x0n x0c : Nat), Instr.fill (fun i => some (i * 1, 1)) (mkZ #[.slice none 0 0] (1 * 1)) [(0, .slice x0 x0n x0c)] = some #[.slice x0 x0n x0c] := by intros; kernel_rfl
theorem bs85_1_0 : ∀ (x0_0 : Int) (x0_1 : Int) (x0_2 : Int), Instr.fill (fun i => some (i * 3, 3)) (mkZ #[.int .i64 0, .int .i64 0, .int .i64 0] (1 * 3)) [(0, .agg #[.int .i64 x0_0, .int .i64 x0_1, .int .i64 x0_2])] = some #[.int .i64 x0_0, .int .i64 x0_1, .int .i64 x0_2] := by intros; kernel_rfl
theorem ei39 : elI Tryz.prog 39 = some (3, 1, 8, #[.int .i64 0]) := by kernel_rfl
theorem ei40 : elI Tryz.prog 40 = some (39, 1, 24, #[.slice none 0 0]) := by kernel_rfl
theorem ei85 : elI Tryz.prog 85 = some (114, 3, 24, #[.int .i64 0, .int .i64 0, .int .i64 0]) := by kernel_rfl
theorem el22 : elS Tryz.prog 22 = some 6 := by kernel_rfl
theorem el39 : elS Tryz.prog 39 = some 1 := by kernel_rfl
theorem el40 : elS Tryz.prog 40 = some 1 := by kernel_rfl
theorem el85 : elS Tryz.prog 85 = some 3 := by kernel_rfl
theorem f104_0 : fOff Tryz.prog 104 0 = some 0 := by kernel_rfl
theorem f104_1 : fOff Tryz.prog 104 1 = some 1 := by kernel_rfl
theorem f104_2 : fOff Tryz.prog 104 2 = some 2 := by kernel_rfl
theorem f104_3 : fOff Tryz.prog 104 3 = some 3 := by kernel_rfl
theorem f114_0 : fOff Tryz.prog 114 0 = some 0 := by kernel_rfl
theorem f114_1 : fOff Tryz.prog 114 1 = some 1 := by kernel_rfl
theorem f114_2 : fOff Tryz.prog 114 2 = some 2 := by kernel_rfl
theorem f31_0 : fOff Tryz.prog 31 0 = some 0 := by kernel_rfl
theorem f31_1 : fOff Tryz.prog 31 1 = some 1 := by kernel_rfl
theorem f38_0 : fOff Tryz.prog 38 0 = some 0 := by kernel_rfl
theorem f38_1 : fOff Tryz.prog 38 1 = some 1 := by kernel_rfl
theorem f38_2 : fOff Tryz.prog 38 2 = some 2 := by kernel_rfl
theorem f42_0 : fOff Tryz.prog 42 0 = some 0 := by kernel_rfl
theorem f42_1 : fOff Tryz.prog 42 1 = some 2 := by kernel_rfl
theorem f42_2 : fOff Tryz.prog 42 2 = some 3 := by kernel_rfl
theorem f42_3 : fOff Tryz.prog 42 3 = some 6 := by kernel_rfl
theorem f42_4 : fOff Tryz.prog 42 4 = some 7 := by kernel_rfl
theorem f42_5 : fOff Tryz.prog 42 5 = some 8 := by kernel_rfl
theorem f42_6 : fOff Tryz.prog 42 6 = some 9 := by kernel_rfl
theorem f49_0 : fOff Tryz.prog 49 0 = some 0 := by kernel_rfl
theorem f49_1 : fOff Tryz.prog 49 1 = some 1 := by kernel_rfl
theorem f49_2 : fOff Tryz.prog 49 2 = some 2 := by kernel_rfl
theorem f49_4 : fOff Tryz.prog 49 4 = some 4 := by kernel_rfl
theorem f55_0 : fOff Tryz.prog 55 0 = some 0 := by kernel_rfl
theorem f55_1 : fOff Tryz.prog 55 1 = some 1 := by kernel_rfl
theorem f55_2 : fOff Tryz.prog 55 2 = some 2 := by kernel_rfl
theorem f55_3 : fOff Tryz.prog 55 3 = some 3 := by kernel_rfl
theorem f55_4 : fOff Tryz.prog 55 4 = some 4 := by kernel_rfl
theorem f55_5 : fOff Tryz.prog 55 5 = some 5 := by kernel_rfl
theorem f55_6 : fOff Tryz.prog 55 6 = some 6 := by kernel_rfl
theorem f63_0 : fOff Tryz.prog 63 0 = some 0 := by kernel_rfl
theorem f63_1 : fOff Tryz.prog 63 1 = some 1 := by kernel_rfl
theorem f63_2 : fOff Tryz.prog 63 2 = some 2 := by kernel_rfl
theorem f63_3 : fOff Tryz.prog 63 3 = some 3 := by kernel_rfl
theorem f63_4 : fOff Tryz.prog 63 4 = some 4 := by kernel_rfl
theorem f78_0 : fOff Tryz.prog 78 0 = some 0 := by kernel_rfl
theorem f78_1 : fOff Tryz.prog 78 1 = some 12 := by kernel_rfl
theorem f78_2 : fOff Tryz.prog 78 2 = some 13 := by kernel_rfl
theorem f78_3 : fOff Tryz.prog 78 3 = some 14 := by kernel_rfl
theorem f78_4 : fOff Tryz.prog 78 4 = some 15 := by kernel_rfl
theorem f78_5 : fOff Tryz.prog 78 5 = some 28 := by kernel_rfl
theorem f78_6 : fOff Tryz.prog 78 6 = some 41 := by kernel_rfl
theorem f78_7 : fOff Tryz.prog 78 7 = some 54 := by kernel_rfl
theorem f78_8 : fOff Tryz.prog 78 8 = some 67 := by kernel_rfl
theorem f78_9 : fOff Tryz.prog 78 9 = some 80 := by kernel_rfl
theorem f84_0 : fOff Tryz.prog 84 0 = some 0 := by kernel_rfl
theorem f84_1 : fOff Tryz.prog 84 1 = some 1 := by kernel_rfl
theorem f84_2 : fOff Tryz.prog 84 2 = some 625 := by kernel_rfl
theorem f84_3 : fOff Tryz.prog 84 3 = some 677 := by kernel_rfl
theorem f84_4 : fOff Tryz.prog 84 4 = some 678 := by kernel_rfl
theorem f84_5 : fOff Tryz.prog 84 5 = some 679 := by kernel_rfl
theorem f84_6 : fOff Tryz.prog 84 6 = some 680 := by kernel_rfl
theorem f84_7 : fOff Tryz.prog 84 7 = some 706 := by kernel_rfl
theorem f87_0 : fOff Tryz.prog 87 0 = some 0 := by kernel_rfl
theorem f87_1 : fOff Tryz.prog 87 1 = some 1 := by kernel_rfl
theorem f87_2 : fOff Tryz.prog 87 2 = some 2 := by kernel_rfl
theorem f87_3 : fOff Tryz.prog 87 3 = some 3 := by kernel_rfl
theorem f91_0 : fOff Tryz.prog 91 0 = some 0 := by kernel_rfl
theorem f91_1 : fOff Tryz.prog 91 1 = some 1 := by kernel_rfl
theorem f91_2 : fOff Tryz.prog 91 2 = some 53 := by kernel_rfl
theorem f91_3 : fOff Tryz.prog 91 3 = some 105 := by kernel_rfl
theorem f91_4 : fOff Tryz.prog 91 4 = some 157 := by kernel_rfl
theorem hb10 : hasB Tryz.prog 10 = true := by kernel_rfl
theorem hb100 : hasB Tryz.prog 100 = true := by kernel_rfl
theorem hb101 : hasB Tryz.prog 101 = true := by kernel_rfl
theorem hb102 : hasB Tryz.prog 102 = true := by kernel_rfl
theorem hb103 : hasB Tryz.prog 103 = true := by kernel_rfl
theorem hb104 : hasB Tryz.prog 104 = true := by kernel_rfl
theorem hb105 : hasB Tryz.prog 105 = true := by kernel_rfl
theorem hb106 : hasB Tryz.prog 106 = true := by kernel_rfl
theorem hb107 : hasB Tryz.prog 107 = true := by kernel_rfl
theorem hb108 : hasB Tryz.prog 108 = true := by kernel_rfl
theorem hb109 : hasB Tryz.prog 109 = true := by kernel_rfl
theorem hb11 : hasB Tryz.prog 11 = true := by kernel_rfl
theorem hb110 : hasB Tryz.prog 110 = true := by kernel_rfl
theorem hb111 : hasB Tryz.prog 111 = true := by kernel_rfl
theorem hb112 : hasB Tryz.prog 112 = true := by kernel_rfl
theorem hb113 : hasB Tryz.prog 113 = true := by kernel_rfl
theorem hb114 : hasB Tryz.prog 114 = true := by kernel_rfl
theorem hb115 : hasB Tryz.prog 115 = true := by kernel_rfl
theorem hb116 : hasB Tryz.prog 116 = true := by kernel_rfl
theorem hb117 : hasB Tryz.prog 117 = true := by kernel_rfl
theorem hb118 : hasB Tryz.prog 118 = true := by kernel_rfl
theorem hb119 : hasB Tryz.prog 119 = true := by kernel_rfl
theorem hb12 : hasB Tryz.prog 12 = true := by kernel_rfl
theorem hb120 : hasB Tryz.prog 120 = true := by kernel_rfl
theorem hb121 : hasB Tryz.prog 121 = true := by kernel_rfl
theorem hb122 : hasB Tryz.prog 122 = true := by kernel_rfl
theorem hb123 : hasB Tryz.prog 123 = true := by kernel_rfl
theorem hb124 : hasB Tryz.prog 124 = true := by kernel_rfl
theorem hb125 : hasB Tryz.prog 125 = true := by kernel_rfl
theorem hb126 : hasB Tryz.prog 126 = true := by kernel_rfl
theorem hb127 : hasB Tryz.prog 127 = true := by kernel_rfl
theorem hb128 : hasB Tryz.prog 128 = true := by kernel_rfl
theorem hb129 : hasB Tryz.prog 129 = true := by kernel_rfl
theorem hb13 : hasB Tryz.prog 13 = true := by kernel_rfl
theorem hb130 : hasB Tryz.prog 130 = true := by kernel_rfl
theorem hb131 : hasB Tryz.prog 131 = true := by kernel_rfl
theorem hb132 : hasB Tryz.prog 132 = true := by kernel_rfl
theorem hb133 : hasB Tryz.prog 133 = true := by kernel_rfl
theorem hb134 : hasB Tryz.prog 134 = true := by kernel_rfl
theorem hb135 : hasB Tryz.prog 135 = true := by kernel_rfl
theorem hb136 : hasB Tryz.prog 136 = true := by kernel_rfl
theorem hb137 : hasB Tryz.prog 137 = true := by kernel_rfl
theorem hb138 : hasB Tryz.prog 138 = true := by kernel_rfl
theorem hb139 : hasB Tryz.prog 139 = true := by kernel_rfl
theorem hb14 : hasB Tryz.prog 14 = true := by kernel_rfl
theorem hb140 : hasB Tryz.prog 140 = true := by kernel_rfl
theorem hb15 : hasB Tryz.prog 15 = true := by kernel_rfl
theorem hb16 : hasB Tryz.prog 16 = true := by kernel_rfl
theorem hb17 : hasB Tryz.prog 17 = true := by kernel_rfl
theorem hb18 : hasB Tryz.prog 18 = true := by kernel_rfl
theorem hb19 : hasB Tryz.prog 19 = true := by kernel_rfl
theorem hb20 : hasB Tryz.prog 20 = true := by kernel_rfl
theorem hb21 : hasB Tryz.prog 21 = true := by kernel_rfl
theorem hb22 : hasB Tryz.prog 22 = true := by kernel_rfl
theorem hb23 : hasB Tryz.prog 23 = true := by kernel_rfl
theorem hb24 : hasB Tryz.prog 24 = true := by kernel_rfl
theorem hb25 : hasB Tryz.prog 25 = true := by kernel_rfl
theorem hb26 : hasB Tryz.prog 26 = true := by kernel_rfl
theorem hb27 : hasB Tryz.prog 27 = true := by kernel_rfl
theorem hb28 : hasB Tryz.prog 28 = true := by kernel_rfl
theorem hb29 : hasB Tryz.prog 29 = true := by kernel_rfl
theorem hb3 : hasB Tryz.prog 3 = true := by kernel_rfl
theorem hb30 : hasB Tryz.prog 30 = true := by kernel_rfl
theorem hb31 : hasB Tryz.prog 31 = true := by kernel_rfl
theorem hb32 : hasB Tryz.prog 32 = true := by kernel_rfl
theorem hb33 : hasB Tryz.prog 33 = true := by kernel_rfl
theorem hb34 : hasB Tryz.prog 34 = true := by kernel_rfl
theorem hb35 : hasB Tryz.prog 35 = true := by kernel_rfl
theorem hb36 : hasB Tryz.prog 36 = true := by kernel_rfl
theorem hb37 : hasB Tryz.prog 37 = true := by kernel_rfl
theorem hb38 : hasB Tryz.prog 38 = true := by kernel_rfl
theorem hb39 : hasB Tryz.prog 39 = true := by kernel_rfl
theorem hb4 : hasB Tryz.prog 4 = true := by kernel_rfl
theorem hb40 : hasB Tryz.prog 40 = true := by kernel_rfl
theorem hb41 : hasB Tryz.prog 41 = true := by kernel_rfl
theorem hb42 : hasB Tryz.prog 42 = true := by kernel_rfl
theorem hb43 : hasB Tryz.prog 43 = true := by kernel_rfl
theorem hb44 : hasB Tryz.prog 44 = true := by kernel_rfl
theorem hb45 : hasB Tryz.prog 45 = true := by kernel_rfl
theorem hb46 : hasB Tryz.prog 46 = true := by kernel_rfl
theorem hb47 : hasB Tryz.prog 47 = true := by kernel_rfl
theorem hb48 : hasB Tryz.prog 48 = true := by kernel_rfl
theorem hb49 : hasB Tryz.prog 49 = true := by kernel_rfl
theorem hb5 : hasB Tryz.prog 5 = true := by kernel_rfl
theorem hb50 : hasB Tryz.prog 50 = true := by kernel_rfl
theorem hb51 : hasB Tryz.prog 51 = true := by kernel_rfl
theorem hb52 : hasB Tryz.prog 52 = true := by kernel_rfl
theorem hb53 : hasB Tryz.prog 53 = true := by kernel_rfl
theorem hb54 : hasB Tryz.prog 54 = true := by kernel_rfl
theorem hb55 : hasB Tryz.prog 55 = true := by kernel_rfl
theorem hb56 : hasB Tryz.prog 56 = true := by kernel_rfl
theorem hb57 : hasB Tryz.prog 57 = true := by kernel_rfl
theorem hb58 : hasB Tryz.prog 58 = true := by kernel_rfl
theorem hb59 : hasB Tryz.prog 59 = true := by kernel_rfl
theorem hb6 : hasB Tryz.prog 6 = true := by kernel_rfl
theorem hb60 : hasB Tryz.prog 60 = true := by kernel_rfl
theorem hb61 : hasB Tryz.prog 61 = true := by kernel_rfl
theorem hb62 : hasB Tryz.prog 62 = true := by kernel_rfl
theorem hb63 : hasB Tryz.prog 63 = true := by kernel_rfl
theorem hb64 : hasB Tryz.prog 64 = true := by kernel_rfl
theorem hb65 : hasB Tryz.prog 65 = true := by kernel_rfl
theorem hb66 : hasB Tryz.prog 66 = true := by kernel_rfl
theorem hb67 : hasB Tryz.prog 67 = true := by kernel_rfl
theorem hb68 : hasB Tryz.prog 68 = true := by kernel_rfl
theorem hb69 : hasB Tryz.prog 69 = true := by kernel_rfl
theorem hb7 : hasB Tryz.prog 7 = true := by kernel_rfl
theorem hb70 : hasB Tryz.prog 70 = true := by kernel_rfl
theorem hb71 : hasB Tryz.prog 71 = true := by kernel_rfl
theorem hb72 : hasB Tryz.prog 72 = true := by kernel_rfl
theorem hb73 : hasB Tryz.prog 73 = true := by kernel_rfl
theorem hb74 : hasB Tryz.prog 74 = true := by kernel_rfl
theorem hb75 : hasB Tryz.prog 75 = true := by kernel_rfl
theorem hb76 : hasB Tryz.prog 76 = true := by kernel_rfl
theorem hb77 : hasB Tryz.prog 77 = true := by kernel_rfl
theorem hb78 : hasB Tryz.prog 78 = true := by kernel_rfl
theorem hb79 : hasB Tryz.prog 79 = true := by kernel_rfl
theorem hb8 : hasB Tryz.prog 8 = true := by kernel_rfl
theorem hb80 : hasB Tryz.prog 80 = true := by kernel_rfl
theorem hb81 : hasB Tryz.prog 81 = true := by kernel_rfl
theorem hb82 : hasB Tryz.prog 82 = true := by kernel_rfl
theorem hb83 : hasB Tryz.prog 83 = true := by kernel_rfl
theorem hb84 : hasB Tryz.prog 84 = true := by kernel_rfl
theorem hb85 : hasB Tryz.prog 85 = true := by kernel_rfl
theorem hb86 : hasB Tryz.prog 86 = true := by kernel_rfl
theorem hb87 : hasB Tryz.prog 87 = true := by kernel_rfl
theorem hb88 : hasB Tryz.prog 88 = true := by kernel_rfl
theorem hb89 : hasB Tryz.prog 89 = true := by kernel_rfl
theorem hb9 : hasB Tryz.prog 9 = true := by kernel_rfl
theorem hb90 : hasB Tryz.prog 90 = true := by kernel_rfl
theorem hb91 : hasB Tryz.prog 91 = true := by kernel_rfl
theorem hb92 : hasB Tryz.prog 92 = true := by kernel_rfl
theorem hb93 : hasB Tryz.prog 93 = true := by kernel_rfl
theorem hb94 : hasB Tryz.prog 94 = true := by kernel_rfl
theorem hb95 : hasB Tryz.prog 95 = true := by kernel_rfl
theorem hb96 : hasB Tryz.prog 96 = true := by kernel_rfl
theorem hb97 : hasB Tryz.prog 97 = true := by kernel_rfl
theorem hb98 : hasB Tryz.prog 98 = true := by kernel_rfl
theorem hb99 : hasB Tryz.prog 99 = true := by kernel_rfl
theorem in111 : inK Tryz.prog 111 = some .u64 := by kernel_rfl
theorem in3 : inK Tryz.prog 3 = some .i64 := by kernel_rfl
theorem in69 : inK Tryz.prog 69 = none := by kernel_rfl
theorem kd111 : kd Tryz.prog 111 = 9 := by kernel_rfl
theorem kd22 : kd Tryz.prog 22 = 4 := by kernel_rfl
theorem kd3 : kd Tryz.prog 3 = 9 := by kernel_rfl
theorem kd39 : kd Tryz.prog 39 = 4 := by kernel_rfl
theorem kd4 : kd Tryz.prog 4 = 2 := by kernel_rfl
theorem kd40 : kd Tryz.prog 40 = 4 := by kernel_rfl
theorem kd69 : kd Tryz.prog 69 = 1 := by kernel_rfl
theorem kd74 : kd Tryz.prog 74 = 9 := by kernel_rfl
theorem kd85 : kd Tryz.prog 85 = 4 := by kernel_rfl
theorem kd9 : kd Tryz.prog 9 = 0 := by kernel_rfl
theorem mix : Tryz.prog.follows .mixedOrders = true := by kernel_rfl
theorem ni39 : ∀ k, Tryz.prog.underlying 39 ≠ some (.int k) := by intro k; rw [show Tryz.prog.underlying 39 = some (.slice 3) from by kernel_rfl]; simp
theorem ni40 : ∀ k, Tryz.prog.underlying 40 ≠ some (.int k) := by intro k; rw [show Tryz.prog.underlying 40 = some (.slice 39) from by kernel_rfl]; simp
theorem ni85 : ∀ k, Tryz.prog.underlying 85 ≠ some (.int k) := by intro k; rw [show Tryz.prog.underlying 85 = some (.slice 114) from by kernel_rfl]; simp
theorem sz104 : sz Tryz.prog 104 = some 4 := by kernel_rfl
theorem sz3 : sz Tryz.prog 3 = some 1 := by kernel_rfl
theorem sz31 : sz Tryz.prog 31 = some 2 := by kernel_rfl
theorem sz33 : sz Tryz.prog 33 = some 1 := by kernel_rfl
theorem sz38 : sz Tryz.prog 38 = some 3 := by kernel_rfl
theorem sz39 : sz Tryz.prog 39 = some 1 := by kernel_rfl
theorem sz4 : sz Tryz.prog 4 = some 1 := by kernel_rfl
theorem sz40 : sz Tryz.prog 40 = some 1 := by kernel_rfl
theorem sz53 : sz Tryz.prog 53 = some 1 := by kernel_rfl
theorem sz74 : sz Tryz.prog 74 = some 1 := by kernel_rfl
theorem sz81 : sz Tryz.prog 81 = some 1 := by kernel_rfl
theorem sz85 : sz Tryz.prog 85 = some 1 := by kernel_rfl
theorem us3 : (Tryz.prog.underlying 3).isSome = true := by kernel_rfl
theorem us39 : (Tryz.prog.underlying 39).isSome = true := by kernel_rfl
theorem us40 : (Tryz.prog.underlying 40).isSome = true := by kernel_rfl
theorem us74 : (Tryz.prog.underlying 74).isSome = true := by kernel_rfl
theorem us85 : (Tryz.prog.underlying 85).isSome = true := by kernel_rfl
theorem us9 : (Tryz.prog.underlying 9).isSome = true := by kernel_rfl
theorem z104 : zV Tryz.prog 104 = some (.agg #[.int .i64 0, .slice none 0 0, .int .i64 0, .int .i64 0]) := by kernel_rfl
theorem z31 : zV Tryz.prog 31 = some (.agg #[.pointer none, .pointer none]) := by kernel_rfl
theorem z38 : zV Tryz.prog 38 = some (.agg #[.pointer none, .pointer none, .pointer none]) := by kernel_rfl
end Go.Proofs.Qxb6500400aGreat.T
