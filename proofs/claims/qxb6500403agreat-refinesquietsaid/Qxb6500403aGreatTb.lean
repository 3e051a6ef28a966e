import Derived.Test.Qxb6500403aGreatProg
import Derived.Test.Qxb6500403aGreatEc
set_option linter.unusedVariables false
namespace Go.Proofs.Qxb6500403aGreat.T
open Go.Eng
theorem ag102 : agS Tryz.prog 102 = some none := by kernel_rfl
theorem ag106 : agS Tryz.prog 106 = some (some 3) := by kernel_rfl
theorem ag3 : agS Tryz.prog 3 = some none := by kernel_rfl
theorem ag32 : agS Tryz.prog 32 = some (some 6) := by kernel_rfl
theorem ag33 : agS Tryz.prog 33 = some none := by kernel_rfl
theorem ag34 : agS Tryz.prog 34 = some none := by kernel_rfl
theorem ag36 : agS Tryz.prog 36 = some (some 2) := by kernel_rfl
theorem ag39 : agS Tryz.prog 39 = some none := by kernel_rfl
theorem ag4 : agS Tryz.prog 4 = some none := by kernel_rfl
theorem ag41 : agS Tryz.prog 41 = some (some 1) := by kernel_rfl
theorem ag42 : agS Tryz.prog 42 = some none := by kernel_rfl
theorem ag43 : agS Tryz.prog 43 = some none := by kernel_rfl
theorem ag44 : agS Tryz.prog 44 = some none := by kernel_rfl
theorem ag46 : agS Tryz.prog 46 = some (some 2) := by kernel_rfl
theorem ag70 : agS Tryz.prog 70 = some none := by kernel_rfl
theorem ag95 : agS Tryz.prog 95 = some none := by kernel_rfl
theorem ar68 : arS Tryz.prog 68 = some (624, 1) := by kernel_rfl
theorem ar69 : arS Tryz.prog 69 = some (52, 1) := by kernel_rfl
theorem ar71 : arS Tryz.prog 71 = some (26, 1) := by kernel_rfl
theorem ar90 : arS Tryz.prog 90 = some (52, 1) := by kernel_rfl
theorem ar91 : arS Tryz.prog 91 = some (52, 1) := by kernel_rfl
theorem ar96 : arS Tryz.prog 96 = some (12, 1) := by kernel_rfl
theorem ar97 : arS Tryz.prog 97 = some (13, 1) := by kernel_rfl
theorem ar98 : arS Tryz.prog 98 = some (13, 1) := by kernel_rfl
theorem bld100 : buildV Tryz.prog 100 [] = some (.agg #[.int .i64 0, .int .i64 0, .int .i64 0, .int .i64 0, .int .i64 0, .int .i64 0, .int .i64 0, .int .i64 0, .int .i64 0, .int .i64 0, .int .i64 0, .int .i64 0, .int .i64 0, .int .i64 0, .int .i64 0, .int .i8 0, .int .i8 0, .int .i8 0, .int .i8 0, .int .i8 0, .int .i8 0, .int .i8 0, .int .i8 0, .int .i8 0, .int .i8 0, .int .i8 0, .int .i8 0, .int .i8 0, .int .i64 0, .int .i64 0, .int .i64 0, .int .i64 0, .int .i64 0, .int .i64 0, .int .i64 0, .int .i64 0, .int .i64 0, .int .i64 0, .int .i64 0, .int .i64 0, .int .i64 0, .int .i64 0, .int .i64 0, .int .i64 0, .int .i64 0, .int .i64 0, .int .i64 0, .int .i64 0, .int .i64 0, .int .i64 0, .int .i64 0, .int .i64 0, .int .i64 0, .int .i64 0, .int .i64 0, .int .i64 0, .int .i64 0, .int .i64 0, .int .i64 0, .int .i64 0, .int .i64 0, .int .i64 0, .int .i64 0, .int .i64 0, .int .i64 0, .int .i64 0, .int .i64 0, .int .i64 0, .int .i64 0, .int .i64 0, .int .i64 0, .int .i64 0, .int .i64 0, .int .i64 0, .int .i64 0, .int .i64 0, .int .i64 0, .int .i64 0, .int .i64 0, .int .i64 0, .int .i64 0]) := by kernel_rfl
theorem bld104 : buildV Tryz.prog 104 [] = some (.agg #[.slice none 0 0, .int .i64 0, .int .i64 0, .slice none 0 0]) := by kernel_rfl
theorem bld106_0_1_2 : ∀ (x0 : Int) (x1 : Int) (x2 : Int), buildV Tryz.prog 106 [(0, .int .i64 x0), (1, .int .i64 x1), (2, .int .i64 x2)] = some (.agg #[.int .i64 x0, .int .i64 x1, .int .i64 x2]) := by intros; kernel_rfl
theorem bld36_0 : ∀ (x0 : Option Addr) (x0n x0c : Nat), buildV Tryz.prog 36 [(0, .slice x0 x0n x0c)] = some (.agg #[.slice x0 x0n x0c, .slice none 0 0]) := by intros; kernel_rfl
theorem bld41_0 : ∀ (x0 : Option Addr), buildV Tryz.prog 41 [(0, .pointer x0)] = some (.agg #[.pointer x0]) := by intros; kernel_rfl
theorem bld46_0_1 : ∀ (x0 : Option Addr) (x1 : Option Addr), buildV Tryz.prog 46 [(0, .pointer x0), (1, .pointer x1)] = some (.agg #[.pointer x0, .pointer x1]) := by intros; kernel_rfl
theorem bld48 : buildV Tryz.prog 48 [] = some (.agg #[.pointer none, .pointer none, .pointer none, .pointer none, .slice none 0 0, .slice none 0 0, .int .i64 0, .bool false]) := by kernel_rfl
theorem bld73_0 : ∀ (x0 : Option Addr), buildV Tryz.prog 73 [(0, .pointer x0)] = some (.agg #[.pointer x0, .int .i64 0, .int .i64 0, .int .i64 0, .int .i64 0, .int .i64 0, .int .i64 0, .int .i64 0, .int .i64 0, .int .i64 0, .int .i64 0, .int .i64 0, .int .i64 0, .int .i64 0, .int .i64 0, .int .i64 0, .int .i64 0, .int .i64 0, .int .i64 0, .int .i64 0, .int .i64 0, .int .i64 0, .int .i64 0, .int .i64 0, .int .i64 0, .int .i64 0, .int .i64 0, .int .i64 0, .int .i64 0, .int .i64 0, .int .i64 0, .int .i64 0, .int .i64 0, .int .i64 0, .int .i64 0, .int .i64 0, .int .i64 0, .int .i64 0, .int .i64 0, .int .i64 0, .int .i64 0, .int .i64 0, .int .i64 0, .int .i64 0, .int .i64 0, .int .i64 0, .int .i64 0, .int .i64 0, .int .i64 0, .int .i64 0, .int .i64 0, .int .i64 0, .int .i64 0, .int .i64 0, .int .i64 0, .int .i64 0, .int .i64 0, .int .i64 0, .int .i64 0, .int .i64 0, .int .i64 0, .int .i64 0, .int .i64 0, .int .i64 0, .int .i64 0, .int .i64 0, .int .i64 0, .int .i64 0, .int .i64 0, .int .i64 0, .int .i64 0, .int .i64 0, .int .i64 0, .int .i64 0, .int .i64 0, .int .i64 0, .int .i64 0, .int .i64 0, .int .i64 0, .int .i64 0, .int .i64 0, .int .i64 0, .int .i64 0, .int .i64 0, .int .i64 0, .int .i64 0, .int .i64 0, .int .i64 0, .int .i64 0, .int .i64 0, .int .i64 0, .int .i64 0, .int .i64 0, .int .i64 0, .int .i64 0, .int .i64 0, .int .i64 0, .int .i64 0, .int .i64 0, .int .i64 0, .int .i64 0, .int .i64 0, .int .i64 0, .int .i64 0, .int .i64 0, .int .i64 0, .int .i64 0, .int .i64 0, .int .i64 0, .int .i64 0, .int .i64 0, .int .i64 0, .int .i64 0, .int .i64 0, .int .i64 0, .int .i64 0, .int .i64 0, .int .i64 0, .int .i64 0, .int .i64 0, .int .i64 0, .int .i64 0, .int .i64 0, .int .i64 0, .int .i64 0, .int .i64 0, .int .i64 0, .int .i64 0, .int .i64 0, .int .i64 0, .int .i64 0, .int .i64 0, .int .i64 0, .int .i64 0, .int .i64 0, .int .i64 0, .int .i64 0, .int .i64 0, .int .i64 0, .int .i64 0, .int .i64 0, .int .i64 0, .int .i64 0, .int .i64 0, .int .i64 0, .int .i64 0, .int .i64 0, .int .i64 0, .int .i64 0, .int .i64 0, .int .i64 0, .int .i64 0, .int .i64 0, .int .i64 0, .int .i64 0, .int .i64 0, .int .i64 0, .int .i64 0, .int .i64 0, .int .i64 0, .int .i64 0, .int .i64 0, .int .i64 0, .int .i64 0, .int .i64 0, .int .i64 0, .int .i64 0, .int .i64 0, .int .i64 0, .int .i64 0, .int .i64 0, .int .i64 0, .int .i64 0, .int .i64 0, .int .i64 0, .int .i64 0, .int .i64 0, .int .i64 0, .int .i64 0, .int .i64 0, .int .i64 0, .int .i64 0, .int .i64 0, .int .i64 0, .int .i64 0, .int .i64 0, .int .i64 0, .int .i64 0, .int .i64 0, .int .i64 0, .int .i64 0, .int .i64 0, .int .i64 0, .int .i64 0, .int .i64 0, .int .i64 0, .int .i64 0, .int .i64 0, .int .i64 0, .int .i64 0, .int .i64 0, .int .i64 0, .int .i64 0, .int .i64 0, .int .i64 0, .int .i64 0, .int .i64 0, .int .i64 0, .int .i64 0, .int .i64 0, .int .i64 0, .int .i64 0, .int .i64 0, .int .i64 0, .int .i64 0, .int .i64 0, .int .i64 0, .int .i64 0, .int .i64 0, .int .i64 0, .int .i64 0, .int .i64 0, .int .i64 0, .int .i64 0, .int .i64 0, .int .i64 0, .int .i64 0, .int .i64 0, .int .i64 0, .int .i64 0, .int .i64 0, .int .i64 0, .int .i64 0, .int .i64 0, .int .i64 0, .int .i64 0, .int .i64 0, .int .i64 0, .int .i64 0, .int .i64 0, .int .i64 0, .int .i64 0, .int .i64 0, .int .i64 0, .int .i64 0, .int .i64 0, .int .i64 0, .int .i64 0, .int .i64 0, .int .i64 0, .int .i64 0, .int .i64 0, .int .i64 0, .int .i64 0, .int .i64 0, .int .i64 0, .int .i64 0, .int .i64 0, .int .i64 0, .int .i64 0, .int .i64 0, .int .i64 0, .int .i64 0, .int .i64 0, .int .i64 0, .int .i64 0, .int .i64 0, .int .i64 0, .int .i64 0, .int .i64 0, .int .i64 0, .int .i64 0, .int .i64 0, .int .i64 0, .int .i64 0, .int .i64 0, .int .i64 0, .int .i64 0, .int .i64 0, .int .i64 0, .int .i64 0, .int .i64 0, .int .i64 0, .int .i64 0, .int .i64 0, .int .i64 0, .int .i64 0, .int .i64 0, .int .i64 0, .int .i64 0, .int .i64 0, .int .i64 0, .int .i64 0, .int .i64 0, .int .i64 0, .int .i64 0, .int .i64 0, .int .i64 0, .int .i64 0, .int .i64 0, .int .i64 0, .int .i64 0, .int .i64 0, .int .i64 0, .int .i64 0, .int .i64 0, .int .i64 0, .int .i64 0, .int .i64 0, .int .i64 0, .int .i64 0, .int .i64 0, .int .i64 0, .int .i64 0, .int .i64 0, .int .i64 0, .int .i64 0, .int .i64 0, .int .i64 0, .int .i64 0, .int .i64 0, .int .i64 0, .int .i64 0, .int .i64 0, .int .i64 0, .int .i64 0, .int .i64 0, .int .i64 0, .int .i64 0, .int .i64 0, .int .i64 0, .int .i64 0, .int .i64 0, .int .i64 0, .int .i64 0, .int .i64 0, .int .i64 0, .int .i64 0, .int .i64 0, .int .i64 0, .int .i64 0, .int .i64 0, .int .i64 0, .int .i64 0, .int .i64 0, .int .i64 0, .int .i64 0, .int .i64 0, .int .i64 0, .int .i64 0, .int .i64 0, .int .i64 0, .int .i64 0, .int .i64 0, .int .i64 0, .int .i64 0, .int .i64 0, .int .i64 0, .int .i64 0, .int .i64 0, .int .i64 0, .int .i64 0, .int .i64 0, .int .i64 0, .int .i64 0, .int .i64 0, .int .i64 0, .int .i64 0, .int .i64 0, .int .i64 0, .int .i64 0, .int .i64 0, .int .i64 0, .int .i64 0, .int .i64 0, .int .i64 0, .int .i64 0, .int .i64 0, .int .i64 0, .int .i64 0, .int .i64 0, .int .i64 0, .int .i64 0, .int .i64 0, .int .i64 0, .int .i64 0, .int .i64 0, .int .i64 0, .int .i64 0, .int .i64 0, .int .i64 0, .int .i64 0, .int .i64 0, .int .i64 0, .int .i64 0, .int .i64 0, .int .i64 0, .int .i64 0, .int .i64 0, .int .i64 0, .int .i64 0, .int .i64 0, .int .i64 0, .int .i64 0, .int .i64 0, .int .i64 0, .int .i64 0, .int .i64 0, .int .i64 0, .int .i64 0, .int .i64 0, .int .i64 0, .int .i64 0, .int .i64 0, .int .i64 0, .int .i64 0, .int .i64 0, .int .i64 0, .int .i64 0, .int .i64 0, .int .i64 0, .int .i64 0, .int .i64 0, .int .i64 0, .int .i64 0, .int .i64 0, .int .i64 0, .int .i64 0, .int .i64 0, .int .i64 0, .int .i64 0, .int .i64 0, .int .i64 0, .int .i64 0, .int .i64 0, .int .i64 0, .int .i64 0, .int .i64 0, .int .i64 0, .int .i64 0, .int .i64 0, .int .i64 0, .int .i64 0, .int .i64 0, .int .i64 0, .int .i64 0, .int .i64 0, .int .i64 0, .int .i64 0, .int .i64 0, .int .i64 0, .int .i64 0, .int .i64 0, .int .i64 0, .int .i64 0, .int .i64 0, .int .i64 0, .int .i64 0, .int .i64 0, .int .i64 0, .int .i64 0, .int .i64 0, .int .i64 0, .int .i64 0, .int .i64 0, .int .i64 0, .int .i64 0, .int .i64 0, .int .i64 0, .int .i64 0, .int .i64 0, .int .i64 0, .int .i64 0, .int .i64 0, .int .i64 0, .int .i64 0, .int .i64 0, .int .i64 0, .int .i64 0, .int .i64 0, .int .i64 0, .int .i64 0, .int .i64 0, .int .i64 0, .int .i64 0, .int .i64 0, .int .i64 0, .int .i64 0, .int .i64 0, .int .i64 0, .int .i64 0, .int .i64 0, .int .i64 0, .int .i64 0, .int .i64 0, .int .i64 0, .int .i64 0, .int .i64 0, .int .i64 0, .int .i64 0, .int .i64 0, .int .i64 0, .int .i64 0, .int .i64 0, .int .i64 0, .int .i64 0, .int .i64 0, .int .i64 0, .int .i64 0, .int .i64 0, .int .i64 0, .int .i64 0, .int .i64 0, .int .i64 0, .int .i64 0, .int .i64 0, .int .i64 0, .int .i64 0, .int .i64 0, .int .i64 0, .int .i64 0, .int .i64 0, .int .i64 0, .int .i64 0, .int .i64 0, .int .i64 0, .int .i64 0, .int .i64 0, .int .i64 0, .int .i64 0, .int .i64 0, .int .i64 0, .int .i64 0, .int .i64 0, .int .i64 0, .int .i64 0, .int .i64 0, .int .i64 0, .int .i64 0, .int .i64 0, .int .i64 0, .int .i64 0, .int .i64 0, .int .i64 0, .int .i64 0, .int .i64 0, .int .i64 0, .int .i64 0, .int .i64 0, .int .i64 0, .int .i64 0, .int .i64 0, .int .i64 0, .int .i64 0, .int .i64 0, .int .i64 0, .int .i64 0, .int .i64 0, .int .i64 0, .int .i64 0, .int .i64 0, .int .i64 0, .int .i64 0, .int .i64 0, .int .i64 0, .int .i64 0, .int .i64 0, .int .i64 0, .int .i64 0, .int .i64 0, .int .i64 0, .int .i64 0, .int .i64 0, .int .i64 0, .int .i64 0, .int .i64 0, .int .i64 0, .int .i64 0, .int .i64 0, .int .i64 0, .int .i64 0, .int .i64 0, .int .i64 0, .int .i64 0, .int .i64 0, .int .i64 0, .int .i64 0, .int .i64 0, .int .i64 0, .int .i64 0, .int .i64 0, .int .i64 0, .int .i64 0, .int .i64 0, .int .i64 0, .int .i64 0, .int .i64 0, .int .i64 0, .int .i64 0, .int .i64 0, .int .i64 0, .int .i64 0, .int .i64 0, .int .i64 0, .int .i64 0, .int .i64 0, .int .i64 0, .int .i64 0, .int .i64 0, .int .i64 0, .int .i64 0, .int .i64 0, .int .i64 0, .int .i64 0, .int .i64 0, .int .i64 0, .int .i64 0, .int .i64 0, .int .i64 0, .int .i64 0, .int .i64 0, .int .i64 0, .int .i64 0, .int .i64 0, .int .i64 0, .int .i64 0, .int .i64 0, .int .i64 0, .int .i64 0, .int .i64 0, .int .i64 0, .int .i64 0, .int .i64 0, .int .i64 0, .int .i64 0, .int .i64 0, .int .i64 0, .int .i64 0, .int .i64 0, .int .i64 0, .int .i64 0, .int .i64 0, .int .i64 0, .int .i64 0, .int .i64 0, .int .i64 0, .int .i64 0, .int .i64 0, .int .i64 0, .int .i64 0, .int .i64 0, .int .i64 0, .int .i64 0, .int .i64 0, .int .i64 0, .int .i64 0, .int .i64 0, .int .i64 0, .int .i64 0, .int .i64 0, .int .i64 0, .int .i64 0, .int .i64 0, .int .i64 0, .int .i64 0, .int .i64 0, .int .i64 0, .int .i64 0, .int .i64 0, .int .i64 0, .int .i64 0, .int .i64 0, .int .i64 0, .int .i64 0, .int .i64 0, .int .i64 0, .int .i64 0, .int .u64 0, .int .u64 0, .int .u64 0, .int .u64 0, .int .u64 0, .int .u64 0, .int .u64 0, .int .u64 0, .int .u64 0, .int .u64 0, .int .u64 0, .int .u64 0, .int .u64 0, .int .u64 0, .int .u64 0, .int .u64 0, .int .u64 0, .int .u64 0, .int .u64 0, .int .u64 0, .int .u64 0, .int .u64 0, .int .u64 0, .int .u64 0, .int .u64 0, .int .u64 0, .int .u64 0, .int .u64 0, .int .u64 0, .int .i64 0]) := by intros; kernel_rfl
theorem bld94_0 : ∀ (x0 : Option Addr), buildV Tryz.prog 94 [(0, .pointer x0)] = some (.agg #[.pointer x0, .bool false, .bool false, .bool false, .bool false, .bool false, .bool false, .bool false, .bool false, .bool false, .bool false, .bool false, .bool false, .bool false, .bool false, .bool false, .bool false, .bool false, .bool false, .bool false, .bool false, .bool false, .bool false, .bool false, .bool false, .bool false, .bool false, .bool false, .bool false, .bool false, .bool false, .bool false, .bool false, .bool false, .bool false, .bool false, .bool false, .bool false, .bool false, .bool false, .bool false, .bool false, .bool false, .bool false, .bool false, .bool false, .bool false, .bool false, .bool false, .bool false, .bool false, .bool false, .bool false, .slice none 0 0, .slice none 0 0, .slice none 0 0, .slice none 0 0, .slice none 0 0, .slice none 0 0, .slice none 0 0, .slice none 0 0, .slice none 0 0, .slice none 0 0, .slice none 0 0, .slice none 0 0, .slice none 0 0, .slice none 0 0, .slice none 0 0, .slice none 0 0, .slice none 0 0, .slice none 0 0, .slice none 0 0, .slice none 0 0, .slice none 0 0, .slice none 0 0, .slice none 0 0, .slice none 0 0, .slice none 0 0, .slice none 0 0, .slice none 0 0, .slice none 0 0, .slice none 0 0, .slice none 0 0, .slice none 0 0, .slice none 0 0, .slice none 0 0, .slice none 0 0, .slice none 0 0, .slice none 0 0, .slice none 0 0, .slice none 0 0, .slice none 0 0, .slice none 0 0, .slice none 0 0, .slice none 0 0, .slice none 0 0, .slice none 0 0, .slice none 0 0, .slice none 0 0, .slice none 0 0, .slice none 0 0, .slice none 0 0, .slice none 0 0, .slice none 0 0, .slice none 0 0, .bool false, .bool false, .bool false, .bool false, .bool false, .bool false, .bool false, .bool false, .bool false, .bool false, .bool false, .bool false, .bool false, .bool false, .bool false, .bool false, .bool false, .bool false, .bool false, .bool false, .bool false, .bool false, .bool false, .bool false, .bool false, .bool false, .bool false, .bool false, .bool false, .bool false, .bool false, .bool false, .bool false, .bool false, .bool false, .bool false, .bool false, .bool false, .bool false, .bool false, .bool false, .bool false, .bool false, .bool false, .bool false, .bool false, .bool false, .bool false, .bool false, .bool false, .bool false, .bool false, .int .i64 0, .slice none 0 0, .int .i64 0, .int .i64 0, .int .i64 0]) := by intros; kernel_rfl
theorem bs102_1_0 : ∀ (x0_0 : Int) (x0_1 : Int) (x0_2 : Int), Instr.fill (fun i => some (i * 3, 3)) (mkZ #[.int .i64 0, .int .i64 0, .int .i64 0] (1 * 3)) [(0, .agg #[.int .i64 x0_0, .int .i64 x0_1, .int .i64 x0_2])] = some #[.int .i64 x0_0, .int .i64 x0_1, .int .i64 x0_2] := by intros; kernel_rfl
theorem bs33_1_0 : ∀ (x0 : Int), Instr.fill (fun i => some (i * 1, 1)) (mkZ #[.int .i64 0] (1 * 1)) [(0, .int .i64 x0)] = some #[.int .i64 x0] := by intros; kernel_rfl
theorem bs34_1_0 : ∀ (x0 : Option Addr) (x0n x0c : Nat), Instr.fill (fun i => some (i * 1, 1)) (mkZ #[.slice none 0 0] (1 * 1)) [(0, .slice x0 x0n x0c)] = some #[.slice x0 x0n x0c] := by intros; kernel_rfl
theorem ei102 : elI Tryz.prog 102 = some (106, 3, 24, #[.int .i64 0, .int .i64 0, .int .i64 0]) := by kernel_rfl
theorem ei33 : elI Tryz.prog 33 = some (3, 1, 8, #[.int .i64 0]) := by kernel_rfl
theorem ei34 : elI Tryz.prog 34 = some (33, 1, 24, #[.slice none 0 0]) := by kernel_rfl
theorem el102 : elS Tryz.prog 102 = some 3 := by kernel_rfl
theorem el22 : elS Tryz.prog 22 = some 6 := by kernel_rfl
theorem el33 : elS Tryz.prog 33 = some 1 := by kernel_rfl
theorem el34 : elS Tryz.prog 34 = some 1 := by kernel_rfl
theorem f100_0 : fOff Tryz.prog 100 0 = some 0 := by kernel_rfl
theorem f100_1 : fOff Tryz.prog 100 1 = some 12 := by kernel_rfl
theorem f100_2 : fOff Tryz.prog 100 2 = some 13 := by kernel_rfl
theorem f100_3 : fOff Tryz.prog 100 3 = some 14 := by kernel_rfl
theorem f100_4 : fOff Tryz.prog 100 4 = some 15 := by kernel_rfl
theorem f100_5 : fOff Tryz.prog 100 5 = some 28 := by kernel_rfl
theorem f100_6 : fOff Tryz.prog 100 6 = some 41 := by kernel_rfl
theorem f100_7 : fOff Tryz.prog 100 7 = some 54 := by kernel_rfl
theorem f100_8 : fOff Tryz.prog 100 8 = some 67 := by kernel_rfl
theorem f100_9 : fOff Tryz.prog 100 9 = some 80 := by kernel_rfl
theorem f104_0 : fOff Tryz.prog 104 0 = some 0 := by kernel_rfl
theorem f104_1 : fOff Tryz.prog 104 1 = some 1 := by kernel_rfl
theorem f104_2 : fOff Tryz.prog 104 2 = some 2 := by kernel_rfl
theorem f104_3 : fOff Tryz.prog 104 3 = some 3 := by kernel_rfl
theorem f106_0 : fOff Tryz.prog 106 0 = some 0 := by kernel_rfl
theorem f106_1 : fOff Tryz.prog 106 1 = some 1 := by kernel_rfl
theorem f106_2 : fOff Tryz.prog 106 2 = some 2 := by kernel_rfl
theorem f32_0 : fOff Tryz.prog 32 0 = some 0 := by kernel_rfl
theorem f32_1 : fOff Tryz.prog 32 1 = some 1 := by kernel_rfl
theorem f32_2 : fOff Tryz.prog 32 2 = some 2 := by kernel_rfl
theorem f36_0 : fOff Tryz.prog 36 0 = some 0 := by kernel_rfl
theorem f36_1 : fOff Tryz.prog 36 1 = some 1 := by kernel_rfl
theorem f41_0 : fOff Tryz.prog 41 0 = some 0 := by kernel_rfl
theorem f46_0 : fOff Tryz.prog 46 0 = some 0 := by kernel_rfl
theorem f46_1 : fOff Tryz.prog 46 1 = some 1 := by kernel_rfl
theorem f48_0 : fOff Tryz.prog 48 0 = some 0 := by kernel_rfl
theorem f48_1 : fOff Tryz.prog 48 1 = some 1 := by kernel_rfl
theorem f48_2 : fOff Tryz.prog 48 2 = some 2 := by kernel_rfl
theorem f48_3 : fOff Tryz.prog 48 3 = some 4 := by kernel_rfl
theorem f48_4 : fOff Tryz.prog 48 4 = some 5 := by kernel_rfl
theorem f48_5 : fOff Tryz.prog 48 5 = some 6 := by kernel_rfl
theorem f48_6 : fOff Tryz.prog 48 6 = some 7 := by kernel_rfl
theorem f73_0 : fOff Tryz.prog 73 0 = some 0 := by kernel_rfl
theorem f73_1 : fOff Tryz.prog 73 1 = some 1 := by kernel_rfl
theorem f73_2 : fOff Tryz.prog 73 2 = some 625 := by kernel_rfl
theorem f73_3 : fOff Tryz.prog 73 3 = some 677 := by kernel_rfl
theorem f73_4 : fOff Tryz.prog 73 4 = some 678 := by kernel_rfl
theorem f73_5 : fOff Tryz.prog 73 5 = some 679 := by kernel_rfl
theorem f73_6 : fOff Tryz.prog 73 6 = some 680 := by kernel_rfl
theorem f73_7 : fOff Tryz.prog 73 7 = some 706 := by kernel_rfl
theorem f94_0 : fOff Tryz.prog 94 0 = some 0 := by kernel_rfl
theorem f94_1 : fOff Tryz.prog 94 1 = some 1 := by kernel_rfl
theorem f94_2 : fOff Tryz.prog 94 2 = some 53 := by kernel_rfl
theorem f94_3 : fOff Tryz.prog 94 3 = some 105 := by kernel_rfl
theorem f94_4 : fOff Tryz.prog 94 4 = some 157 := by kernel_rfl
theorem hb10 : hasB Tryz.prog 10 = true := by kernel_rfl
theorem hb100 : hasB Tryz.prog 100 = true := by kernel_rfl
theorem hb101 : hasB Tryz.prog 101 = true := by kernel_rfl
theorem hb102 : hasB Tryz.prog 102 = true := by kernel_rfl
theorem hb103 : hasB Tryz.prog 103 = true := by kernel_rfl
theorem hb104 : hasB Tryz.prog 104 = true := by kernel_rfl
theorem hb105 : hasB Tryz.prog 105 = true := by kernel_rfl
theorem hb106 : hasB Tryz.prog 106 = true := by kernel_rfl
theorem hb107 : hasB Tryz.prog 107 = true := by kernel_rfl
theorem hb108 : hasB Tryz.prog 108 = true := by kernel_rfl
theorem hb109 : hasB Tryz.prog 109 = true := by kernel_rfl
theorem hb11 : hasB Tryz.prog 11 = true := by kernel_rfl
theorem hb110 : hasB Tryz.prog 110 = true := by kernel_rfl
theorem hb111 : hasB Tryz.prog 111 = true := by kernel_rfl
theorem hb112 : hasB Tryz.prog 112 = true := by kernel_rfl
theorem hb113 : hasB Tryz.prog 113 = true := by kernel_rfl
theorem hb114 : hasB Tryz.prog 114 = true := by kernel_rfl
theorem hb115 : hasB Tryz.prog 115 = true := by kernel_rfl
theorem hb116 : hasB Tryz.prog 116 = true := by kernel_rfl
theorem hb12 : hasB Tryz.prog 12 = true := by kernel_rfl
theorem hb13 : hasB Tryz.prog 13 = true := by kernel_rfl
theorem hb14 : hasB Tryz.prog 14 = true := by kernel_rfl
theorem hb15 : hasB Tryz.prog 15 = true := by kernel_rfl
theorem hb16 : hasB Tryz.prog 16 = true := by kernel_rfl
theorem hb17 : hasB Tryz.prog 17 = true := by kernel_rfl
theorem hb18 : hasB Tryz.prog 18 = true := by kernel_rfl
theorem hb19 : hasB Tryz.prog 19 = true := by kernel_rfl
theorem hb20 : hasB Tryz.prog 20 = true := by kernel_rfl
theorem hb21 : hasB Tryz.prog 21 = true := by kernel_rfl
theorem hb22 : hasB Tryz.prog 22 = true := by kernel_rfl
theorem hb23 : hasB Tryz.prog 23 = true := by kernel_rfl
theorem hb24 : hasB Tryz.prog 24 = true := by kernel_rfl
theorem hb25 : hasB Tryz.prog 25 = true := by kernel_rfl
theorem hb26 : hasB Tryz.prog 26 = true := by kernel_rfl
theorem hb27 : hasB Tryz.prog 27 = true := by kernel_rfl
theorem hb28 : hasB Tryz.prog 28 = true := by kernel_rfl
theorem hb29 : hasB Tryz.prog 29 = true := by kernel_rfl
theorem hb3 : hasB Tryz.prog 3 = true := by kernel_rfl
theorem hb30 : hasB Tryz.prog 30 = true := by kernel_rfl
theorem hb31 : hasB Tryz.prog 31 = true := by kernel_rfl
theorem hb32 : hasB Tryz.prog 32 = true := by kernel_rfl
theorem hb33 : hasB Tryz.prog 33 = true := by kernel_rfl
theorem hb34 : hasB Tryz.prog 34 = true := by kernel_rfl
theorem hb35 : hasB Tryz.prog 35 = true := by kernel_rfl
theorem hb36 : hasB Tryz.prog 36 = true := by kernel_rfl
theorem hb37 : hasB Tryz.prog 37 = true := by kernel_rfl
theorem hb38 : hasB Tryz.prog 38 = true := by kernel_rfl
theorem hb39 : hasB Tryz.prog 39 = true := by kernel_rfl
theorem hb4 : hasB Tryz.prog 4 = true := by kernel_rfl
theorem hb40 : hasB Tryz.prog 40 = true := by kernel_rfl
theorem hb41 : hasB Tryz.prog 41 = true := by kernel_rfl
theorem hb42 : hasB Tryz.prog 42 = true := by kernel_rfl
theorem hb43 : hasB Tryz.prog 43 = true := by kernel_rfl
theorem hb44 : hasB Tryz.prog 44 = true := by kernel_rfl
theorem hb45 : hasB Tryz.prog 45 = true := by kernel_rfl
theorem hb46 : hasB Tryz.prog 46 = true := by kernel_rfl
theorem hb47 : hasB Tryz.prog 47 = true := by kernel_rfl
theorem hb48 : hasB Tryz.prog 48 = true := by kernel_rfl
theorem hb49 : hasB Tryz.prog 49 = true := by kernel_rfl
theorem hb5 : hasB Tryz.prog 5 = true := by kernel_rfl
theorem hb50 : hasB Tryz.prog 50 = true := by kernel_rfl
theorem hb51 : hasB Tryz.prog 51 = true := by kernel_rfl
theorem hb52 : hasB Tryz.prog 52 = true := by kernel_rfl
theorem hb53 : hasB Tryz.prog 53 = true := by kernel_rfl
theorem hb54 : hasB Tryz.prog 54 = true := by kernel_rfl
theorem hb55 : hasB Tryz.prog 55 = true := by kernel_rfl
theorem hb56 : hasB Tryz.prog 56 = true := by kernel_rfl
theorem hb57 : hasB Tryz.prog 57 = true := by kernel_rfl
theorem hb58 : hasB Tryz.prog 58 = true := by kernel_rfl
theorem hb59 : hasB Tryz.prog 59 = true := by kernel_rfl
theorem hb6 : hasB Tryz.prog 6 = true := by kernel_rfl
theorem hb60 : hasB Tryz.prog 60 = true := by kernel_rfl
theorem hb61 : hasB Tryz.prog 61 = true := by kernel_rfl
theorem hb62 : hasB Tryz.prog 62 = true := by kernel_rfl
theorem hb63 : hasB Tryz.prog 63 = true := by kernel_rfl
theorem hb64 : hasB Tryz.prog 64 = true := by kernel_rfl
theorem hb65 : hasB Tryz.prog 65 = true := by kernel_rfl
theorem hb66 : hasB Tryz.prog 66 = true := by kernel_rfl
theorem hb67 : hasB Tryz.prog 67 = true := by kernel_rfl
theorem hb68 : hasB Tryz.prog 68 = true := by kernel_rfl
theorem hb69 : hasB Tryz.prog 69 = true := by kernel_rfl
theorem hb7 : hasB Tryz.prog 7 = true := by kernel_rfl
theorem hb70 : hasB Tryz.prog 70 = true := by kernel_rfl
theorem hb71 : hasB Tryz.prog 71 = true := by kernel_rfl
theorem hb72 : hasB Tryz.prog 72 = true := by kernel_rfl
theorem hb73 : hasB Tryz.prog 73 = true := by kernel_rfl
theorem hb74 : hasB Tryz.prog 74 = true := by kernel_rfl
theorem hb75 : hasB Tryz.prog 75 = true := by kernel_rfl
theorem hb76 : hasB Tryz.prog 76 = true := by kernel_rfl
theorem hb77 : hasB Tryz.prog 77 = true := by kernel_rfl
theorem hb78 : hasB Tryz.prog 78 = true := by kernel_rfl
theorem hb79 : hasB Tryz.prog 79 = true := by kernel_rfl
theorem hb8 : hasB Tryz.prog 8 = true := by kernel_rfl
theorem hb80 : hasB Tryz.prog 80 = true := by kernel_rfl
theorem hb81 : hasB Tryz.prog 81 = true := by kernel_rfl
theorem hb82 : hasB Tryz.prog 82 = true := by kernel_rfl
theorem hb83 : hasB Tryz.prog 83 = true := by kernel_rfl
theorem hb84 : hasB Tryz.prog 84 = true := by kernel_rfl
theorem hb85 : hasB Tryz.prog 85 = true := by kernel_rfl
theorem hb86 : hasB Tryz.prog 86 = true := by kernel_rfl
theorem hb87 : hasB Tryz.prog 87 = true := by kernel_rfl
theorem hb88 : hasB Tryz.prog 88 = true := by kernel_rfl
theorem hb89 : hasB Tryz.prog 89 = true := by kernel_rfl
theorem hb9 : hasB Tryz.prog 9 = true := by kernel_rfl
theorem hb90 : hasB Tryz.prog 90 = true := by kernel_rfl
theorem hb91 : hasB Tryz.prog 91 = true := by kernel_rfl
theorem hb92 : hasB Tryz.prog 92 = true := by kernel_rfl
theorem hb93 : hasB Tryz.prog 93 = true := by kernel_rfl
theorem hb94 : hasB Tryz.prog 94 = true := by kernel_rfl
theorem hb95 : hasB Tryz.prog 95 = true := by kernel_rfl
theorem hb96 : hasB Tryz.prog 96 = true := by kernel_rfl
theorem hb97 : hasB Tryz.prog 97 = true := by kernel_rfl
theorem hb98 : hasB Tryz.prog 98 = true := by kernel_rfl
theorem hb99 : hasB Tryz.prog 99 = true := by kernel_rfl
theorem in3 : inK Tryz.prog 3 = some .i64 := by kernel_rfl
theorem in77 : inK Tryz.prog 77 = some .u64 := by kernel_rfl
theorem kd102 : kd Tryz.prog 102 = 4 := by kernel_rfl
theorem kd22 : kd Tryz.prog 22 = 4 := by kernel_rfl
theorem kd3 : kd Tryz.prog 3 = 9 := by kernel_rfl
theorem kd33 : kd Tryz.prog 33 = 4 := by kernel_rfl
theorem kd34 : kd Tryz.prog 34 = 4 := by kernel_rfl
theorem kd4 : kd Tryz.prog 4 = 2 := by kernel_rfl
theorem kd77 : kd Tryz.prog 77 = 9 := by kernel_rfl
theorem kd95 : kd Tryz.prog 95 = 9 := by kernel_rfl
theorem mix : Tryz.prog.follows .mixedOrders = true := by kernel_rfl
theorem ni102 : ∀ k, Tryz.prog.underlying 102 ≠ some (.int k) := by intro k; rw [show Tryz.prog.underlying 102 = some (.slice 106) from by kernel_rfl]; simp
theorem ni33 : ∀ k, Tryz.prog.underlying 33 ≠ some (.int k) := by intro k; rw [show Tryz.prog.underlying 33 = some (.slice 3) from by kernel_rfl]; simp
theorem ni34 : ∀ k, Tryz.prog.underlying 34 ≠ some (.int k) := by intro k; rw [show Tryz.prog.underlying 34 = some (.slice 33) from by kernel_rfl]; simp
theorem sz102 : sz Tryz.prog 102 = some 1 := by kernel_rfl
theorem sz3 : sz Tryz.prog 3 = some 1 := by kernel_rfl
theorem sz33 : sz Tryz.prog 33 = some 1 := by kernel_rfl
theorem sz34 : sz Tryz.prog 34 = some 1 := by kernel_rfl
theorem sz36 : sz Tryz.prog 36 = some 2 := by kernel_rfl
theorem sz4 : sz Tryz.prog 4 = some 1 := by kernel_rfl
theorem sz41 : sz Tryz.prog 41 = some 1 := by kernel_rfl
theorem sz42 : sz Tryz.prog 42 = some 1 := by kernel_rfl
theorem sz46 : sz Tryz.prog 46 = some 2 := by kernel_rfl
theorem sz70 : sz Tryz.prog 70 = some 1 := by kernel_rfl
theorem sz95 : sz Tryz.prog 95 = some 1 := by kernel_rfl
theorem us102 : (Tryz.prog.underlying 102).isSome = true := by kernel_rfl
theorem us3 : (Tryz.prog.underlying 3).isSome = true := by kernel_rfl
theorem us33 : (Tryz.prog.underlying 33).isSome = true := by kernel_rfl
theorem us34 : (Tryz.prog.underlying 34).isSome = true := by kernel_rfl
theorem us95 : (Tryz.prog.underlying 95).isSome = true := by kernel_rfl
theorem z36 : zV Tryz.prog 36 = some (.agg #[.slice none 0 0, .slice none 0 0]) := by kernel_rfl
theorem z41 : zV Tryz.prog 41 = some (.agg #[.pointer none]) := by kernel_rfl
theorem z46 : zV Tryz.prog 46 = some (.agg #[.pointer none, .pointer none]) := by kernel_rfl
end Go.Proofs.Qxb6500403aGreat.T
