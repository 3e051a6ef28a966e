import Derived.Test.Qxb6500401aGreatProg
import Derived.Test.Qxb6500401aGreatEc
set_option linter.unusedVariables false
namespace Go.Proofs.Qxb6500401aGreat.T
open Go.Eng
theorem ag102 : agS Tryz.prog 102 = some none := by kernel_rfl
theorem ag115 : agS Tryz.prog 115 = some (some 3) := by kernel_rfl
theorem ag135 : agS Tryz.prog 135 = some (some 2) := by kernel_rfl
theorem ag148 : agS Tryz.prog 148 = some (some 4) := by kernel_rfl
theorem ag29 : agS Tryz.prog 29 = some none := by kernel_rfl
theorem ag3 : agS Tryz.prog 3 = some none := by kernel_rfl
theorem ag30 : agS Tryz.prog 30 = some none := by kernel_rfl
theorem ag31 : agS Tryz.prog 31 = some none := by kernel_rfl
theorem ag32 : agS Tryz.prog 32 = some none := by kernel_rfl
theorem ag34 : agS Tryz.prog 34 = some (some 4) := by kernel_rfl
theorem ag35 : agS Tryz.prog 35 = some none := by kernel_rfl
theorem ag36 : agS Tryz.prog 36 = some none := by kernel_rfl
theorem ag37 : agS Tryz.prog 37 = some none := by kernel_rfl
theorem ag38 : agS Tryz.prog 38 = some none := by kernel_rfl
theorem ag4 : agS Tryz.prog 4 = some none := by kernel_rfl
theorem ag44 : agS Tryz.prog 44 = some (some 6) := by kernel_rfl
theorem ag49 : agS Tryz.prog 49 = some none := by kernel_rfl
theorem ag51 : agS Tryz.prog 51 = some none := by kernel_rfl
theorem ag54 : agS Tryz.prog 54 = some none := by kernel_rfl
theorem ag67 : agS Tryz.prog 67 = some none := by kernel_rfl
theorem ag75 : agS Tryz.prog 75 = some none := by kernel_rfl
theorem ag82 : agS Tryz.prog 82 = some (some 7) := by kernel_rfl
theorem ag9 : agS Tryz.prog 9 = some none := by kernel_rfl
theorem ag97 : agS Tryz.prog 97 = some (some 3) := by kernel_rfl
theorem ar101 : arS Tryz.prog 101 = some (12, 1) := by kernel_rfl
theorem ar103 : arS Tryz.prog 103 = some (13, 1) := by kernel_rfl
theorem ar170 : arS Tryz.prog 170 = some (24, 1) := by kernel_rfl
theorem ar50 : arS Tryz.prog 50 = some (13, 1) := by kernel_rfl
theorem ar73 : arS Tryz.prog 73 = some (624, 1) := by kernel_rfl
theorem ar74 : arS Tryz.prog 74 = some (52, 1) := by kernel_rfl
theorem ar76 : arS Tryz.prog 76 = some (26, 1) := by kernel_rfl
theorem bld100 : buildV Tryz.prog 100 [] = some (.agg #[.slice none 0 0, .int .i64 0, .int .i64 0, .bool false, .int .i64 0, .int .u16 0, .int .u16 0, .bool false, .bool false, .int .i64 0, .int .i64 0]) := by kernel_rfl
theorem bld105 : buildV Tryz.prog 105 [] = some (.agg #[.int .i64 0, .int .i64 0, .int .i64 0, .int .i64 0, .int .i64 0, .int .i64 0, .int .i64 0, .int .i64 0, .int .i64 0, .int .i64 0, .int .i64 0, .int .i64 0, .int .i64 0, .int .i64 0, .int .i64 0, .int .i8 0, .int .i8 0, .int .i8 0, .int .i8 0, .int .i8 0, .int .i8 0, .int .i8 0, .int .i8 0, .int .i8 0, .int .i8 0, .int .i8 0, .int .i8 0, .int .i8 0, .int .i64 0, .int .i64 0, .int .i64 0, .int .i64 0, .int .i64 0, .int .i64 0, .int .i64 0, .int .i64 0, .int .i64 0, .int .i64 0, .int .i64 0, .int .i64 0, .int .i64 0, .int .i64 0, .int .i64 0, .int .i64 0, .int .i64 0, .int .i64 0, .int .i64 0, .int .i64 0, .int .i64 0, .int .i64 0, .int .i64 0, .int .i64 0, .int .i64 0, .int .i64 0, .int .i64 0, .int .i64 0, .int .i64 0, .int .i64 0, .int .i64 0, .int .i64 0, .int .i64 0, .int .i64 0, .int .i64 0, .int .i64 0, .int .i64 0, .int .i64 0, .int .i64 0, .int .i64 0, .int .i64 0, .int .i64 0, .int .i64 0, .int .i64 0, .int .i64 0, .int .i64 0, .int .i64 0, .int .i64 0, .int .i64 0, .int .i64 0, .int .i64 0, .int .i64 0, .int .i64 0]) := by kernel_rfl
theorem bld107_0_1 : ∀ (x0 : Option Addr) (x1 : Option Addr), buildV Tryz.prog 107 [(0, .pointer x0), (1, .pointer x1)] = some (.agg #[.pointer x0, .pointer x1, .int .u16 0, .int .u16 0, .int .u16 0, .int .i64 0, .int .i64 0]) := by intros; kernel_rfl
theorem bld109 : buildV Tryz.prog 109 [] = some (.agg #[.int .i64 0, .int .i64 0]) := by kernel_rfl
theorem bld111_0 : ∀ (x0 : Option Addr), buildV Tryz.prog 111 [(0, .pointer x0)] = some (.agg #[.pointer x0]) := by intros; kernel_rfl
theorem bld115_0 : ∀ (x0 : Int), buildV Tryz.prog 115 [(0, .int .i64 x0)] = some (.agg #[.int .i64 x0, .int .i64 0, .slice none 0 0]) := by intros; kernel_rfl
theorem bld115_0_1 : ∀ (x0 : Int) (x1 : Int), buildV Tryz.prog 115 [(0, .int .i64 x0), (1, .int .i64 x1)] = some (.agg #[.int .i64 x0, .int .i64 x1, .slice none 0 0]) := by intros; kernel_rfl
theorem bld115_2 : ∀ (x2 : Option Addr) (x2n x2c : Nat), buildV Tryz.prog 115 [(2, .slice x2 x2n x2c)] = some (.agg #[.int .i64 0, .int .i64 0, .slice x2 x2n x2c]) := by intros; kernel_rfl
theorem bld135 : buildV Tryz.prog 135 [] = some (.agg #[.bool false, .slice none 0 0]) := by kernel_rfl
theorem bld148_0 : ∀ (x0 : Int), buildV Tryz.prog 148 [(0, .int .i64 x0)] = some (.agg #[.int .i64 x0, .slice none 0 0, .int .i64 0, .int .i64 0]) := by intros; kernel_rfl
theorem bld148_1_2_3 : ∀ (x1 : Option Addr) (x1n x1c : Nat) (x2 : Int) (x3 : Int), buildV Tryz.prog 148 [(1, .slice x1 x1n x1c), (2, .int .i64 x2), (3, .int .i64 x3)] = some (.agg #[.int .i64 0, .slice x1 x1n x1c, .int .i64 x2, .int .i64 x3]) := by intros; kernel_rfl
theorem bld34_0_1_2_3 : ∀ (x0 : Option Addr) (x1 : Option Addr) (x2 : Option Addr) (x3 : Option Addr), buildV Tryz.prog 34 [(0, .pointer x0), (1, .pointer x1), (2, .pointer x2), (3, .pointer x3)] = some (.agg #[.pointer x0, .pointer x1, .pointer x2, .pointer x3]) := by intros; kernel_rfl
theorem bld40_0_1_2_3 : ∀ (x0_0 : Option Addr) (x0_1 : Option Addr) (x0_2 : Option Addr) (x0_3 : Option Addr) (x1 : Option Addr) (x2 : Option Addr) (x3 : Option Addr), buildV Tryz.prog 40 [(0, .agg #[.pointer x0_0, .pointer x0_1, .pointer x0_2, .pointer x0_3]), (1, .pointer x1), (2, .pointer x2), (3, .pointer x3)] = some (.agg #[.pointer x0_0, .pointer x0_1, .pointer x0_2, .pointer x0_3, .pointer x1, .pointer x2, .pointer x3, .string ⟨#[]⟩, .slice none 0 0]) := by intros; kernel_rfl
theorem bld53_0_1_2_3_7 : ∀ (x0 : Option Addr) (x1 : Option Addr) (x2 : Option Addr) (x3 : Option Addr) (x7 : Int), buildV Tryz.prog 53 [(0, .pointer x0), (1, .pointer x1), (2, .pointer x2), (3, .pointer x3), (7, .int .i64 x7)] = some (.agg #[.pointer x0, .pointer x1, .pointer x2, .pointer x3, .slice none 0 0, .int .i64 0, .int .i64 0, .int .i64 0, .int .i64 0, .int .i64 0, .int .i64 0, .int .i64 0, .int .i64 0, .int .i64 0, .int .i64 0, .int .i64 0, .int .i64 0, .int .i64 0, .int .i64 0, .int .i64 0, .int .i64 0, .int .i64 0, .int .i64 0, .int .i64 0, .int .i64 0, .int .i64 0, .int .i64 0, .int .i64 0, .int .i64 0, .int .i64 0, .int .i64 0, .int .i64 x7, .int .u16 0, .int .i64 0, .int .i64 0, .int .i64 0, .int .i64 0]) := by intros; kernel_rfl
theorem bld70_0 : ∀ (x0 : Option Addr), buildV Tryz.prog 70 [(0, .pointer x0)] = some (.agg #[.pointer x0]) := by intros; kernel_rfl
theorem bld78_0 : ∀ (x0 : Option Addr), buildV Tryz.prog 78 [(0, .pointer x0)] = some (.agg #[.pointer x0, .int .i64 0, .int .i64 0, .int .i64 0, .int .i64 0, .int .i64 0, .int .i64 0, .int .i64 0, .int .i64 0, .int .i64 0, .int .i64 0, .int .i64 0, .int .i64 0, .int .i64 0, .int .i64 0, .int .i64 0, .int .i64 0, .int .i64 0, .int .i64 0, .int .i64 0, .int .i64 0, .int .i64 0, .int .i64 0, .int .i64 0, .int .i64 0, .int .i64 0, .int .i64 0, .int .i64 0, .int .i64 0, .int .i64 0, .int .i64 0, .int .i64 0, .int .i64 0, .int .i64 0, .int .i64 0, .int .i64 0, .int .i64 0, .int .i64 0, .int .i64 0, .int .i64 0, .int .i64 0, .int .i64 0, .int .i64 0, .int .i64 0, .int .i64 0, .int .i64 0, .int .i64 0, .int .i64 0, .int .i64 0, .int .i64 0, .int .i64 0, .int .i64 0, .int .i64 0, .int .i64 0, .int .i64 0, .int .i64 0, .int .i64 0, .int .i64 0, .int .i64 0, .int .i64 0, .int .i64 0, .int .i64 0, .int .i64 0, .int .i64 0, .int .i64 0, .int .i64 0, .int .i64 0, .int .i64 0, .int .i64 0, .int .i64 0, .int .i64 0, .int .i64 0, .int .i64 0, .int .i64 0, .int .i64 0, .int .i64 0, .int .i64 0, .int .i64 0, .int .i64 0, .int .i64 0, .int .i64 0, .int .i64 0, .int .i64 0, .int .i64 0, .int .i64 0, .int .i64 0, .int .i64 0, .int .i64 0, .int .i64 0, .int .i64 0, .int .i64 0, .int .i64 0, .int .i64 0, .int .i64 0, .int .i64 0, .int .i64 0, .int .i64 0, .int .i64 0, .int .i64 0, .int .i64 0, .int .i64 0, .int .i64 0, .int .i64 0, .int .i64 0, .int .i64 0, .int .i64 0, .int .i64 0, .int .i64 0, .int .i64 0, .int .i64 0, .int .i64 0, .int .i64 0, .int .i64 0, .int .i64 0, .int .i64 0, .int .i64 0, .int .i64 0, .int .i64 0, .int .i64 0, .int .i64 0, .int .i64 0, .int .i64 0, .int .i64 0, .int .i64 0, .int .i64 0, .int .i64 0, .int .i64 0, .int .i64 0, .int .i64 0, .int .i64 0, .int .i64 0, .int .i64 0, .int .i64 0, .int .i64 0, .int .i64 0, .int .i64 0, .int .i64 0, .int .i64 0, .int .i64 0, .int .i64 0, .int .i64 0, .int .i64 0, .int .i64 0, .int .i64 0, .int .i64 0, .int .i64 0, .int .i64 0, .int .i64 0, .int .i64 0, .int .i64 0, .int .i64 0, .int .i64 0, .int .i64 0, .int .i64 0, .int .i64 0, .int .i64 0, .int .i64 0, .int .i64 0, .int .i64 0, .int .i64 0, .int .i64 0, .int .i64 0, .int .i64 0, .int .i64 0, .int .i64 0, .int .i64 0, .int .i64 0, .int .i64 0, .int .i64 0, .int .i64 0, .int .i64 0, .int .i64 0, .int .i64 0, .int .i64 0, .int .i64 0, .int .i64 0, .int .i64 0, .int .i64 0, .int .i64 0, .int .i64 0, .int .i64 0, .int .i64 0, .int .i64 0, .int .i64 0, .int .i64 0, .int .i64 0, .int .i64 0, .int .i64 0, .int .i64 0, .int .i64 0, .int .i64 0, .int .i64 0, .int .i64 0, .int .i64 0, .int .i64 0, .int .i64 0, .int .i64 0, .int .i64 0, .int .i64 0, .int .i64 0, .int .i64 0, .int .i64 0, .int .i64 0, .int .i64 0, .int .i64 0, .int .i64 0, .int .i64 0, .int .i64 0, .int .i64 0, .int .i64 0, .int .i64 0, .int .i64 0, .int .i64 0, .int .i64 0, .int .i64 0, .int .i64 0, .int .i64 0, .int .i64 0, .int .i64 0, .int .i64 0, .int .i64 0, .int .i64 0, .int .i64 0, .int .i64 0, .int .i64 0, .int .i64 0, .int .i64 0, .int .i64 0, .int .i64 0, .int .i64 0, .int .i64 0, .int .i64 0, .int .i64 0, .int .i64 0, .int .i64 0, .int .i64 0, .int .i64 0, .int .i64 0, .int .i64 0, .int .i64 0, .int .i64 0, .int .i64 0, .int .i64 0, .int .i64 0, .int .i64 0, .int .i64 0, .int .i64 0, .int .i64 0, .int .i64 0, .int .i64 0, .int .i64 0, .int .i64 0, .int .i64 0, .int .i64 0, .int .i64 0, .int .i64 0, .int .i64 0, .int .i64 0, .int .i64 0, .int .i64 0, .int .i64 0, .int .i64 0, .int .i64 0, .int .i64 0, .int .i64 0, .int .i64 0, .int .i64 0, .int .i64 0, .int .i64 0, .int .i64 0, .int .i64 0, .int .i64 0, .int .i64 0, .int .i64 0, .int .i64 0, .int .i64 0, .int .i64 0, .int .i64 0, .int .i64 0, .int .i64 0, .int .i64 0, .int .i64 0, .int .i64 0, .int .i64 0, .int .i64 0, .int .i64 0, .int .i64 0, .int .i64 0, .int .i64 0, .int .i64 0, .int .i64 0, .int .i64 0, .int .i64 0, .int .i64 0, .int .i64 0, .int .i64 0, .int .i64 0, .int .i64 0, .int .i64 0, .int .i64 0, .int .i64 0, .int .i64 0, .int .i64 0, .int .i64 0, .int .i64 0, .int .i64 0, .int .i64 0, .int .i64 0, .int .i64 0, .int .i64 0, .int .i64 0, .int .i64 0, .int .i64 0, .int .i64 0, .int .i64 0, .int .i64 0, .int .i64 0, .int .i64 0, .int .i64 0, .int .i64 0, .int .i64 0, .int .i64 0, .int .i64 0, .int .i64 0, .int .i64 0, .int .i64 0, .int .i64 0, .int .i64 0, .int .i64 0, .int .i64 0, .int .i64 0, .int .i64 0, .int .i64 0, .int .i64 0, .int .i64 0, .int .i64 0, .int .i64 0, .int .i64 0, .int .i64 0, .int .i64 0, .int .i64 0, .int .i64 0, .int .i64 0, .int .i64 0, .int .i64 0, .int .i64 0, .int .i64 0, .int .i64 0, .int .i64 0, .int .i64 0, .int .i64 0, .int .i64 0, .int .i64 0, .int .i64 0, .int .i64 0, .int .i64 0, .int .i64 0, .int .i64 0, .int .i64 0, .int .i64 0, .int .i64 0, .int .i64 0, .int .i64 0, .int .i64 0, .int .i64 0, .int .i64 0, .int .i64 0, .int .i64 0, .int .i64 0, .int .i64 0, .int .i64 0, .int .i64 0, .int .i64 0, .int .i64 0, .int .i64 0, .int .i64 0, .int .i64 0, .int .i64 0, .int .i64 0, .int .i64 0, .int .i64 0, .int .i64 0, .int .i64 0, .int .i64 0, .int .i64 0, .int .i64 0, .int .i64 0, .int .i64 0, .int .i64 0, .int .i64 0, .int .i64 0, .int .i64 0, .int .i64 0, .int .i64 0, .int .i64 0, .int .i64 0, .int .i64 0, .int .i64 0, .int .i64 0, .int .i64 0, .int .i64 0, .int .i64 0, .int .i64 0, .int .i64 0, .int .i64 0, .int .i64 0, .int .i64 0, .int .i64 0, .int .i64 0, .int .i64 0, .int .i64 0, .int .i64 0, .int .i64 0, .int .i64 0, .int .i64 0, .int .i64 0, .int .i64 0, .int .i64 0, .int .i64 0, .int .i64 0, .int .i64 0, .int .i64 0, .int .i64 0, .int .i64 0, .int .i64 0, .int .i64 0, .int .i64 0, .int .i64 0, .int .i64 0, .int .i64 0, .int .i64 0, .int .i64 0, .int .i64 0, .int .i64 0, .int .i64 0, .int .i64 0, .int .i64 0, .int .i64 0, .int .i64 0, .int .i64 0, .int .i64 0, .int .i64 0, .int .i64 0, .int .i64 0, .int .i64 0, .int .i64 0, .int .i64 0, .int .i64 0, .int .i64 0, .int .i64 0, .int .i64 0, .int .i64 0, .int .i64 0, .int .i64 0, .int .i64 0, .int .i64 0, .int .i64 0, .int .i64 0, .int .i64 0, .int .i64 0, .int .i64 0, .int .i64 0, .int .i64 0, .int .i64 0, .int .i64 0, .int .i64 0, .int .i64 0, .int .i64 0, .int .i64 0, .int .i64 0, .int .i64 0, .int .i64 0, .int .i64 0, .int .i64 0, .int .i64 0, .int .i64 0, .int .i64 0, .int .i64 0, .int .i64 0, .int .i64 0, .int .i64 0, .int .i64 0, .int .i64 0, .int .i64 0, .int .i64 0, .int .i64 0, .int .i64 0, .int .i64 0, .int .i64 0, .int .i64 0, .int .i64 0, .int .i64 0, .int .i64 0, .int .i64 0, .int .i64 0, .int .i64 0, .int .i64 0, .int .i64 0, .int .i64 0, .int .i64 0, .int .i64 0, .int .i64 0, .int .i64 0, .int .i64 0, .int .i64 0, .int .i64 0, .int .i64 0, .int .i64 0, .int .i64 0, .int .i64 0, .int .i64 0, .int .i64 0, .int .i64 0, .int .i64 0, .int .i64 0, .int .i64 0, .int .i64 0, .int .i64 0, .int .i64 0, .int .i64 0, .int .i64 0, .int .i64 0, .int .i64 0, .int .i64 0, .int .i64 0, .int .i64 0, .int .i64 0, .int .i64 0, .int .i64 0, .int .i64 0, .int .i64 0, .int .i64 0, .int .i64 0, .int .i64 0, .int .i64 0, .int .i64 0, .int .i64 0, .int .i64 0, .int .i64 0, .int .i64 0, .int .i64 0, .int .i64 0, .int .i64 0, .int .i64 0, .int .i64 0, .int .i64 0, .int .i64 0, .int .i64 0, .int .i64 0, .int .i64 0, .int .i64 0, .int .i64 0, .int .i64 0, .int .i64 0, .int .i64 0, .int .i64 0, .int .i64 0, .int .i64 0, .int .i64 0, .int .i64 0, .int .i64 0, .int .i64 0, .int .i64 0, .int .i64 0, .int .i64 0, .int .i64 0, .int .i64 0, .int .i64 0, .int .i64 0, .int .i64 0, .int .i64 0, .int .i64 0, .int .i64 0, .int .i64 0, .int .i64 0, .int .i64 0, .int .i64 0, .int .i64 0, .int .i64 0, .int .i64 0, .int .i64 0, .int .i64 0, .int .i64 0, .int .i64 0, .int .i64 0, .int .i64 0, .int .i64 0, .int .i64 0, .int .i64 0, .int .i64 0, .int .i64 0, .int .i64 0, .int .i64 0, .int .i64 0, .int .i64 0, .int .i64 0, .int .i64 0, .int .i64 0, .int .i64 0, .int .i64 0, .int .i64 0, .int .i64 0, .int .i64 0, .int .i64 0, .int .i64 0, .int .i64 0, .int .i64 0, .int .i64 0, .int .i64 0, .int .i64 0, .int .i64 0, .int .i64 0, .int .i64 0, .int .i64 0, .int .i64 0, .int .i64 0, .int .i64 0, .int .i64 0, .int .i64 0, .int .i64 0, .int .i64 0, .int .i64 0, .int .i64 0, .int .i64 0, .int .i64 0, .int .i64 0, .int .i64 0, .int .i64 0, .int .i64 0, .int .i64 0, .int .i64 0, .int .i64 0, .int .i64 0, .int .i64 0, .int .i64 0, .int .i64 0, .int .i64 0, .int .i64 0, .int .i64 0, .int .i64 0, .int .i64 0, .int .i64 0, .int .i64 0, .int .i64 0, .int .i64 0, .int .i64 0, .int .i64 0, .int .i64 0, .int .i64 0, .int .i64 0, .int .i64 0, .int .i64 0, .int .i64 0, .int .i64 0, .int .i64 0, .int .i64 0, .int .i64 0, .int .i64 0, .int .i64 0, .int .i64 0, .int .i64 0, .int .i64 0, .int .i64 0, .int .i64 0, .int .i64 0, .int .i64 0, .int .i64 0, .int .i64 0, .int .i64 0, .int .i64 0, .int .i64 0, .int .i64 0, .int .i64 0, .int .i64 0, .int .i64 0, .int .i64 0, .int .i64 0, .int .u64 0, .int .u64 0, .int .u64 0, .int .u64 0, .int .u64 0, .int .u64 0, .int .u64 0, .int .u64 0, .int .u64 0, .int .u64 0, .int .u64 0, .int .u64 0, .int .u64 0, .int .u64 0, .int .u64 0, .int .u64 0, .int .u64 0, .int .u64 0, .int .u64 0, .int .u64 0, .int .u64 0, .int .u64 0, .int .u64 0, .int .u64 0, .int .u64 0, .int .u64 0, .int .u64 0, .int .u64 0, .int .u64 0, .int .i64 0]) := by intros; kernel_rfl
theorem bld82_0 : ∀ (x0 : Int), buildV Tryz.prog 82 [(0, .int .i64 x0)] = some (.agg #[.int .i64 x0, .int .i64 0, .bool false, .slice none 0 0, .string ⟨#[]⟩, .int .i64 0, .int .i64 0]) := by intros; kernel_rfl
theorem bld82_0_1 : ∀ (x0 : Int) (x1 : Int), buildV Tryz.prog 82 [(0, .int .i64 x0), (1, .int .i64 x1)] = some (.agg #[.int .i64 x0, .int .i64 x1, .bool false, .slice none 0 0, .string ⟨#[]⟩, .int .i64 0, .int .i64 0]) := by intros; kernel_rfl
theorem bld82_2_3 : ∀ (x2 : Bool) (x3 : Option Addr) (x3n x3c : Nat), buildV Tryz.prog 82 [(2, .bool x2), (3, .slice x3 x3n x3c)] = some (.agg #[.int .i64 0, .int .i64 0, .bool x2, .slice x3 x3n x3c, .string ⟨#[]⟩, .int .i64 0, .int .i64 0]) := by intros; kernel_rfl
theorem bld82_2_3_5_6 : ∀ (x2 : Bool) (x3 : Option Addr) (x3n x3c : Nat) (x5 : Int) (x6 : Int), buildV Tryz.prog 82 [(2, .bool x2), (3, .slice x3 x3n x3c), (5, .int .i64 x5), (6, .int .i64 x6)] = some (.agg #[.int .i64 0, .int .i64 0, .bool x2, .slice x3 x3n x3c, .string ⟨#[]⟩, .int .i64 x5, .int .i64 x6]) := by intros; kernel_rfl
theorem bld82_4 : ∀ (x4 : ByteArray), buildV Tryz.prog 82 [(4, .string x4)] = some (.agg #[.int .i64 0, .int .i64 0, .bool false, .slice none 0 0, .string x4, .int .i64 0, .int .i64 0]) := by intros; kernel_rfl
theorem bld82_4_5_6 : ∀ (x4 : ByteArray) (x5 : Int) (x6 : Int), buildV Tryz.prog 82 [(4, .string x4), (5, .int .i64 x5), (6, .int .i64 x6)] = some (.agg #[.int .i64 0, .int .i64 0, .bool false, .slice none 0 0, .string x4, .int .i64 x5, .int .i64 x6]) := by intros; kernel_rfl
theorem bld97 : buildV Tryz.prog 97 [] = some (.agg #[.int .i64 0, .int .i64 0, .int .i64 0]) := by kernel_rfl
theorem bld97_0_1_2 : ∀ (x0 : Int) (x1 : Int) (x2 : Int), buildV Tryz.prog 97 [(0, .int .i64 x0), (1, .int .i64 x1), (2, .int .i64 x2)] = some (.agg #[.int .i64 x0, .int .i64 x1, .int .i64 x2]) := by intros; kernel_rfl
theorem bs132_1_0 : ∀ (x0_0 : Bool) (x0_1 : Option Addr) (x0_1n x0_1c : Nat), Instr.fill (fun i => some (i * 2, 2)) (mkZ #[.bool false, .slice none 0 0] (1 * 2)) [(0, .agg #[.bool x0_0, .slice x0_1 x0_1n x0_1c])] = some #[.bool x0_0, .slice x0_1 x0_1n x0_1c] := by intros; kernel_rfl
theorem bs38_1_0 : ∀ (x0 : Option Addr) (x0n x0c : Nat), Instr.fill (fun i => some (i * 1, 1)) (mkZ #[.slice none 0 0] (1 * 1)) [(0, .slice x0 x0n x0c)] = some #[.slice x0 x0n x0c] := by intros; kernel_rfl
theorem bs49_1_0 : ∀ (x0 : Int), Instr.fill (fun i => some (i * 1, 1)) (mkZ #[.int .i64 0] (1 * 1)) [(0, .int .i64 x0)] = some #[.int .i64 x0] := by intros; kernel_rfl
theorem bs49_3_0_1_2 : ∀ (x0 : Int) (x1 : Int) (x2 : Int), Instr.fill (fun i => some (i * 1, 1)) (mkZ #[.int .i64 0] (3 * 1)) [(0, .int .i64 x0), (1, .int .i64 x1), (2, .int .i64 x2)] = some #[.int .i64 x0, .int .i64 x1, .int .i64 x2] := by intros; kernel_rfl
theorem bs49_4_0_1_2_3 : ∀ (x0 : Int) (x1 : Int) (x2 : Int) (x3 : Int), Instr.fill (fun i => some (i * 1, 1)) (mkZ #[.int .i64 0] (4 * 1)) [(0, .int .i64 x0), (1, .int .i64 x1), (2, .int .i64 x2), (3, .int .i64 x3)] = some #[.int .i64 x0, .int .i64 x1, .int .i64 x2, .int .i64 x3] := by intros; kernel_rfl
theorem bs61_1_0 : ∀ (x0 : Int), Instr.fill (fun i => some (i * 1, 1)) (mkZ #[.int .u8 0] (1 * 1)) [(0, .int .u8 x0)] = some #[.int .u8 x0] := by intros; kernel_rfl
theorem ei132 : elI Tryz.prog 132 = some (135, 2, 32, #[.bool false, .slice none 0 0]) := by kernel_rfl
theorem ei38 : elI Tryz.prog 38 = some (49, 1, 24, #[.slice none 0 0]) := by kernel_rfl
theorem ei49 : elI Tryz.prog 49 = some (3, 1, 8, #[.int .i64 0]) := by kernel_rfl
theorem ei61 : elI Tryz.prog 61 = some (5, 1, 1, #[.int .u8 0]) := by kernel_rfl
theorem el132 : elS Tryz.prog 132 = some 2 := by kernel_rfl
theorem el22 : elS Tryz.prog 22 = some 6 := by kernel_rfl
theorem el38 : elS Tryz.prog 38 = some 1 := by kernel_rfl
theorem el49 : elS Tryz.prog 49 = some 1 := by kernel_rfl
theorem el61 : elS Tryz.prog 61 = some 1 := by kernel_rfl
theorem f100_0 : fOff Tryz.prog 100 0 = some 0 := by kernel_rfl
theorem f100_1 : fOff Tryz.prog 100 1 = some 1 := by kernel_rfl
theorem f100_10 : fOff Tryz.prog 100 10 = some 10 := by kernel_rfl
theorem f100_2 : fOff Tryz.prog 100 2 = some 2 := by kernel_rfl
theorem f100_3 : fOff Tryz.prog 100 3 = some 3 := by kernel_rfl
theorem f100_4 : fOff Tryz.prog 100 4 = some 4 := by kernel_rfl
theorem f100_5 : fOff Tryz.prog 100 5 = some 5 := by kernel_rfl
theorem f100_6 : fOff Tryz.prog 100 6 = some 6 := by kernel_rfl
theorem f100_7 : fOff Tryz.prog 100 7 = some 7 := by kernel_rfl
theorem f100_8 : fOff Tryz.prog 100 8 = some 8 := by kernel_rfl
theorem f100_9 : fOff Tryz.prog 100 9 = some 9 := by kernel_rfl
theorem f105_0 : fOff Tryz.prog 105 0 = some 0 := by kernel_rfl
theorem f105_1 : fOff Tryz.prog 105 1 = some 12 := by kernel_rfl
theorem f105_2 : fOff Tryz.prog 105 2 = some 13 := by kernel_rfl
theorem f105_3 : fOff Tryz.prog 105 3 = some 14 := by kernel_rfl
theorem f105_4 : fOff Tryz.prog 105 4 = some 15 := by kernel_rfl
theorem f105_5 : fOff Tryz.prog 105 5 = some 28 := by kernel_rfl
theorem f105_6 : fOff Tryz.prog 105 6 = some 41 := by kernel_rfl
theorem f105_7 : fOff Tryz.prog 105 7 = some 54 := by kernel_rfl
theorem f105_8 : fOff Tryz.prog 105 8 = some 67 := by kernel_rfl
theorem f105_9 : fOff Tryz.prog 105 9 = some 80 := by kernel_rfl
theorem f107_0 : fOff Tryz.prog 107 0 = some 0 := by kernel_rfl
theorem f107_1 : fOff Tryz.prog 107 1 = some 1 := by kernel_rfl
theorem f107_2 : fOff Tryz.prog 107 2 = some 2 := by kernel_rfl
theorem f107_3 : fOff Tryz.prog 107 3 = some 3 := by kernel_rfl
theorem f107_4 : fOff Tryz.prog 107 4 = some 4 := by kernel_rfl
theorem f107_5 : fOff Tryz.prog 107 5 = some 5 := by kernel_rfl
theorem f107_6 : fOff Tryz.prog 107 6 = some 6 := by kernel_rfl
theorem f109_0 : fOff Tryz.prog 109 0 = some 0 := by kernel_rfl
theorem f109_1 : fOff Tryz.prog 109 1 = some 1 := by kernel_rfl
theorem f111_0 : fOff Tryz.prog 111 0 = some 0 := by kernel_rfl
theorem f115_0 : fOff Tryz.prog 115 0 = some 0 := by kernel_rfl
theorem f115_1 : fOff Tryz.prog 115 1 = some 1 := by kernel_rfl
theorem f115_2 : fOff Tryz.prog 115 2 = some 2 := by kernel_rfl
theorem f135_0 : fOff Tryz.prog 135 0 = some 0 := by kernel_rfl
theorem f135_1 : fOff Tryz.prog 135 1 = some 1 := by kernel_rfl
theorem f148_0 : fOff Tryz.prog 148 0 = some 0 := by kernel_rfl
theorem f148_1 : fOff Tryz.prog 148 1 = some 1 := by kernel_rfl
theorem f148_3 : fOff Tryz.prog 148 3 = some 3 := by kernel_rfl
theorem f34_0 : fOff Tryz.prog 34 0 = some 0 := by kernel_rfl
theorem f34_1 : fOff Tryz.prog 34 1 = some 1 := by kernel_rfl
theorem f34_2 : fOff Tryz.prog 34 2 = some 2 := by kernel_rfl
theorem f34_3 : fOff Tryz.prog 34 3 = some 3 := by kernel_rfl
theorem f40_0 : fOff Tryz.prog 40 0 = some 0 := by kernel_rfl
theorem f40_1 : fOff Tryz.prog 40 1 = some 4 := by kernel_rfl
theorem f40_2 : fOff Tryz.prog 40 2 = some 5 := by kernel_rfl
theorem f40_3 : fOff Tryz.prog 40 3 = some 6 := by kernel_rfl
theorem f40_4 : fOff Tryz.prog 40 4 = some 7 := by kernel_rfl
theorem f40_5 : fOff Tryz.prog 40 5 = some 8 := by kernel_rfl
theorem f44_0 : fOff Tryz.prog 44 0 = some 0 := by kernel_rfl
theorem f44_4 : fOff Tryz.prog 44 4 = some 4 := by kernel_rfl
theorem f53_0 : fOff Tryz.prog 53 0 = some 0 := by kernel_rfl
theorem f53_1 : fOff Tryz.prog 53 1 = some 1 := by kernel_rfl
theorem f53_10 : fOff Tryz.prog 53 10 = some 34 := by kernel_rfl
theorem f53_11 : fOff Tryz.prog 53 11 = some 35 := by kernel_rfl
theorem f53_12 : fOff Tryz.prog 53 12 = some 36 := by kernel_rfl
theorem f53_2 : fOff Tryz.prog 53 2 = some 2 := by kernel_rfl
theorem f53_3 : fOff Tryz.prog 53 3 = some 3 := by kernel_rfl
theorem f53_4 : fOff Tryz.prog 53 4 = some 4 := by kernel_rfl
theorem f53_5 : fOff Tryz.prog 53 5 = some 5 := by kernel_rfl
theorem f53_6 : fOff Tryz.prog 53 6 = some 18 := by kernel_rfl
theorem f53_7 : fOff Tryz.prog 53 7 = some 31 := by kernel_rfl
theorem f53_8 : fOff Tryz.prog 53 8 = some 32 := by kernel_rfl
theorem f53_9 : fOff Tryz.prog 53 9 = some 33 := by kernel_rfl
theorem f70_0 : fOff Tryz.prog 70 0 = some 0 := by kernel_rfl
theorem f78_0 : fOff Tryz.prog 78 0 = some 0 := by kernel_rfl
theorem f78_1 : fOff Tryz.prog 78 1 = some 1 := by kernel_rfl
theorem f78_2 : fOff Tryz.prog 78 2 = some 625 := by kernel_rfl
theorem f78_3 : fOff Tryz.prog 78 3 = some 677 := by kernel_rfl
theorem f78_4 : fOff Tryz.prog 78 4 = some 678 := by kernel_rfl
theorem f78_5 : fOff Tryz.prog 78 5 = some 679 := by kernel_rfl
theorem f78_6 : fOff Tryz.prog 78 6 = some 680 := by kernel_rfl
theorem f78_7 : fOff Tryz.prog 78 7 = some 706 := by kernel_rfl
theorem f82_0 : fOff Tryz.prog 82 0 = some 0 := by kernel_rfl
theorem f82_1 : fOff Tryz.prog 82 1 = some 1 := by kernel_rfl
theorem f82_2 : fOff Tryz.prog 82 2 = some 2 := by kernel_rfl
theorem f82_3 : fOff Tryz.prog 82 3 = some 3 := by kernel_rfl
theorem f82_4 : fOff Tryz.prog 82 4 = some 4 := by kernel_rfl
theorem f82_5 : fOff Tryz.prog 82 5 = some 5 := by kernel_rfl
theorem f82_6 : fOff Tryz.prog 82 6 = some 6 := by kernel_rfl
theorem f97_0 : fOff Tryz.prog 97 0 = some 0 := by kernel_rfl
theorem hb10 : hasB Tryz.prog 10 = true := by kernel_rfl
theorem hb100 : hasB Tryz.prog 100 = true := by kernel_rfl
theorem hb101 : hasB Tryz.prog 101 = true := by kernel_rfl
theorem hb102 : hasB Tryz.prog 102 = true := by kernel_rfl
theorem hb103 : hasB Tryz.prog 103 = true := by kernel_rfl
theorem hb104 : hasB Tryz.prog 104 = true := by kernel_rfl
theorem hb105 : hasB Tryz.prog 105 = true := by kernel_rfl
theorem hb106 : hasB Tryz.prog 106 = true := by kernel_rfl
theorem hb107 : hasB Tryz.prog 107 = true := by kernel_rfl
theorem hb108 : hasB Tryz.prog 108 = true := by kernel_rfl
theorem hb109 : hasB Tryz.prog 109 = true := by kernel_rfl
theorem hb11 : hasB Tryz.prog 11 = true := by kernel_rfl
theorem hb110 : hasB Tryz.prog 110 = true := by kernel_rfl
theorem hb111 : hasB Tryz.prog 111 = true := by kernel_rfl
theorem hb112 : hasB Tryz.prog 112 = true := by kernel_rfl
theorem hb113 : hasB Tryz.prog 113 = true := by kernel_rfl
theorem hb114 : hasB Tryz.prog 114 = true := by kernel_rfl
theorem hb115 : hasB Tryz.prog 115 = true := by kernel_rfl
theorem hb116 : hasB Tryz.prog 116 = true := by kernel_rfl
theorem hb117 : hasB Tryz.prog 117 = true := by kernel_rfl
theorem hb118 : hasB Tryz.prog 118 = true := by kernel_rfl
theorem hb119 : hasB Tryz.prog 119 = true := by kernel_rfl
theorem hb12 : hasB Tryz.prog 12 = true := by kernel_rfl
theorem hb120 : hasB Tryz.prog 120 = true := by kernel_rfl
theorem hb121 : hasB Tryz.prog 121 = true := by kernel_rfl
theorem hb122 : hasB Tryz.prog 122 = true := by kernel_rfl
theorem hb123 : hasB Tryz.prog 123 = true := by kernel_rfl
theorem hb124 : hasB Tryz.prog 124 = true := by kernel_rfl
theorem hb125 : hasB Tryz.prog 125 = true := by kernel_rfl
theorem hb126 : hasB Tryz.prog 126 = true := by kernel_rfl
theorem hb127 : hasB Tryz.prog 127 = true := by kernel_rfl
theorem hb128 : hasB Tryz.prog 128 = true := by kernel_rfl
theorem hb129 : hasB Tryz.prog 129 = true := by kernel_rfl
theorem hb13 : hasB Tryz.prog 13 = true := by kernel_rfl
theorem hb130 : hasB Tryz.prog 130 = true := by kernel_rfl
theorem hb131 : hasB Tryz.prog 131 = true := by kernel_rfl
theorem hb132 : hasB Tryz.prog 132 = true := by kernel_rfl
theorem hb133 : hasB Tryz.prog 133 = true := by kernel_rfl
theorem hb134 : hasB Tryz.prog 134 = true := by kernel_rfl
theorem hb135 : hasB Tryz.prog 135 = true := by kernel_rfl
theorem hb136 : hasB Tryz.prog 136 = true := by kernel_rfl
theorem hb137 : hasB Tryz.prog 137 = true := by kernel_rfl
theorem hb138 : hasB Tryz.prog 138 = true := by kernel_rfl
theorem hb139 : hasB Tryz.prog 139 = true := by kernel_rfl
theorem hb14 : hasB Tryz.prog 14 = true := by kernel_rfl
theorem hb140 : hasB Tryz.prog 140 = true := by kernel_rfl
theorem hb141 : hasB Tryz.prog 141 = true := by kernel_rfl
theorem hb142 : hasB Tryz.prog 142 = true := by kernel_rfl
theorem hb143 : hasB Tryz.prog 143 = true := by kernel_rfl
theorem hb144 : hasB Tryz.prog 144 = true := by kernel_rfl
theorem hb145 : hasB Tryz.prog 145 = true := by kernel_rfl
theorem hb146 : hasB Tryz.prog 146 = true := by kernel_rfl
theorem hb147 : hasB Tryz.prog 147 = true := by kernel_rfl
theorem hb15 : hasB Tryz.prog 15 = true := by kernel_rfl
theorem hb16 : hasB Tryz.prog 16 = true := by kernel_rfl
theorem hb17 : hasB Tryz.prog 17 = true := by kernel_rfl
theorem hb18 : hasB Tryz.prog 18 = true := by kernel_rfl
theorem hb19 : hasB Tryz.prog 19 = true := by kernel_rfl
theorem hb20 : hasB Tryz.prog 20 = true := by kernel_rfl
theorem hb21 : hasB Tryz.prog 21 = true := by kernel_rfl
theorem hb22 : hasB Tryz.prog 22 = true := by kernel_rfl
theorem hb23 : hasB Tryz.prog 23 = true := by kernel_rfl
theorem hb24 : hasB Tryz.prog 24 = true := by kernel_rfl
theorem hb25 : hasB Tryz.prog 25 = true := by kernel_rfl
theorem hb26 : hasB Tryz.prog 26 = true := by kernel_rfl
theorem hb27 : hasB Tryz.prog 27 = true := by kernel_rfl
theorem hb28 : hasB Tryz.prog 28 = true := by kernel_rfl
theorem hb29 : hasB Tryz.prog 29 = true := by kernel_rfl
theorem hb3 : hasB Tryz.prog 3 = true := by kernel_rfl
theorem hb30 : hasB Tryz.prog 30 = true := by kernel_rfl
theorem hb31 : hasB Tryz.prog 31 = true := by kernel_rfl
theorem hb32 : hasB Tryz.prog 32 = true := by kernel_rfl
theorem hb33 : hasB Tryz.prog 33 = true := by kernel_rfl
theorem hb34 : hasB Tryz.prog 34 = true := by kernel_rfl
theorem hb35 : hasB Tryz.prog 35 = true := by kernel_rfl
theorem hb36 : hasB Tryz.prog 36 = true := by kernel_rfl
theorem hb37 : hasB Tryz.prog 37 = true := by kernel_rfl
theorem hb38 : hasB Tryz.prog 38 = true := by kernel_rfl
theorem hb39 : hasB Tryz.prog 39 = true := by kernel_rfl
theorem hb4 : hasB Tryz.prog 4 = true := by kernel_rfl
theorem hb40 : hasB Tryz.prog 40 = true := by kernel_rfl
theorem hb41 : hasB Tryz.prog 41 = true := by kernel_rfl
theorem hb42 : hasB Tryz.prog 42 = true := by kernel_rfl
theorem hb43 : hasB Tryz.prog 43 = true := by kernel_rfl
theorem hb44 : hasB Tryz.prog 44 = true := by kernel_rfl
theorem hb45 : hasB Tryz.prog 45 = true := by kernel_rfl
theorem hb46 : hasB Tryz.prog 46 = true := by kernel_rfl
theorem hb47 : hasB Tryz.prog 47 = true := by kernel_rfl
theorem hb48 : hasB Tryz.prog 48 = true := by kernel_rfl
theorem hb49 : hasB Tryz.prog 49 = true := by kernel_rfl
theorem hb5 : hasB Tryz.prog 5 = true := by kernel_rfl
theorem hb50 : hasB Tryz.prog 50 = true := by kernel_rfl
theorem hb51 : hasB Tryz.prog 51 = true := by kernel_rfl
theorem hb52 : hasB Tryz.prog 52 = true := by kernel_rfl
theorem hb53 : hasB Tryz.prog 53 = true := by kernel_rfl
theorem hb54 : hasB Tryz.prog 54 = true := by kernel_rfl
theorem hb55 : hasB Tryz.prog 55 = true := by kernel_rfl
theorem hb56 : hasB Tryz.prog 56 = true := by kernel_rfl
theorem hb57 : hasB Tryz.prog 57 = true := by kernel_rfl
theorem hb58 : hasB Tryz.prog 58 = true := by kernel_rfl
theorem hb59 : hasB Tryz.prog 59 = true := by kernel_rfl
theorem hb6 : hasB Tryz.prog 6 = true := by kernel_rfl
theorem hb60 : hasB Tryz.prog 60 = true := by kernel_rfl
theorem hb61 : hasB Tryz.prog 61 = true := by kernel_rfl
theorem hb62 : hasB Tryz.prog 62 = true := by kernel_rfl
theorem hb63 : hasB Tryz.prog 63 = true := by kernel_rfl
theorem hb64 : hasB Tryz.prog 64 = true := by kernel_rfl
theorem hb65 : hasB Tryz.prog 65 = true := by kernel_rfl
theorem hb66 : hasB Tryz.prog 66 = true := by kernel_rfl
theorem hb67 : hasB Tryz.prog 67 = true := by kernel_rfl
theorem hb68 : hasB Tryz.prog 68 = true := by kernel_rfl
theorem hb69 : hasB Tryz.prog 69 = true := by kernel_rfl
theorem hb7 : hasB Tryz.prog 7 = true := by kernel_rfl
theorem hb70 : hasB Tryz.prog 70 = true := by kernel_rfl
theorem hb71 : hasB Tryz.prog 71 = true := by kernel_rfl
theorem hb72 : hasB Tryz.prog 72 = true := by kernel_rfl
theorem hb73 : hasB Tryz.prog 73 = true := by kernel_rfl
theorem hb74 : hasB Tryz.prog 74 = true := by kernel_rfl
theorem hb75 : hasB Tryz.prog 75 = true := by kernel_rfl
theorem hb76 : hasB Tryz.prog 76 = true := by kernel_rfl
theorem hb77 : hasB Tryz.prog 77 = true := by kernel_rfl
theorem hb78 : hasB Tryz.prog 78 = true := by kernel_rfl
theorem hb79 : hasB Tryz.prog 79 = true := by kernel_rfl
theorem hb8 : hasB Tryz.prog 8 = true := by kernel_rfl
theorem hb80 : hasB Tryz.prog 80 = true := by kernel_rfl
theorem hb81 : hasB Tryz.prog 81 = true := by kernel_rfl
theorem hb82 : hasB Tryz.prog 82 = true := by kernel_rfl
theorem hb83 : hasB Tryz.prog 83 = true := by kernel_rfl
theorem hb84 : hasB Tryz.prog 84 = true := by kernel_rfl
theorem hb85 : hasB Tryz.prog 85 = true := by kernel_rfl
theorem hb86 : hasB Tryz.prog 86 = true := by kernel_rfl
theorem hb87 : hasB Tryz.prog 87 = true := by kernel_rfl
theorem hb88 : hasB Tryz.prog 88 = true := by kernel_rfl
theorem hb89 : hasB Tryz.prog 89 = true := by kernel_rfl
theorem hb9 : hasB Tryz.prog 9 = true := by kernel_rfl
theorem hb90 : hasB Tryz.prog 90 = true := by kernel_rfl
theorem hb91 : hasB Tryz.prog 91 = true := by kernel_rfl
theorem hb92 : hasB Tryz.prog 92 = true := by kernel_rfl
theorem hb93 : hasB Tryz.prog 93 = true := by kernel_rfl
theorem hb94 : hasB Tryz.prog 94 = true := by kernel_rfl
theorem hb95 : hasB Tryz.prog 95 = true := by kernel_rfl
theorem hb96 : hasB Tryz.prog 96 = true := by kernel_rfl
theorem hb97 : hasB Tryz.prog 97 = true := by kernel_rfl
theorem hb98 : hasB Tryz.prog 98 = true := by kernel_rfl
theorem hb99 : hasB Tryz.prog 99 = true := by kernel_rfl
theorem in3 : inK Tryz.prog 3 = some .i64 := by kernel_rfl
theorem in5 : inK Tryz.prog 5 = some .u8 := by kernel_rfl
theorem in57 : inK Tryz.prog 57 = some .u64 := by kernel_rfl
theorem in61 : inK Tryz.prog 61 = none := by kernel_rfl
theorem in9 : inK Tryz.prog 9 = none := by kernel_rfl
theorem kd102 : kd Tryz.prog 102 = 9 := by kernel_rfl
theorem kd132 : kd Tryz.prog 132 = 4 := by kernel_rfl
theorem kd170 : kd Tryz.prog 170 = 9 := by kernel_rfl
theorem kd22 : kd Tryz.prog 22 = 4 := by kernel_rfl
theorem kd3 : kd Tryz.prog 3 = 9 := by kernel_rfl
theorem kd38 : kd Tryz.prog 38 = 4 := by kernel_rfl
theorem kd4 : kd Tryz.prog 4 = 2 := by kernel_rfl
theorem kd49 : kd Tryz.prog 49 = 4 := by kernel_rfl
theorem kd5 : kd Tryz.prog 5 = 9 := by kernel_rfl
theorem kd57 : kd Tryz.prog 57 = 9 := by kernel_rfl
theorem kd61 : kd Tryz.prog 61 = 1 := by kernel_rfl
theorem kd9 : kd Tryz.prog 9 = 0 := by kernel_rfl
theorem mix : Tryz.prog.follows .mixedOrders = true := by kernel_rfl
theorem ni132 : ∀ k, Tryz.prog.underlying 132 ≠ some (.int k) := by intro k; rw [show Tryz.prog.underlying 132 = some (.slice 135) from by kernel_rfl]; simp
theorem ni38 : ∀ k, Tryz.prog.underlying 38 ≠ some (.int k) := by intro k; rw [show Tryz.prog.underlying 38 = some (.slice 49) from by kernel_rfl]; simp
theorem ni49 : ∀ k, Tryz.prog.underlying 49 ≠ some (.int k) := by intro k; rw [show Tryz.prog.underlying 49 = some (.slice 3) from by kernel_rfl]; simp
theorem ni61 : ∀ k, Tryz.prog.underlying 61 ≠ some (.int k) := by intro k; rw [show Tryz.prog.underlying 61 = some (.slice 5) from by kernel_rfl]; simp
theorem ni9 : ∀ k, Tryz.prog.underlying 9 ≠ some (.int k) := by intro k; rw [show Tryz.prog.underlying 9 = some .string from by kernel_rfl]; simp
theorem sz102 : sz Tryz.prog 102 = some 1 := by kernel_rfl
theorem sz115 : sz Tryz.prog 115 = some 3 := by kernel_rfl
theorem sz135 : sz Tryz.prog 135 = some 2 := by kernel_rfl
theorem sz148 : sz Tryz.prog 148 = some 4 := by kernel_rfl
theorem sz3 : sz Tryz.prog 3 = some 1 := by kernel_rfl
theorem sz34 : sz Tryz.prog 34 = some 4 := by kernel_rfl
theorem sz38 : sz Tryz.prog 38 = some 1 := by kernel_rfl
theorem sz4 : sz Tryz.prog 4 = some 1 := by kernel_rfl
theorem sz49 : sz Tryz.prog 49 = some 1 := by kernel_rfl
theorem sz5 : sz Tryz.prog 5 = some 1 := by kernel_rfl
theorem sz51 : sz Tryz.prog 51 = some 1 := by kernel_rfl
theorem sz54 : sz Tryz.prog 54 = some 1 := by kernel_rfl
theorem sz75 : sz Tryz.prog 75 = some 1 := by kernel_rfl
theorem sz82 : sz Tryz.prog 82 = some 7 := by kernel_rfl
theorem sz9 : sz Tryz.prog 9 = some 1 := by kernel_rfl
theorem sz97 : sz Tryz.prog 97 = some 3 := by kernel_rfl
theorem us102 : (Tryz.prog.underlying 102).isSome = true := by kernel_rfl
theorem us132 : (Tryz.prog.underlying 132).isSome = true := by kernel_rfl
theorem us3 : (Tryz.prog.underlying 3).isSome = true := by kernel_rfl
theorem us38 : (Tryz.prog.underlying 38).isSome = true := by kernel_rfl
theorem us49 : (Tryz.prog.underlying 49).isSome = true := by kernel_rfl
theorem us5 : (Tryz.prog.underlying 5).isSome = true := by kernel_rfl
theorem us61 : (Tryz.prog.underlying 61).isSome = true := by kernel_rfl
theorem us9 : (Tryz.prog.underlying 9).isSome = true := by kernel_rfl
theorem z115 : zV Tryz.prog 115 = some (.agg #[.int .i64 0, .int .i64 0, .slice none 0 0]) := by kernel_rfl
theorem z135 : zV Tryz.prog 135 = some (.agg #[.bool false, .slice none 0 0]) := by kernel_rfl
theorem z148 : zV Tryz.prog 148 = some (.agg #[.int .i64 0, .slice none 0 0, .int .i64 0, .int .i64 0]) := by kernel_rfl
theorem z170 : zV Tryz.prog 170 = some (.agg #[.int .u8 0, .int .u8 0, .int .u8 0, .int .u8 0, .int .u8 0, .int .u8 0, .int .u8 0, .int .u8 0, .int .u8 0, .int .u8 0, .int .u8 0, .int .u8 0, .int .u8 0, .int .u8 0, .int .u8 0, .int .u8 0, .int .u8 0, .int .u8 0, .int .u8 0, .int .u8 0, .int .u8 0, .int .u8 0, .int .u8 0, .int .u8 0]) := by kernel_rfl
theorem z34 : zV Tryz.prog 34 = some (.agg #[.pointer none, .pointer none, .pointer none, .pointer none]) := by kernel_rfl
theorem z82 : zV Tryz.prog 82 = some (.agg #[.int .i64 0, .int .i64 0, .bool false, .slice none 0 0, .string ⟨#[]⟩, .int .i64 0, .int .i64 0]) := by kernel_rfl
theorem z97 : zV Tryz.prog 97 = some (.agg #[.int .i64 0, .int .i64 0, .int .i64 0]) := by kernel_rfl
end Go.Proofs.Qxb6500401aGreat.T
