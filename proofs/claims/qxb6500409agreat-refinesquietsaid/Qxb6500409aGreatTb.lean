import Derived.Test.Qxb6500409aGreatProg
import Derived.Test.Qxb6500409aGreatEc
set_option linter.unusedVariables false
namespace Go.Proofs.Qxb6500409aGreat.T
open Go.Eng
theorem ag27 : agS Tryz.prog 27 = some none := by kernel_rfl
theorem ag28 : agS Tryz.prog 28 = some none := by kernel_rfl
theorem ag3 : agS Tryz.prog 3 = some none := by kernel_rfl
theorem ag30 : agS Tryz.prog 30 = some (some 3) := by kernel_rfl
theorem ag4 : agS Tryz.prog 4 = some none := by kernel_rfl
theorem ag43 : agS Tryz.prog 43 = some (some 6) := by kernel_rfl
theorem ag47 : agS Tryz.prog 47 = some none := by kernel_rfl
theorem ag48 : agS Tryz.prog 48 = some none := by kernel_rfl
theorem ag5 : agS Tryz.prog 5 = some none := by kernel_rfl
theorem ag58 : agS Tryz.prog 58 = some none := by kernel_rfl
theorem ag72 : agS Tryz.prog 72 = some (some 4) := by kernel_rfl
theorem ag79 : agS Tryz.prog 79 = some none := by kernel_rfl
theorem ag80 : agS Tryz.prog 80 = some none := by kernel_rfl
theorem ag9 : agS Tryz.prog 9 = some none := by kernel_rfl
theorem ar135 : arS Tryz.prog 135 = some (11, 1) := by kernel_rfl
theorem bld101 : buildV Tryz.prog 101 [] = some (.agg #[.int .i64 0]) := by kernel_rfl
theorem bld103 : buildV Tryz.prog 103 [] = some (.agg #[.slice none 0 0, .slice none 0 0]) := by kernel_rfl
theorem bld106_0_1 : ∀ (x0 : Int) (x1 : Int), buildV Tryz.prog 106 [(0, .int .i64 x0), (1, .int .i64 x1)] = some (.agg #[.int .i64 x0, .int .i64 x1, .int .i64 0]) := by intros; kernel_rfl
theorem bld106_2 : ∀ (x2 : Int), buildV Tryz.prog 106 [(2, .int .i64 x2)] = some (.agg #[.int .i64 0, .int .i64 0, .int .i64 x2]) := by intros; kernel_rfl
theorem bld127 : buildV Tryz.prog 127 [] = some (.agg #[.slice none 0 0, .int .i64 0]) := by kernel_rfl
theorem bld30_0_1_2 : ∀ (x0 : Option Addr) (x1 : Option Addr) (x2 : Option Addr), buildV Tryz.prog 30 [(0, .pointer x0), (1, .pointer x1), (2, .pointer x2)] = some (.agg #[.pointer x0, .pointer x1, .pointer x2]) := by intros; kernel_rfl
theorem bld38 : buildV Tryz.prog 38 [] = some (.agg #[.string ⟨#[]⟩, .int .i64 0, .string ⟨#[]⟩, .string ⟨#[]⟩, .string ⟨#[]⟩, .bool false]) := by kernel_rfl
theorem bld50_0_1_2 : ∀ (x0 : Option Addr) (x1 : Option Addr) (x2 : Option Addr), buildV Tryz.prog 50 [(0, .pointer x0), (1, .pointer x1), (2, .pointer x2)] = some (.agg #[.pointer x0, .pointer x1, .pointer x2, .bool false, .int .i64 0, .int .i64 0, .int .i64 0, .int .i64 0, .int .i64 0, .slice none 0 0, .int .i64 0, .int .i64 0, .int .i64 0, .int .i64 0, .slice none 0 0, .int .i64 0, .int .i64 0, .slice none 0 0, .int .i64 0, .int .i64 0, .int .i64 0]) := by intros; kernel_rfl
theorem bld52 : buildV Tryz.prog 52 [] = some (.agg #[.string ⟨#[]⟩, .int .i64 0, .int .i64 0]) := by kernel_rfl
theorem bld65_0 : ∀ (x0 : Option Addr) (x0n x0c : Nat), buildV Tryz.prog 65 [(0, .slice x0 x0n x0c)] = some (.agg #[.slice x0 x0n x0c, .int .i64 0, .int .i64 0]) := by intros; kernel_rfl
theorem bld67 : buildV Tryz.prog 67 [] = some (.agg #[.int .i64 0, .slice none 0 0, .slice none 0 0, .slice none 0 0, .slice none 0 0, .int .i64 0, .slice none 0 0, .slice none 0 0, .slice none 0 0, .slice none 0 0, .slice none 0 0, .slice none 0 0, .int .i64 0]) := by kernel_rfl
theorem bld72_0_1 : ∀ (x0 : ByteArray) (x1 : Int), buildV Tryz.prog 72 [(0, .string x0), (1, .int .i64 x1)] = some (.agg #[.string x0, .int .i64 x1, .int .i64 0, .int .i64 0]) := by intros; kernel_rfl
theorem bld72_0_1_2_3 : ∀ (x0 : ByteArray) (x1 : Int) (x2 : Int) (x3 : Int), buildV Tryz.prog 72 [(0, .string x0), (1, .int .i64 x1), (2, .int .i64 x2), (3, .int .i64 x3)] = some (.agg #[.string x0, .int .i64 x1, .int .i64 x2, .int .i64 x3]) := by intros; kernel_rfl
theorem bld72_1_2 : ∀ (x1 : Int) (x2 : Int), buildV Tryz.prog 72 [(1, .int .i64 x1), (2, .int .i64 x2)] = some (.agg #[.string ⟨#[]⟩, .int .i64 x1, .int .i64 x2, .int .i64 0]) := by intros; kernel_rfl
theorem bld82 : buildV Tryz.prog 82 [] = some (.agg #[.pointer none, .pointer none]) := by kernel_rfl
theorem bs47_3_0_1_2 : ∀ (x0 : Int) (x1 : Int) (x2 : Int), Instr.fill (fun i => some (i * 1, 1)) (mkZ #[.int .i64 0] (3 * 1)) [(0, .int .i64 x0), (1, .int .i64 x1), (2, .int .i64 x2)] = some #[.int .i64 x0, .int .i64 x1, .int .i64 x2] := by intros; kernel_rfl
theorem bs48_1_0 : ∀ (x0 : Int), Instr.fill (fun i => some (i * 1, 1)) (mkZ #[.int .u8 0] (1 * 1)) [(0, .int .u8 x0)] = some #[.int .u8 x0] := by intros; kernel_rfl
theorem bs85_1_0 : ∀ (x0_0 : Int) (x0_1 : Int) (x0_2 : Int), Instr.fill (fun i => some (i * 3, 3)) (mkZ #[.int .i64 0, .int .i64 0, .int .i64 0] (1 * 3)) [(0, .agg #[.int .i64 x0_0, .int .i64 x0_1, .int .i64 x0_2])] = some #[.int .i64 x0_0, .int .i64 x0_1, .int .i64 x0_2] := by intros; kernel_rfl
theorem ei47 : elI Tryz.prog 47 = some (3, 1, 8, #[.int .i64 0]) := by kernel_rfl
theorem ei48 : elI Tryz.prog 48 = some (5, 1, 1, #[.int .u8 0]) := by kernel_rfl
theorem ei85 : elI Tryz.prog 85 = some (106, 3, 24, #[.int .i64 0, .int .i64 0, .int .i64 0]) := by kernel_rfl
theorem el22 : elS Tryz.prog 22 = some 6 := by kernel_rfl
theorem el47 : elS Tryz.prog 47 = some 1 := by kernel_rfl
theorem el48 : elS Tryz.prog 48 = some 1 := by kernel_rfl
theorem el85 : elS Tryz.prog 85 = some 3 := by kernel_rfl
theorem f103_0 : fOff Tryz.prog 103 0 = some 0 := by kernel_rfl
theorem f103_1 : fOff Tryz.prog 103 1 = some 1 := by kernel_rfl
theorem f106_0 : fOff Tryz.prog 106 0 = some 0 := by kernel_rfl
theorem f106_1 : fOff Tryz.prog 106 1 = some 1 := by kernel_rfl
theorem f106_2 : fOff Tryz.prog 106 2 = some 2 := by kernel_rfl
theorem f127_0 : fOff Tryz.prog 127 0 = some 0 := by kernel_rfl
theorem f127_1 : fOff Tryz.prog 127 1 = some 1 := by kernel_rfl
theorem f30_0 : fOff Tryz.prog 30 0 = some 0 := by kernel_rfl
theorem f30_1 : fOff Tryz.prog 30 1 = some 1 := by kernel_rfl
theorem f30_2 : fOff Tryz.prog 30 2 = some 2 := by kernel_rfl
theorem f38_0 : fOff Tryz.prog 38 0 = some 0 := by kernel_rfl
theorem f38_1 : fOff Tryz.prog 38 1 = some 1 := by kernel_rfl
theorem f38_2 : fOff Tryz.prog 38 2 = some 2 := by kernel_rfl
theorem f38_3 : fOff Tryz.prog 38 3 = some 3 := by kernel_rfl
theorem f38_4 : fOff Tryz.prog 38 4 = some 4 := by kernel_rfl
theorem f38_5 : fOff Tryz.prog 38 5 = some 5 := by kernel_rfl
theorem f43_0 : fOff Tryz.prog 43 0 = some 0 := by kernel_rfl
theorem f43_1 : fOff Tryz.prog 43 1 = some 1 := by kernel_rfl
theorem f43_2 : fOff Tryz.prog 43 2 = some 2 := by kernel_rfl
theorem f43_4 : fOff Tryz.prog 43 4 = some 4 := by kernel_rfl
theorem f50_0 : fOff Tryz.prog 50 0 = some 0 := by kernel_rfl
theorem f50_1 : fOff Tryz.prog 50 1 = some 1 := by kernel_rfl
theorem f50_10 : fOff Tryz.prog 50 10 = some 10 := by kernel_rfl
theorem f50_11 : fOff Tryz.prog 50 11 = some 11 := by kernel_rfl
theorem f50_12 : fOff Tryz.prog 50 12 = some 12 := by kernel_rfl
theorem f50_13 : fOff Tryz.prog 50 13 = some 13 := by kernel_rfl
theorem f50_14 : fOff Tryz.prog 50 14 = some 14 := by kernel_rfl
theorem f50_15 : fOff Tryz.prog 50 15 = some 15 := by kernel_rfl
theorem f50_16 : fOff Tryz.prog 50 16 = some 16 := by kernel_rfl
theorem f50_17 : fOff Tryz.prog 50 17 = some 17 := by kernel_rfl
theorem f50_18 : fOff Tryz.prog 50 18 = some 18 := by kernel_rfl
theorem f50_19 : fOff Tryz.prog 50 19 = some 19 := by kernel_rfl
theorem f50_2 : fOff Tryz.prog 50 2 = some 2 := by kernel_rfl
theorem f50_20 : fOff Tryz.prog 50 20 = some 20 := by kernel_rfl
theorem f50_3 : fOff Tryz.prog 50 3 = some 3 := by kernel_rfl
theorem f50_4 : fOff Tryz.prog 50 4 = some 4 := by kernel_rfl
theorem f50_5 : fOff Tryz.prog 50 5 = some 5 := by kernel_rfl
theorem f50_6 : fOff Tryz.prog 50 6 = some 6 := by kernel_rfl
theorem f50_7 : fOff Tryz.prog 50 7 = some 7 := by kernel_rfl
theorem f50_8 : fOff Tryz.prog 50 8 = some 8 := by kernel_rfl
theorem f50_9 : fOff Tryz.prog 50 9 = some 9 := by kernel_rfl
theorem f52_0 : fOff Tryz.prog 52 0 = some 0 := by kernel_rfl
theorem f52_1 : fOff Tryz.prog 52 1 = some 1 := by kernel_rfl
theorem f52_2 : fOff Tryz.prog 52 2 = some 2 := by kernel_rfl
theorem f65_0 : fOff Tryz.prog 65 0 = some 0 := by kernel_rfl
theorem f65_1 : fOff Tryz.prog 65 1 = some 1 := by kernel_rfl
theorem f65_2 : fOff Tryz.prog 65 2 = some 2 := by kernel_rfl
theorem f67_0 : fOff Tryz.prog 67 0 = some 0 := by kernel_rfl
theorem f67_1 : fOff Tryz.prog 67 1 = some 1 := by kernel_rfl
theorem f67_10 : fOff Tryz.prog 67 10 = some 10 := by kernel_rfl
theorem f67_11 : fOff Tryz.prog 67 11 = some 11 := by kernel_rfl
theorem f67_2 : fOff Tryz.prog 67 2 = some 2 := by kernel_rfl
theorem f67_3 : fOff Tryz.prog 67 3 = some 3 := by kernel_rfl
theorem f67_4 : fOff Tryz.prog 67 4 = some 4 := by kernel_rfl
theorem f67_5 : fOff Tryz.prog 67 5 = some 5 := by kernel_rfl
theorem f67_6 : fOff Tryz.prog 67 6 = some 6 := by kernel_rfl
theorem f67_7 : fOff Tryz.prog 67 7 = some 7 := by kernel_rfl
theorem f67_8 : fOff Tryz.prog 67 8 = some 8 := by kernel_rfl
theorem f67_9 : fOff Tryz.prog 67 9 = some 9 := by kernel_rfl
theorem f72_0 : fOff Tryz.prog 72 0 = some 0 := by kernel_rfl
theorem f72_1 : fOff Tryz.prog 72 1 = some 1 := by kernel_rfl
theorem f72_2 : fOff Tryz.prog 72 2 = some 2 := by kernel_rfl
theorem f72_3 : fOff Tryz.prog 72 3 = some 3 := by kernel_rfl
theorem f82_0 : fOff Tryz.prog 82 0 = some 0 := by kernel_rfl
theorem f82_1 : fOff Tryz.prog 82 1 = some 1 := by kernel_rfl
theorem hb10 : hasB Tryz.prog 10 = true := by kernel_rfl
theorem hb100 : hasB Tryz.prog 100 = true := by kernel_rfl
theorem hb101 : hasB Tryz.prog 101 = true := by kernel_rfl
theorem hb102 : hasB Tryz.prog 102 = true := by kernel_rfl
theorem hb103 : hasB Tryz.prog 103 = true := by kernel_rfl
theorem hb104 : hasB Tryz.prog 104 = true := by kernel_rfl
theorem hb105 : hasB Tryz.prog 105 = true := by kernel_rfl
theorem hb106 : hasB Tryz.prog 106 = true := by kernel_rfl
theorem hb107 : hasB Tryz.prog 107 = true := by kernel_rfl
theorem hb108 : hasB Tryz.prog 108 = true := by kernel_rfl
theorem hb109 : hasB Tryz.prog 109 = true := by kernel_rfl
theorem hb11 : hasB Tryz.prog 11 = true := by kernel_rfl
theorem hb110 : hasB Tryz.prog 110 = true := by kernel_rfl
theorem hb111 : hasB Tryz.prog 111 = true := by kernel_rfl
theorem hb112 : hasB Tryz.prog 112 = true := by kernel_rfl
theorem hb113 : hasB Tryz.prog 113 = true := by kernel_rfl
theorem hb114 : hasB Tryz.prog 114 = true := by kernel_rfl
theorem hb115 : hasB Tryz.prog 115 = true := by kernel_rfl
theorem hb116 : hasB Tryz.prog 116 = true := by kernel_rfl
theorem hb117 : hasB Tryz.prog 117 = true := by kernel_rfl
theorem hb118 : hasB Tryz.prog 118 = true := by kernel_rfl
theorem hb119 : hasB Tryz.prog 119 = true := by kernel_rfl
theorem hb12 : hasB Tryz.prog 12 = true := by kernel_rfl
theorem hb120 : hasB Tryz.prog 120 = true := by kernel_rfl
theorem hb121 : hasB Tryz.prog 121 = true := by kernel_rfl
theorem hb13 : hasB Tryz.prog 13 = true := by kernel_rfl
theorem hb14 : hasB Tryz.prog 14 = true := by kernel_rfl
theorem hb15 : hasB Tryz.prog 15 = true := by kernel_rfl
theorem hb16 : hasB Tryz.prog 16 = true := by kernel_rfl
theorem hb17 : hasB Tryz.prog 17 = true := by kernel_rfl
theorem hb18 : hasB Tryz.prog 18 = true := by kernel_rfl
theorem hb19 : hasB Tryz.prog 19 = true := by kernel_rfl
theorem hb20 : hasB Tryz.prog 20 = true := by kernel_rfl
theorem hb21 : hasB Tryz.prog 21 = true := by kernel_rfl
theorem hb22 : hasB Tryz.prog 22 = true := by kernel_rfl
theorem hb23 : hasB Tryz.prog 23 = true := by kernel_rfl
theorem hb24 : hasB Tryz.prog 24 = true := by kernel_rfl
theorem hb25 : hasB Tryz.prog 25 = true := by kernel_rfl
theorem hb26 : hasB Tryz.prog 26 = true := by kernel_rfl
theorem hb27 : hasB Tryz.prog 27 = true := by kernel_rfl
theorem hb28 : hasB Tryz.prog 28 = true := by kernel_rfl
theorem hb29 : hasB Tryz.prog 29 = true := by kernel_rfl
theorem hb3 : hasB Tryz.prog 3 = true := by kernel_rfl
theorem hb30 : hasB Tryz.prog 30 = true := by kernel_rfl
theorem hb31 : hasB Tryz.prog 31 = true := by kernel_rfl
theorem hb32 : hasB Tryz.prog 32 = true := by kernel_rfl
theorem hb33 : hasB Tryz.prog 33 = true := by kernel_rfl
theorem hb34 : hasB Tryz.prog 34 = true := by kernel_rfl
theorem hb35 : hasB Tryz.prog 35 = true := by kernel_rfl
theorem hb36 : hasB Tryz.prog 36 = true := by kernel_rfl
theorem hb37 : hasB Tryz.prog 37 = true := by kernel_rfl
theorem hb38 : hasB Tryz.prog 38 = true := by kernel_rfl
theorem hb39 : hasB Tryz.prog 39 = true := by kernel_rfl
theorem hb4 : hasB Tryz.prog 4 = true := by kernel_rfl
theorem hb40 : hasB Tryz.prog 40 = true := by kernel_rfl
theorem hb41 : hasB Tryz.prog 41 = true := by kernel_rfl
theorem hb42 : hasB Tryz.prog 42 = true := by kernel_rfl
theorem hb43 : hasB Tryz.prog 43 = true := by kernel_rfl
theorem hb44 : hasB Tryz.prog 44 = true := by kernel_rfl
theorem hb45 : hasB Tryz.prog 45 = true := by kernel_rfl
theorem hb46 : hasB Tryz.prog 46 = true := by kernel_rfl
theorem hb47 : hasB Tryz.prog 47 = true := by kernel_rfl
theorem hb48 : hasB Tryz.prog 48 = true := by kernel_rfl
theorem hb49 : hasB Tryz.prog 49 = true := by kernel_rfl
theorem hb5 : hasB Tryz.prog 5 = true := by kernel_rfl
theorem hb50 : hasB Tryz.prog 50 = true := by kernel_rfl
theorem hb51 : hasB Tryz.prog 51 = true := by kernel_rfl
theorem hb52 : hasB Tryz.prog 52 = true := by kernel_rfl
theorem hb53 : hasB Tryz.prog 53 = true := by kernel_rfl
theorem hb54 : hasB Tryz.prog 54 = true := by kernel_rfl
theorem hb55 : hasB Tryz.prog 55 = true := by kernel_rfl
theorem hb56 : hasB Tryz.prog 56 = true := by kernel_rfl
theorem hb57 : hasB Tryz.prog 57 = true := by kernel_rfl
theorem hb58 : hasB Tryz.prog 58 = true := by kernel_rfl
theorem hb59 : hasB Tryz.prog 59 = true := by kernel_rfl
theorem hb6 : hasB Tryz.prog 6 = true := by kernel_rfl
theorem hb60 : hasB Tryz.prog 60 = true := by kernel_rfl
theorem hb61 : hasB Tryz.prog 61 = true := by kernel_rfl
theorem hb62 : hasB Tryz.prog 62 = true := by kernel_rfl
theorem hb63 : hasB Tryz.prog 63 = true := by kernel_rfl
theorem hb64 : hasB Tryz.prog 64 = true := by kernel_rfl
theorem hb65 : hasB Tryz.prog 65 = true := by kernel_rfl
theorem hb66 : hasB Tryz.prog 66 = true := by kernel_rfl
theorem hb67 : hasB Tryz.prog 67 = true := by kernel_rfl
theorem hb68 : hasB Tryz.prog 68 = true := by kernel_rfl
theorem hb69 : hasB Tryz.prog 69 = true := by kernel_rfl
theorem hb7 : hasB Tryz.prog 7 = true := by kernel_rfl
theorem hb70 : hasB Tryz.prog 70 = true := by kernel_rfl
theorem hb71 : hasB Tryz.prog 71 = true := by kernel_rfl
theorem hb72 : hasB Tryz.prog 72 = true := by kernel_rfl
theorem hb73 : hasB Tryz.prog 73 = true := by kernel_rfl
theorem hb74 : hasB Tryz.prog 74 = true := by kernel_rfl
theorem hb75 : hasB Tryz.prog 75 = true := by kernel_rfl
theorem hb76 : hasB Tryz.prog 76 = true := by kernel_rfl
theorem hb77 : hasB Tryz.prog 77 = true := by kernel_rfl
theorem hb78 : hasB Tryz.prog 78 = true := by kernel_rfl
theorem hb79 : hasB Tryz.prog 79 = true := by kernel_rfl
theorem hb8 : hasB Tryz.prog 8 = true := by kernel_rfl
theorem hb80 : hasB Tryz.prog 80 = true := by kernel_rfl
theorem hb81 : hasB Tryz.prog 81 = true := by kernel_rfl
theorem hb82 : hasB Tryz.prog 82 = true := by kernel_rfl
theorem hb83 : hasB Tryz.prog 83 = true := by kernel_rfl
theorem hb84 : hasB Tryz.prog 84 = true := by kernel_rfl
theorem hb85 : hasB Tryz.prog 85 = true := by kernel_rfl
theorem hb86 : hasB Tryz.prog 86 = true := by kernel_rfl
theorem hb87 : hasB Tryz.prog 87 = true := by kernel_rfl
theorem hb88 : hasB Tryz.prog 88 = true := by kernel_rfl
theorem hb89 : hasB Tryz.prog 89 = true := by kernel_rfl
theorem hb9 : hasB Tryz.prog 9 = true := by kernel_rfl
theorem hb90 : hasB Tryz.prog 90 = true := by kernel_rfl
theorem hb91 : hasB Tryz.prog 91 = true := by kernel_rfl
theorem hb92 : hasB Tryz.prog 92 = true := by kernel_rfl
theorem hb93 : hasB Tryz.prog 93 = true := by kernel_rfl
theorem hb94 : hasB Tryz.prog 94 = true := by kernel_rfl
theorem hb95 : hasB Tryz.prog 95 = true := by kernel_rfl
theorem hb96 : hasB Tryz.prog 96 = true := by kernel_rfl
theorem hb97 : hasB Tryz.prog 97 = true := by kernel_rfl
theorem hb98 : hasB Tryz.prog 98 = true := by kernel_rfl
theorem hb99 : hasB Tryz.prog 99 = true := by kernel_rfl
theorem in3 : inK Tryz.prog 3 = some .i64 := by kernel_rfl
theorem in48 : inK Tryz.prog 48 = none := by kernel_rfl
theorem in5 : inK Tryz.prog 5 = some .u8 := by kernel_rfl
theorem in55 : inK Tryz.prog 55 = some .u64 := by kernel_rfl
theorem in9 : inK Tryz.prog 9 = none := by kernel_rfl
theorem kd22 : kd Tryz.prog 22 = 4 := by kernel_rfl
theorem kd3 : kd Tryz.prog 3 = 9 := by kernel_rfl
theorem kd47 : kd Tryz.prog 47 = 4 := by kernel_rfl
theorem kd48 : kd Tryz.prog 48 = 1 := by kernel_rfl
theorem kd5 : kd Tryz.prog 5 = 9 := by kernel_rfl
theorem kd55 : kd Tryz.prog 55 = 9 := by kernel_rfl
theorem kd85 : kd Tryz.prog 85 = 4 := by kernel_rfl
theorem kd9 : kd Tryz.prog 9 = 0 := by kernel_rfl
theorem mix : Tryz.prog.follows .mixedOrders = true := by kernel_rfl
theorem ni47 : ∀ k, Tryz.prog.underlying 47 ≠ some (.int k) := by intro k; rw [show Tryz.prog.underlying 47 = some (.slice 3) from by kernel_rfl]; simp
theorem ni48 : ∀ k, Tryz.prog.underlying 48 ≠ some (.int k) := by intro k; rw [show Tryz.prog.underlying 48 = some (.slice 5) from by kernel_rfl]; simp
theorem ni85 : ∀ k, Tryz.prog.underlying 85 ≠ some (.int k) := by intro k; rw [show Tryz.prog.underlying 85 = some (.slice 106) from by kernel_rfl]; simp
theorem sz3 : sz Tryz.prog 3 = some 1 := by kernel_rfl
theorem sz30 : sz Tryz.prog 30 = some 3 := by kernel_rfl
theorem sz4 : sz Tryz.prog 4 = some 1 := by kernel_rfl
theorem sz47 : sz Tryz.prog 47 = some 1 := by kernel_rfl
theorem sz48 : sz Tryz.prog 48 = some 1 := by kernel_rfl
theorem sz5 : sz Tryz.prog 5 = some 1 := by kernel_rfl
theorem sz72 : sz Tryz.prog 72 = some 4 := by kernel_rfl
theorem sz79 : sz Tryz.prog 79 = some 1 := by kernel_rfl
theorem sz80 : sz Tryz.prog 80 = some 1 := by kernel_rfl
theorem sz9 : sz Tryz.prog 9 = some 1 := by kernel_rfl
theorem us3 : (Tryz.prog.underlying 3).isSome = true := by kernel_rfl
theorem us47 : (Tryz.prog.underlying 47).isSome = true := by kernel_rfl
theorem us48 : (Tryz.prog.underlying 48).isSome = true := by kernel_rfl
theorem us5 : (Tryz.prog.underlying 5).isSome = true := by kernel_rfl
theorem us85 : (Tryz.prog.underlying 85).isSome = true := by kernel_rfl
theorem us9 : (Tryz.prog.underlying 9).isSome = true := by kernel_rfl
theorem z135 : zV Tryz.prog 135 = some (.agg #[.int .i64 0, .int .i64 0, .int .i64 0, .int .i64 0, .int .i64 0, .int .i64 0, .int .i64 0, .int .i64 0, .int .i64 0, .int .i64 0, .int .i64 0]) := by kernel_rfl
theorem z30 : zV Tryz.prog 30 = some (.agg #[.pointer none, .pointer none, .pointer none]) := by kernel_rfl
theorem z72 : zV Tryz.prog 72 = some (.agg #[.string ⟨#[]⟩, .int .i64 0, .int .i64 0, .int .i64 0]) := by kernel_rfl
end Go.Proofs.Qxb6500409aGreat.T
