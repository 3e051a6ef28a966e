import Derived.Test.Qxb6500404aGreatProg
import Derived.Test.Qxb6500404aGreatEc
set_option linter.unusedVariables false
namespace Go.Proofs.Qxb6500404aGreat.T
open Go.Eng
theorem ag128 : agS Tryz.prog 128 = some (some 5) := by kernel_rfl
theorem ag133 : agS Tryz.prog 133 = some (some 6) := by kernel_rfl
theorem ag155 : agS Tryz.prog 155 = some (some 4) := by kernel_rfl
theorem ag27 : agS Tryz.prog 27 = some none := by kernel_rfl
theorem ag28 : agS Tryz.prog 28 = some none := by kernel_rfl
theorem ag3 : agS Tryz.prog 3 = some none := by kernel_rfl
theorem ag30 : agS Tryz.prog 30 = some (some 2) := by kernel_rfl
theorem ag37 : agS Tryz.prog 37 = some none := by kernel_rfl
theorem ag38 : agS Tryz.prog 38 = some none := by kernel_rfl
theorem ag4 : agS Tryz.prog 4 = some none := by kernel_rfl
theorem ag46 : agS Tryz.prog 46 = some (some 6) := by kernel_rfl
theorem ag47 : agS Tryz.prog 47 = some none := by kernel_rfl
theorem ag49 : agS Tryz.prog 49 = some none := by kernel_rfl
theorem ag5 : agS Tryz.prog 5 = some none := by kernel_rfl
theorem ag51 : agS Tryz.prog 51 = some none := by kernel_rfl
theorem ag55 : agS Tryz.prog 55 = some none := by kernel_rfl
theorem ag56 : agS Tryz.prog 56 = some none := by kernel_rfl
theorem ag57 : agS Tryz.prog 57 = some none := by kernel_rfl
theorem ag60 : agS Tryz.prog 60 = some none := by kernel_rfl
theorem ag71 : agS Tryz.prog 71 = some none := by kernel_rfl
theorem ag78 : agS Tryz.prog 78 = some none := by kernel_rfl
theorem ag79 : agS Tryz.prog 79 = some none := by kernel_rfl
theorem ag87 : agS Tryz.prog 87 = some none := by kernel_rfl
theorem ag9 : agS Tryz.prog 9 = some none := by kernel_rfl
theorem ar203 : arS Tryz.prog 203 = some (11, 1) := by kernel_rfl
theorem ar39 : arS Tryz.prog 39 = some (4, 1) := by kernel_rfl
theorem ar40 : arS Tryz.prog 40 = some (4, 1) := by kernel_rfl
theorem bld104_0_1 : ∀ (x0 : ByteArray) (x1 : ByteArray), buildV Tryz.prog 104 [(0, .string x0), (1, .string x1)] = some (.agg #[.string x0, .string x1]) := by intros; kernel_rfl
theorem bld108 : buildV Tryz.prog 108 [] = some (.agg #[.int .i64 0]) := by kernel_rfl
theorem bld110 : buildV Tryz.prog 110 [] = some (.agg #[.slice none 0 0, .slice none 0 0]) := by kernel_rfl
theorem bld122_0_1_2 : ∀ (x0 : ByteArray) (x1 : Int) (x2 : Int), buildV Tryz.prog 122 [(0, .string x0), (1, .int .i64 x1), (2, .int .i64 x2)] = some (.agg #[.string x0, .int .i64 x1, .int .i64 x2]) := by intros; kernel_rfl
theorem bld128 : buildV Tryz.prog 128 [] = some (.agg #[.int .i64 0, .int .i64 0, .int .i64 0, .int .i64 0, .int .i64 0]) := by kernel_rfl
theorem bld133_0_3_5 : ∀ (x0 : ByteArray) (x3 : Int) (x5 : Int), buildV Tryz.prog 133 [(0, .string x0), (3, .int .i64 x3), (5, .int .i64 x5)] = some (.agg #[.string x0, .int .i64 0, .int .i64 0, .int .i64 x3, .int .i64 0, .int .i64 x5]) := by intros; kernel_rfl
theorem bld155_0_1 : ∀ (x0 : ByteArray) (x1 : Int), buildV Tryz.prog 155 [(0, .string x0), (1, .int .i64 x1)] = some (.agg #[.string x0, .int .i64 x1, .int .i64 0, .int .i64 0]) := by intros; kernel_rfl
theorem bld155_0_1_2_3 : ∀ (x0 : ByteArray) (x1 : Int) (x2 : Int) (x3 : Int), buildV Tryz.prog 155 [(0, .string x0), (1, .int .i64 x1), (2, .int .i64 x2), (3, .int .i64 x3)] = some (.agg #[.string x0, .int .i64 x1, .int .i64 x2, .int .i64 x3]) := by intros; kernel_rfl
theorem bld155_1_2 : ∀ (x1 : Int) (x2 : Int), buildV Tryz.prog 155 [(1, .int .i64 x1), (2, .int .i64 x2)] = some (.agg #[.string ⟨#[]⟩, .int .i64 x1, .int .i64 x2, .int .i64 0]) := by intros; kernel_rfl
theorem bld174_0_1 : ∀ (x0 : Int) (x1 : Int), buildV Tryz.prog 174 [(0, .int .i64 x0), (1, .int .i64 x1)] = some (.agg #[.int .i64 x0, .int .i64 x1, .int .i64 0]) := by intros; kernel_rfl
theorem bld174_2 : ∀ (x2 : Int), buildV Tryz.prog 174 [(2, .int .i64 x2)] = some (.agg #[.int .i64 0, .int .i64 0, .int .i64 x2]) := by intros; kernel_rfl
theorem bld184 : buildV Tryz.prog 184 [] = some (.agg #[.slice none 0 0, .int .i64 0]) := by kernel_rfl
theorem bld30_0_1 : ∀ (x0 : Option Addr) (x1 : Option Addr), buildV Tryz.prog 30 [(0, .pointer x0), (1, .pointer x1)] = some (.agg #[.pointer x0, .pointer x1]) := by intros; kernel_rfl
theorem bld42 : buildV Tryz.prog 42 [] = some (.agg #[.string ⟨#[]⟩, .string ⟨#[]⟩, .string ⟨#[]⟩, .slice none 0 0, .slice none 0 0, .slice none 0 0, .slice none 0 0, .slice none 0 0, .slice none 0 0, .slice none 0 0, .slice none 0 0, .slice none 0 0, .slice none 0 0, .slice none 0 0, .slice none 0 0, .slice none 0 0, .int .i64 0, .int .i64 0, .slice none 0 0, .slice none 0 0, .int .i64 0, .int .i64 0, .bool false, .slice none 0 0, .slice none 0 0, .bool false, .slice none 0 0]) := by kernel_rfl
theorem bld59_0_1 : ∀ (x0 : Option Addr) (x1 : Option Addr), buildV Tryz.prog 59 [(0, .pointer x0), (1, .pointer x1)] = some (.agg #[.pointer x0, .pointer x1, .slice none 0 0, .int .i64 0, .slice none 0 0, .slice none 0 0, .slice none 0 0]) := by intros; kernel_rfl
theorem bld63_0 : ∀ (x0 : Option Addr), buildV Tryz.prog 63 [(0, .pointer x0)] = some (.agg #[.pointer x0]) := by intros; kernel_rfl
theorem bld68_0 : ∀ (x0 : Option Addr) (x0n x0c : Nat), buildV Tryz.prog 68 [(0, .slice x0 x0n x0c)] = some (.agg #[.slice x0 x0n x0c, .int .i64 0, .int .i64 0]) := by intros; kernel_rfl
theorem bld70 : buildV Tryz.prog 70 [] = some (.agg #[.int .i64 0, .slice none 0 0, .slice none 0 0, .slice none 0 0, .slice none 0 0, .int .i64 0, .slice none 0 0, .slice none 0 0, .slice none 0 0, .slice none 0 0, .slice none 0 0, .slice none 0 0, .int .i64 0]) := by kernel_rfl
theorem bld73 : buildV Tryz.prog 73 [] = some (.agg #[.slice none 0 0, .slice none 0 0, .slice none 0 0, .int .i64 0, .int .i64 0]) := by kernel_rfl
theorem bld75 : buildV Tryz.prog 75 [] = some (.agg #[.pointer none, .pointer none, .pointer none, .pointer none, .slice none 0 0, .slice none 0 0, .slice none 0 0, .slice none 0 0]) := by kernel_rfl
theorem bld77_0_1_2 : ∀ (x0 : Option Addr) (x1 : Option Addr) (x2 : Option Addr), buildV Tryz.prog 77 [(0, .pointer x0), (1, .pointer x1), (2, .pointer x2)] = some (.agg #[.pointer x0, .pointer x1, .pointer x2, .bool false, .int .i64 0, .int .i64 0, .int .i64 0, .int .i64 0, .int .i64 0, .slice none 0 0, .int .i64 0, .int .i64 0, .int .i64 0, .int .i64 0, .slice none 0 0, .int .i64 0, .int .i64 0, .slice none 0 0, .int .i64 0, .int .i64 0, .int .i64 0]) := by intros; kernel_rfl
theorem bld81 : buildV Tryz.prog 81 [] = some (.agg #[.pointer none, .pointer none]) := by kernel_rfl
theorem bs129_1_0 : ∀ (x0_0 : ByteArray) (x0_1 : Int) (x0_2 : Int) (x0_3 : Int) (x0_4 : Int) (x0_5 : Int), Instr.fill (fun i => some (i * 6, 6)) (mkZ #[.string ⟨#[]⟩, .int .i64 0, .int .i64 0, .int .i64 0, .int .i64 0, .int .i64 0] (1 * 6)) [(0, .agg #[.string x0_0, .int .i64 x0_1, .int .i64 x0_2, .int .i64 x0_3, .int .i64 x0_4, .int .i64 x0_5])] = some #[.string x0_0, .int .i64 x0_1, .int .i64 x0_2, .int .i64 x0_3, .int .i64 x0_4, .int .i64 x0_5] := by intros; kernel_rfl
theorem bs37_1_0 : ∀ (x0_0 : ByteArray) (x0_1 : ByteArray), Instr.fill (fun i => some (i * 2, 2)) (mkZ #[.string ⟨#[]⟩, .string ⟨#[]⟩] (1 * 2)) [(0, .agg #[.string x0_0, .string x0_1])] = some #[.string x0_0, .string x0_1] := by intros; kernel_rfl
theorem bs55_1_0 : ∀ (x0 : Int), Instr.fill (fun i => some (i * 1, 1)) (mkZ #[.int .u8 0] (1 * 1)) [(0, .int .u8 x0)] = some #[.int .u8 x0] := by intros; kernel_rfl
theorem bs55_2_0_1 : ∀ (x0 : Int) (x1 : Int), Instr.fill (fun i => some (i * 1, 1)) (mkZ #[.int .u8 0] (2 * 1)) [(0, .int .u8 x0), (1, .int .u8 x1)] = some #[.int .u8 x0, .int .u8 x1] := by intros; kernel_rfl
theorem bs56_3_0_1_2 : ∀ (x0 : Int) (x1 : Int) (x2 : Int), Instr.fill (fun i => some (i * 1, 1)) (mkZ #[.int .i64 0] (3 * 1)) [(0, .int .i64 x0), (1, .int .i64 x1), (2, .int .i64 x2)] = some #[.int .i64 x0, .int .i64 x1, .int .i64 x2] := by intros; kernel_rfl
theorem bs71_1_0 : ∀ (x0_0 : Int) (x0_1 : Int) (x0_2 : Int), Instr.fill (fun i => some (i * 3, 3)) (mkZ #[.int .i64 0, .int .i64 0, .int .i64 0] (1 * 3)) [(0, .agg #[.int .i64 x0_0, .int .i64 x0_1, .int .i64 x0_2])] = some #[.int .i64 x0_0, .int .i64 x0_1, .int .i64 x0_2] := by intros; kernel_rfl
theorem ei129 : elI Tryz.prog 129 = some (133, 6, 56, #[.string ⟨#[]⟩, .int .i64 0, .int .i64 0, .int .i64 0, .int .i64 0, .int .i64 0]) := by kernel_rfl
theorem ei37 : elI Tryz.prog 37 = some (104, 2, 32, #[.string ⟨#[]⟩, .string ⟨#[]⟩]) := by kernel_rfl
theorem ei38 : elI Tryz.prog 38 = some (122, 3, 32, #[.string ⟨#[]⟩, .int .i64 0, .int .i64 0]) := by kernel_rfl
theorem ei55 : elI Tryz.prog 55 = some (5, 1, 1, #[.int .u8 0]) := by kernel_rfl
theorem ei56 : elI Tryz.prog 56 = some (3, 1, 8, #[.int .i64 0]) := by kernel_rfl
theorem ei57 : elI Tryz.prog 57 = some (128, 5, 40, #[.int .i64 0, .int .i64 0, .int .i64 0, .int .i64 0, .int .i64 0]) := by kernel_rfl
theorem ei71 : elI Tryz.prog 71 = some (174, 3, 24, #[.int .i64 0, .int .i64 0, .int .i64 0]) := by kernel_rfl
theorem el129 : elS Tryz.prog 129 = some 6 := by kernel_rfl
theorem el22 : elS Tryz.prog 22 = some 6 := by kernel_rfl
theorem el37 : elS Tryz.prog 37 = some 2 := by kernel_rfl
theorem el38 : elS Tryz.prog 38 = some 3 := by kernel_rfl
theorem el55 : elS Tryz.prog 55 = some 1 := by kernel_rfl
theorem el56 : elS Tryz.prog 56 = some 1 := by kernel_rfl
theorem el57 : elS Tryz.prog 57 = some 5 := by kernel_rfl
theorem el71 : elS Tryz.prog 71 = some 3 := by kernel_rfl
theorem f104_0 : fOff Tryz.prog 104 0 = some 0 := by kernel_rfl
theorem f104_1 : fOff Tryz.prog 104 1 = some 1 := by kernel_rfl
theorem f110_0 : fOff Tryz.prog 110 0 = some 0 := by kernel_rfl
theorem f110_1 : fOff Tryz.prog 110 1 = some 1 := by kernel_rfl
theorem f122_0 : fOff Tryz.prog 122 0 = some 0 := by kernel_rfl
theorem f122_1 : fOff Tryz.prog 122 1 = some 1 := by kernel_rfl
theorem f122_2 : fOff Tryz.prog 122 2 = some 2 := by kernel_rfl
theorem f128_0 : fOff Tryz.prog 128 0 = some 0 := by kernel_rfl
theorem f128_1 : fOff Tryz.prog 128 1 = some 1 := by kernel_rfl
theorem f128_2 : fOff Tryz.prog 128 2 = some 2 := by kernel_rfl
theorem f128_3 : fOff Tryz.prog 128 3 = some 3 := by kernel_rfl
theorem f128_4 : fOff Tryz.prog 128 4 = some 4 := by kernel_rfl
theorem f133_0 : fOff Tryz.prog 133 0 = some 0 := by kernel_rfl
theorem f133_1 : fOff Tryz.prog 133 1 = some 1 := by kernel_rfl
theorem f133_2 : fOff Tryz.prog 133 2 = some 2 := by kernel_rfl
theorem f133_3 : fOff Tryz.prog 133 3 = some 3 := by kernel_rfl
theorem f133_4 : fOff Tryz.prog 133 4 = some 4 := by kernel_rfl
theorem f133_5 : fOff Tryz.prog 133 5 = some 5 := by kernel_rfl
theorem f155_0 : fOff Tryz.prog 155 0 = some 0 := by kernel_rfl
theorem f155_1 : fOff Tryz.prog 155 1 = some 1 := by kernel_rfl
theorem f155_2 : fOff Tryz.prog 155 2 = some 2 := by kernel_rfl
theorem f174_0 : fOff Tryz.prog 174 0 = some 0 := by kernel_rfl
theorem f174_1 : fOff Tryz.prog 174 1 = some 1 := by kernel_rfl
theorem f174_2 : fOff Tryz.prog 174 2 = some 2 := by kernel_rfl
theorem f184_0 : fOff Tryz.prog 184 0 = some 0 := by kernel_rfl
theorem f184_1 : fOff Tryz.prog 184 1 = some 1 := by kernel_rfl
theorem f30_0 : fOff Tryz.prog 30 0 = some 0 := by kernel_rfl
theorem f30_1 : fOff Tryz.prog 30 1 = some 1 := by kernel_rfl
theorem f42_0 : fOff Tryz.prog 42 0 = some 0 := by kernel_rfl
theorem f42_1 : fOff Tryz.prog 42 1 = some 1 := by kernel_rfl
theorem f42_10 : fOff Tryz.prog 42 10 = some 16 := by kernel_rfl
theorem f42_11 : fOff Tryz.prog 42 11 = some 17 := by kernel_rfl
theorem f42_12 : fOff Tryz.prog 42 12 = some 18 := by kernel_rfl
theorem f42_13 : fOff Tryz.prog 42 13 = some 19 := by kernel_rfl
theorem f42_14 : fOff Tryz.prog 42 14 = some 20 := by kernel_rfl
theorem f42_15 : fOff Tryz.prog 42 15 = some 21 := by kernel_rfl
theorem f42_16 : fOff Tryz.prog 42 16 = some 22 := by kernel_rfl
theorem f42_17 : fOff Tryz.prog 42 17 = some 23 := by kernel_rfl
theorem f42_18 : fOff Tryz.prog 42 18 = some 24 := by kernel_rfl
theorem f42_19 : fOff Tryz.prog 42 19 = some 25 := by kernel_rfl
theorem f42_2 : fOff Tryz.prog 42 2 = some 2 := by kernel_rfl
theorem f42_20 : fOff Tryz.prog 42 20 = some 26 := by kernel_rfl
theorem f42_3 : fOff Tryz.prog 42 3 = some 3 := by kernel_rfl
theorem f42_4 : fOff Tryz.prog 42 4 = some 4 := by kernel_rfl
theorem f42_5 : fOff Tryz.prog 42 5 = some 5 := by kernel_rfl
theorem f42_6 : fOff Tryz.prog 42 6 = some 6 := by kernel_rfl
theorem f42_7 : fOff Tryz.prog 42 7 = some 7 := by kernel_rfl
theorem f42_8 : fOff Tryz.prog 42 8 = some 8 := by kernel_rfl
theorem f42_9 : fOff Tryz.prog 42 9 = some 12 := by kernel_rfl
theorem f46_0 : fOff Tryz.prog 46 0 = some 0 := by kernel_rfl
theorem f46_1 : fOff Tryz.prog 46 1 = some 1 := by kernel_rfl
theorem f46_2 : fOff Tryz.prog 46 2 = some 2 := by kernel_rfl
theorem f46_4 : fOff Tryz.prog 46 4 = some 4 := by kernel_rfl
theorem f59_0 : fOff Tryz.prog 59 0 = some 0 := by kernel_rfl
theorem f59_1 : fOff Tryz.prog 59 1 = some 1 := by kernel_rfl
theorem f59_2 : fOff Tryz.prog 59 2 = some 2 := by kernel_rfl
theorem f59_3 : fOff Tryz.prog 59 3 = some 3 := by kernel_rfl
theorem f59_4 : fOff Tryz.prog 59 4 = some 4 := by kernel_rfl
theorem f59_5 : fOff Tryz.prog 59 5 = some 5 := by kernel_rfl
theorem f59_6 : fOff Tryz.prog 59 6 = some 6 := by kernel_rfl
theorem f63_0 : fOff Tryz.prog 63 0 = some 0 := by kernel_rfl
theorem f68_0 : fOff Tryz.prog 68 0 = some 0 := by kernel_rfl
theorem f68_1 : fOff Tryz.prog 68 1 = some 1 := by kernel_rfl
theorem f68_2 : fOff Tryz.prog 68 2 = some 2 := by kernel_rfl
theorem f70_0 : fOff Tryz.prog 70 0 = some 0 := by kernel_rfl
theorem f70_1 : fOff Tryz.prog 70 1 = some 1 := by kernel_rfl
theorem f70_10 : fOff Tryz.prog 70 10 = some 10 := by kernel_rfl
theorem f70_11 : fOff Tryz.prog 70 11 = some 11 := by kernel_rfl
theorem f70_12 : fOff Tryz.prog 70 12 = some 12 := by kernel_rfl
theorem f70_2 : fOff Tryz.prog 70 2 = some 2 := by kernel_rfl
theorem f70_3 : fOff Tryz.prog 70 3 = some 3 := by kernel_rfl
theorem f70_4 : fOff Tryz.prog 70 4 = some 4 := by kernel_rfl
theorem f70_5 : fOff Tryz.prog 70 5 = some 5 := by kernel_rfl
theorem f70_6 : fOff Tryz.prog 70 6 = some 6 := by kernel_rfl
theorem f70_7 : fOff Tryz.prog 70 7 = some 7 := by kernel_rfl
theorem f70_8 : fOff Tryz.prog 70 8 = some 8 := by kernel_rfl
theorem f70_9 : fOff Tryz.prog 70 9 = some 9 := by kernel_rfl
theorem f73_0 : fOff Tryz.prog 73 0 = some 0 := by kernel_rfl
theorem f73_1 : fOff Tryz.prog 73 1 = some 1 := by kernel_rfl
theorem f73_2 : fOff Tryz.prog 73 2 = some 2 := by kernel_rfl
theorem f73_3 : fOff Tryz.prog 73 3 = some 3 := by kernel_rfl
theorem f73_4 : fOff Tryz.prog 73 4 = some 4 := by kernel_rfl
theorem f75_0 : fOff Tryz.prog 75 0 = some 0 := by kernel_rfl
theorem f75_1 : fOff Tryz.prog 75 1 = some 1 := by kernel_rfl
theorem f75_2 : fOff Tryz.prog 75 2 = some 2 := by kernel_rfl
theorem f75_3 : fOff Tryz.prog 75 3 = some 3 := by kernel_rfl
theorem f75_4 : fOff Tryz.prog 75 4 = some 4 := by kernel_rfl
theorem f75_5 : fOff Tryz.prog 75 5 = some 5 := by kernel_rfl
theorem f75_6 : fOff Tryz.prog 75 6 = some 6 := by kernel_rfl
theorem f75_7 : fOff Tryz.prog 75 7 = some 7 := by kernel_rfl
theorem f77_0 : fOff Tryz.prog 77 0 = some 0 := by kernel_rfl
theorem f77_1 : fOff Tryz.prog 77 1 = some 1 := by kernel_rfl
theorem f77_10 : fOff Tryz.prog 77 10 = some 10 := by kernel_rfl
theorem f77_11 : fOff Tryz.prog 77 11 = some 11 := by kernel_rfl
theorem f77_12 : fOff Tryz.prog 77 12 = some 12 := by kernel_rfl
theorem f77_13 : fOff Tryz.prog 77 13 = some 13 := by kernel_rfl
theorem f77_14 : fOff Tryz.prog 77 14 = some 14 := by kernel_rfl
theorem f77_15 : fOff Tryz.prog 77 15 = some 15 := by kernel_rfl
theorem f77_16 : fOff Tryz.prog 77 16 = some 16 := by kernel_rfl
theorem f77_17 : fOff Tryz.prog 77 17 = some 17 := by kernel_rfl
theorem f77_18 : fOff Tryz.prog 77 18 = some 18 := by kernel_rfl
theorem f77_19 : fOff Tryz.prog 77 19 = some 19 := by kernel_rfl
theorem f77_2 : fOff Tryz.prog 77 2 = some 2 := by kernel_rfl
theorem f77_20 : fOff Tryz.prog 77 20 = some 20 := by kernel_rfl
theorem f77_3 : fOff Tryz.prog 77 3 = some 3 := by kernel_rfl
theorem f77_4 : fOff Tryz.prog 77 4 = some 4 := by kernel_rfl
theorem f77_5 : fOff Tryz.prog 77 5 = some 5 := by kernel_rfl
theorem f77_6 : fOff Tryz.prog 77 6 = some 6 := by kernel_rfl
theorem f77_7 : fOff Tryz.prog 77 7 = some 7 := by kernel_rfl
theorem f77_8 : fOff Tryz.prog 77 8 = some 8 := by kernel_rfl
theorem f77_9 : fOff Tryz.prog 77 9 = some 9 := by kernel_rfl
theorem f81_0 : fOff Tryz.prog 81 0 = some 0 := by kernel_rfl
theorem f81_1 : fOff Tryz.prog 81 1 = some 1 := by kernel_rfl
theorem hb10 : hasB Tryz.prog 10 = true := by kernel_rfl
theorem hb100 : hasB Tryz.prog 100 = true := by kernel_rfl
theorem hb101 : hasB Tryz.prog 101 = true := by kernel_rfl
theorem hb102 : hasB Tryz.prog 102 = true := by kernel_rfl
theorem hb103 : hasB Tryz.prog 103 = true := by kernel_rfl
theorem hb104 : hasB Tryz.prog 104 = true := by kernel_rfl
theorem hb105 : hasB Tryz.prog 105 = true := by kernel_rfl
theorem hb106 : hasB Tryz.prog 106 = true := by kernel_rfl
theorem hb107 : hasB Tryz.prog 107 = true := by kernel_rfl
theorem hb108 : hasB Tryz.prog 108 = true := by kernel_rfl
theorem hb109 : hasB Tryz.prog 109 = true := by kernel_rfl
theorem hb11 : hasB Tryz.prog 11 = true := by kernel_rfl
theorem hb110 : hasB Tryz.prog 110 = true := by kernel_rfl
theorem hb111 : hasB Tryz.prog 111 = true := by kernel_rfl
theorem hb112 : hasB Tryz.prog 112 = true := by kernel_rfl
theorem hb113 : hasB Tryz.prog 113 = true := by kernel_rfl
theorem hb114 : hasB Tryz.prog 114 = true := by kernel_rfl
theorem hb115 : hasB Tryz.prog 115 = true := by kernel_rfl
theorem hb116 : hasB Tryz.prog 116 = true := by kernel_rfl
theorem hb117 : hasB Tryz.prog 117 = true := by kernel_rfl
theorem hb118 : hasB Tryz.prog 118 = true := by kernel_rfl
theorem hb119 : hasB Tryz.prog 119 = true := by kernel_rfl
theorem hb12 : hasB Tryz.prog 12 = true := by kernel_rfl
theorem hb120 : hasB Tryz.prog 120 = true := by kernel_rfl
theorem hb121 : hasB Tryz.prog 121 = true := by kernel_rfl
theorem hb122 : hasB Tryz.prog 122 = true := by kernel_rfl
theorem hb123 : hasB Tryz.prog 123 = true := by kernel_rfl
theorem hb124 : hasB Tryz.prog 124 = true := by kernel_rfl
theorem hb125 : hasB Tryz.prog 125 = true := by kernel_rfl
theorem hb126 : hasB Tryz.prog 126 = true := by kernel_rfl
theorem hb127 : hasB Tryz.prog 127 = true := by kernel_rfl
theorem hb128 : hasB Tryz.prog 128 = true := by kernel_rfl
theorem hb129 : hasB Tryz.prog 129 = true := by kernel_rfl
theorem hb13 : hasB Tryz.prog 13 = true := by kernel_rfl
theorem hb130 : hasB Tryz.prog 130 = true := by kernel_rfl
theorem hb131 : hasB Tryz.prog 131 = true := by kernel_rfl
theorem hb132 : hasB Tryz.prog 132 = true := by kernel_rfl
theorem hb133 : hasB Tryz.prog 133 = true := by kernel_rfl
theorem hb134 : hasB Tryz.prog 134 = true := by kernel_rfl
theorem hb135 : hasB Tryz.prog 135 = true := by kernel_rfl
theorem hb136 : hasB Tryz.prog 136 = true := by kernel_rfl
theorem hb137 : hasB Tryz.prog 137 = true := by kernel_rfl
theorem hb138 : hasB Tryz.prog 138 = true := by kernel_rfl
theorem hb139 : hasB Tryz.prog 139 = true := by kernel_rfl
theorem hb14 : hasB Tryz.prog 14 = true := by kernel_rfl
theorem hb140 : hasB Tryz.prog 140 = true := by kernel_rfl
theorem hb141 : hasB Tryz.prog 141 = true := by kernel_rfl
theorem hb142 : hasB Tryz.prog 142 = true := by kernel_rfl
theorem hb143 : hasB Tryz.prog 143 = true := by kernel_rfl
theorem hb144 : hasB Tryz.prog 144 = true := by kernel_rfl
theorem hb145 : hasB Tryz.prog 145 = true := by kernel_rfl
theorem hb146 : hasB Tryz.prog 146 = true := by kernel_rfl
theorem hb147 : hasB Tryz.prog 147 = true := by kernel_rfl
theorem hb148 : hasB Tryz.prog 148 = true := by kernel_rfl
theorem hb149 : hasB Tryz.prog 149 = true := by kernel_rfl
theorem hb15 : hasB Tryz.prog 15 = true := by kernel_rfl
theorem hb150 : hasB Tryz.prog 150 = true := by kernel_rfl
theorem hb151 : hasB Tryz.prog 151 = true := by kernel_rfl
theorem hb152 : hasB Tryz.prog 152 = true := by kernel_rfl
theorem hb153 : hasB Tryz.prog 153 = true := by kernel_rfl
theorem hb154 : hasB Tryz.prog 154 = true := by kernel_rfl
theorem hb155 : hasB Tryz.prog 155 = true := by kernel_rfl
theorem hb156 : hasB Tryz.prog 156 = true := by kernel_rfl
theorem hb157 : hasB Tryz.prog 157 = true := by kernel_rfl
theorem hb158 : hasB Tryz.prog 158 = true := by kernel_rfl
theorem hb159 : hasB Tryz.prog 159 = true := by kernel_rfl
theorem hb16 : hasB Tryz.prog 16 = true := by kernel_rfl
theorem hb160 : hasB Tryz.prog 160 = true := by kernel_rfl
theorem hb161 : hasB Tryz.prog 161 = true := by kernel_rfl
theorem hb162 : hasB Tryz.prog 162 = true := by kernel_rfl
theorem hb163 : hasB Tryz.prog 163 = true := by kernel_rfl
theorem hb164 : hasB Tryz.prog 164 = true := by kernel_rfl
theorem hb165 : hasB Tryz.prog 165 = true := by kernel_rfl
theorem hb166 : hasB Tryz.prog 166 = true := by kernel_rfl
theorem hb167 : hasB Tryz.prog 167 = true := by kernel_rfl
theorem hb168 : hasB Tryz.prog 168 = true := by kernel_rfl
theorem hb169 : hasB Tryz.prog 169 = true := by kernel_rfl
theorem hb17 : hasB Tryz.prog 17 = true := by kernel_rfl
theorem hb170 : hasB Tryz.prog 170 = true := by kernel_rfl
theorem hb171 : hasB Tryz.prog 171 = true := by kernel_rfl
theorem hb172 : hasB Tryz.prog 172 = true := by kernel_rfl
theorem hb173 : hasB Tryz.prog 173 = true := by kernel_rfl
theorem hb174 : hasB Tryz.prog 174 = true := by kernel_rfl
theorem hb175 : hasB Tryz.prog 175 = true := by kernel_rfl
theorem hb176 : hasB Tryz.prog 176 = true := by kernel_rfl
theorem hb177 : hasB Tryz.prog 177 = true := by kernel_rfl
theorem hb178 : hasB Tryz.prog 178 = true := by kernel_rfl
theorem hb179 : hasB Tryz.prog 179 = true := by kernel_rfl
theorem hb18 : hasB Tryz.prog 18 = true := by kernel_rfl
theorem hb180 : hasB Tryz.prog 180 = true := by kernel_rfl
theorem hb181 : hasB Tryz.prog 181 = true := by kernel_rfl
theorem hb182 : hasB Tryz.prog 182 = true := by kernel_rfl
theorem hb19 : hasB Tryz.prog 19 = true := by kernel_rfl
theorem hb20 : hasB Tryz.prog 20 = true := by kernel_rfl
theorem hb21 : hasB Tryz.prog 21 = true := by kernel_rfl
theorem hb22 : hasB Tryz.prog 22 = true := by kernel_rfl
theorem hb23 : hasB Tryz.prog 23 = true := by kernel_rfl
theorem hb24 : hasB Tryz.prog 24 = true := by kernel_rfl
theorem hb25 : hasB Tryz.prog 25 = true := by kernel_rfl
theorem hb26 : hasB Tryz.prog 26 = true := by kernel_rfl
theorem hb27 : hasB Tryz.prog 27 = true := by kernel_rfl
theorem hb28 : hasB Tryz.prog 28 = true := by kernel_rfl
theorem hb29 : hasB Tryz.prog 29 = true := by kernel_rfl
theorem hb3 : hasB Tryz.prog 3 = true := by kernel_rfl
theorem hb30 : hasB Tryz.prog 30 = true := by kernel_rfl
theorem hb31 : hasB Tryz.prog 31 = true := by kernel_rfl
theorem hb32 : hasB Tryz.prog 32 = true := by kernel_rfl
theorem hb33 : hasB Tryz.prog 33 = true := by kernel_rfl
theorem hb34 : hasB Tryz.prog 34 = true := by kernel_rfl
theorem hb35 : hasB Tryz.prog 35 = true := by kernel_rfl
theorem hb36 : hasB Tryz.prog 36 = true := by kernel_rfl
theorem hb37 : hasB Tryz.prog 37 = true := by kernel_rfl
theorem hb38 : hasB Tryz.prog 38 = true := by kernel_rfl
theorem hb39 : hasB Tryz.prog 39 = true := by kernel_rfl
theorem hb4 : hasB Tryz.prog 4 = true := by kernel_rfl
theorem hb40 : hasB Tryz.prog 40 = true := by kernel_rfl
theorem hb41 : hasB Tryz.prog 41 = true := by kernel_rfl
theorem hb42 : hasB Tryz.prog 42 = true := by kernel_rfl
theorem hb43 : hasB Tryz.prog 43 = true := by kernel_rfl
theorem hb44 : hasB Tryz.prog 44 = true := by kernel_rfl
theorem hb45 : hasB Tryz.prog 45 = true := by kernel_rfl
theorem hb46 : hasB Tryz.prog 46 = true := by kernel_rfl
theorem hb47 : hasB Tryz.prog 47 = true := by kernel_rfl
theorem hb48 : hasB Tryz.prog 48 = true := by kernel_rfl
theorem hb49 : hasB Tryz.prog 49 = true := by kernel_rfl
theorem hb5 : hasB Tryz.prog 5 = true := by kernel_rfl
theorem hb50 : hasB Tryz.prog 50 = true := by kernel_rfl
theorem hb51 : hasB Tryz.prog 51 = true := by kernel_rfl
theorem hb52 : hasB Tryz.prog 52 = true := by kernel_rfl
theorem hb53 : hasB Tryz.prog 53 = true := by kernel_rfl
theorem hb54 : hasB Tryz.prog 54 = true := by kernel_rfl
theorem hb55 : hasB Tryz.prog 55 = true := by kernel_rfl
theorem hb56 : hasB Tryz.prog 56 = true := by kernel_rfl
theorem hb57 : hasB Tryz.prog 57 = true := by kernel_rfl
theorem hb58 : hasB Tryz.prog 58 = true := by kernel_rfl
theorem hb59 : hasB Tryz.prog 59 = true := by kernel_rfl
theorem hb6 : hasB Tryz.prog 6 = true := by kernel_rfl
theorem hb60 : hasB Tryz.prog 60 = true := by kernel_rfl
theorem hb61 : hasB Tryz.prog 61 = true := by kernel_rfl
theorem hb62 : hasB Tryz.prog 62 = true := by kernel_rfl
theorem hb63 : hasB Tryz.prog 63 = true := by kernel_rfl
theorem hb64 : hasB Tryz.prog 64 = true := by kernel_rfl
theorem hb65 : hasB Tryz.prog 65 = true := by kernel_rfl
theorem hb66 : hasB Tryz.prog 66 = true := by kernel_rfl
theorem hb67 : hasB Tryz.prog 67 = true := by kernel_rfl
theorem hb68 : hasB Tryz.prog 68 = true := by kernel_rfl
theorem hb69 : hasB Tryz.prog 69 = true := by kernel_rfl
theorem hb7 : hasB Tryz.prog 7 = true := by kernel_rfl
theorem hb70 : hasB Tryz.prog 70 = true := by kernel_rfl
theorem hb71 : hasB Tryz.prog 71 = true := by kernel_rfl
theorem hb72 : hasB Tryz.prog 72 = true := by kernel_rfl
theorem hb73 : hasB Tryz.prog 73 = true := by kernel_rfl
theorem hb74 : hasB Tryz.prog 74 = true := by kernel_rfl
theorem hb75 : hasB Tryz.prog 75 = true := by kernel_rfl
theorem hb76 : hasB Tryz.prog 76 = true := by kernel_rfl
theorem hb77 : hasB Tryz.prog 77 = true := by kernel_rfl
theorem hb78 : hasB Tryz.prog 78 = true := by kernel_rfl
theorem hb79 : hasB Tryz.prog 79 = true := by kernel_rfl
theorem hb8 : hasB Tryz.prog 8 = true := by kernel_rfl
theorem hb80 : hasB Tryz.prog 80 = true := by kernel_rfl
theorem hb81 : hasB Tryz.prog 81 = true := by kernel_rfl
theorem hb82 : hasB Tryz.prog 82 = true := by kernel_rfl
theorem hb83 : hasB Tryz.prog 83 = true := by kernel_rfl
theorem hb84 : hasB Tryz.prog 84 = true := by kernel_rfl
theorem hb85 : hasB Tryz.prog 85 = true := by kernel_rfl
theorem hb86 : hasB Tryz.prog 86 = true := by kernel_rfl
theorem hb87 : hasB Tryz.prog 87 = true := by kernel_rfl
theorem hb88 : hasB Tryz.prog 88 = true := by kernel_rfl
theorem hb89 : hasB Tryz.prog 89 = true := by kernel_rfl
theorem hb9 : hasB Tryz.prog 9 = true := by kernel_rfl
theorem hb90 : hasB Tryz.prog 90 = true := by kernel_rfl
theorem hb91 : hasB Tryz.prog 91 = true := by kernel_rfl
theorem hb92 : hasB Tryz.prog 92 = true := by kernel_rfl
theorem hb93 : hasB Tryz.prog 93 = true := by kernel_rfl
theorem hb94 : hasB Tryz.prog 94 = true := by kernel_rfl
theorem hb95 : hasB Tryz.prog 95 = true := by kernel_rfl
theorem hb96 : hasB Tryz.prog 96 = true := by kernel_rfl
theorem hb97 : hasB Tryz.prog 97 = true := by kernel_rfl
theorem hb98 : hasB Tryz.prog 98 = true := by kernel_rfl
theorem hb99 : hasB Tryz.prog 99 = true := by kernel_rfl
theorem in105 : inK Tryz.prog 105 = some .u64 := by kernel_rfl
theorem in3 : inK Tryz.prog 3 = some .i64 := by kernel_rfl
theorem in5 : inK Tryz.prog 5 = some .u8 := by kernel_rfl
theorem in9 : inK Tryz.prog 9 = none := by kernel_rfl
theorem kd105 : kd Tryz.prog 105 = 9 := by kernel_rfl
theorem kd129 : kd Tryz.prog 129 = 4 := by kernel_rfl
theorem kd22 : kd Tryz.prog 22 = 4 := by kernel_rfl
theorem kd27 : kd Tryz.prog 27 = 3 := by kernel_rfl
theorem kd28 : kd Tryz.prog 28 = 3 := by kernel_rfl
theorem kd3 : kd Tryz.prog 3 = 9 := by kernel_rfl
theorem kd37 : kd Tryz.prog 37 = 4 := by kernel_rfl
theorem kd38 : kd Tryz.prog 38 = 4 := by kernel_rfl
theorem kd5 : kd Tryz.prog 5 = 9 := by kernel_rfl
theorem kd55 : kd Tryz.prog 55 = 1 := by kernel_rfl
theorem kd56 : kd Tryz.prog 56 = 4 := by kernel_rfl
theorem kd57 : kd Tryz.prog 57 = 4 := by kernel_rfl
theorem kd71 : kd Tryz.prog 71 = 4 := by kernel_rfl
theorem kd9 : kd Tryz.prog 9 = 0 := by kernel_rfl
theorem mix : Tryz.prog.follows .mixedOrders = true := by kernel_rfl
theorem ni129 : ∀ k, Tryz.prog.underlying 129 ≠ some (.int k) := by intro k; rw [show Tryz.prog.underlying 129 = some (.slice 133) from by kernel_rfl]; simp
theorem ni37 : ∀ k, Tryz.prog.underlying 37 ≠ some (.int k) := by intro k; rw [show Tryz.prog.underlying 37 = some (.slice 104) from by kernel_rfl]; simp
theorem ni55 : ∀ k, Tryz.prog.underlying 55 ≠ some (.int k) := by intro k; rw [show Tryz.prog.underlying 55 = some (.slice 5) from by kernel_rfl]; simp
theorem ni56 : ∀ k, Tryz.prog.underlying 56 ≠ some (.int k) := by intro k; rw [show Tryz.prog.underlying 56 = some (.slice 3) from by kernel_rfl]; simp
theorem ni71 : ∀ k, Tryz.prog.underlying 71 ≠ some (.int k) := by intro k; rw [show Tryz.prog.underlying 71 = some (.slice 174) from by kernel_rfl]; simp
theorem sz104 : sz Tryz.prog 104 = some 2 := by kernel_rfl
theorem sz122 : sz Tryz.prog 122 = some 3 := by kernel_rfl
theorem sz128 : sz Tryz.prog 128 = some 5 := by kernel_rfl
theorem sz133 : sz Tryz.prog 133 = some 6 := by kernel_rfl
theorem sz155 : sz Tryz.prog 155 = some 4 := by kernel_rfl
theorem sz174 : sz Tryz.prog 174 = some 3 := by kernel_rfl
theorem sz3 : sz Tryz.prog 3 = some 1 := by kernel_rfl
theorem sz30 : sz Tryz.prog 30 = some 2 := by kernel_rfl
theorem sz37 : sz Tryz.prog 37 = some 1 := by kernel_rfl
theorem sz38 : sz Tryz.prog 38 = some 1 := by kernel_rfl
theorem sz4 : sz Tryz.prog 4 = some 1 := by kernel_rfl
theorem sz47 : sz Tryz.prog 47 = some 1 := by kernel_rfl
theorem sz49 : sz Tryz.prog 49 = some 1 := by kernel_rfl
theorem sz5 : sz Tryz.prog 5 = some 1 := by kernel_rfl
theorem sz51 : sz Tryz.prog 51 = some 1 := by kernel_rfl
theorem sz55 : sz Tryz.prog 55 = some 1 := by kernel_rfl
theorem sz56 : sz Tryz.prog 56 = some 1 := by kernel_rfl
theorem sz57 : sz Tryz.prog 57 = some 1 := by kernel_rfl
theorem sz71 : sz Tryz.prog 71 = some 1 := by kernel_rfl
theorem sz78 : sz Tryz.prog 78 = some 1 := by kernel_rfl
theorem sz79 : sz Tryz.prog 79 = some 1 := by kernel_rfl
theorem sz9 : sz Tryz.prog 9 = some 1 := by kernel_rfl
theorem us129 : (Tryz.prog.underlying 129).isSome = true := by kernel_rfl
theorem us3 : (Tryz.prog.underlying 3).isSome = true := by kernel_rfl
theorem us37 : (Tryz.prog.underlying 37).isSome = true := by kernel_rfl
theorem us5 : (Tryz.prog.underlying 5).isSome = true := by kernel_rfl
theorem us55 : (Tryz.prog.underlying 55).isSome = true := by kernel_rfl
theorem us56 : (Tryz.prog.underlying 56).isSome = true := by kernel_rfl
theorem us71 : (Tryz.prog.underlying 71).isSome = true := by kernel_rfl
theorem z128 : zV Tryz.prog 128 = some (.agg #[.int .i64 0, .int .i64 0, .int .i64 0, .int .i64 0, .int .i64 0]) := by kernel_rfl
theorem z133 : zV Tryz.prog 133 = some (.agg #[.string ⟨#[]⟩, .int .i64 0, .int .i64 0, .int .i64 0, .int .i64 0, .int .i64 0]) := by kernel_rfl
theorem z155 : zV Tryz.prog 155 = some (.agg #[.string ⟨#[]⟩, .int .i64 0, .int .i64 0, .int .i64 0]) := by kernel_rfl
theorem z203 : zV Tryz.prog 203 = some (.agg #[.int .i64 0, .int .i64 0, .int .i64 0, .int .i64 0, .int .i64 0, .int .i64 0, .int .i64 0, .int .i64 0, .int .i64 0, .int .i64 0, .int .i64 0]) := by kernel_rfl
theorem z30 : zV Tryz.prog 30 = some (.agg #[.pointer none, .pointer none]) := by kernel_rfl
end Go.Proofs.Qxb6500404aGreat.T
