import Derived.Test.Qxb6500406aGreatProg
import Derived.Test.Qxb6500406aGreatEc
set_option linter.unusedVariables false
namespace Go.Proofs.Qxb6500406aGreat.T
open Go.Eng
theorem ag27 : agS Tryz.prog 27 = some none := by kernel_rfl
theorem ag28 : agS Tryz.prog 28 = some none := by kernel_rfl
theorem ag29 : agS Tryz.prog 29 = some none := by kernel_rfl
theorem ag3 : agS Tryz.prog 3 = some none := by kernel_rfl
theorem ag31 : agS Tryz.prog 31 = some (some 4) := by kernel_rfl
theorem ag43 : agS Tryz.prog 43 = some (some 6) := by kernel_rfl
theorem ag47 : agS Tryz.prog 47 = some none := by kernel_rfl
theorem ag5 : agS Tryz.prog 5 = some none := by kernel_rfl
theorem ag50 : agS Tryz.prog 50 = some none := by kernel_rfl
theorem ag51 : agS Tryz.prog 51 = some none := by kernel_rfl
theorem ag59 : agS Tryz.prog 59 = some none := by kernel_rfl
theorem ag64 : agS Tryz.prog 64 = some none := by kernel_rfl
theorem ag9 : agS Tryz.prog 9 = some none := by kernel_rfl
theorem ar131 : arS Tryz.prog 131 = some (11, 1) := by kernel_rfl
theorem bld137 : buildV Tryz.prog 137 [] = some (.agg #[.slice none 0 0, .int .i64 0]) := by kernel_rfl
theorem bld31_0_1_2_3 : ∀ (x0 : Option Addr) (x1 : Option Addr) (x2 : Option Addr) (x3 : Option Addr), buildV Tryz.prog 31 [(0, .pointer x0), (1, .pointer x1), (2, .pointer x2), (3, .pointer x3)] = some (.agg #[.pointer x0, .pointer x1, .pointer x2, .pointer x3]) := by intros; kernel_rfl
theorem bld39 : buildV Tryz.prog 39 [] = some (.agg #[.string ⟨#[]⟩]) := by kernel_rfl
theorem bld49 : buildV Tryz.prog 49 [] = some (.agg #[.pointer none, .pointer none, .pointer none, .pointer none, .slice none 0 0, .slice none 0 0, .slice none 0 0, .slice none 0 0]) := by kernel_rfl
theorem bld53 : buildV Tryz.prog 53 [] = some (.agg #[.pointer none, .pointer none]) := by kernel_rfl
theorem bld61_0 : ∀ (x0 : Option Addr) (x0n x0c : Nat), buildV Tryz.prog 61 [(0, .slice x0 x0n x0c)] = some (.agg #[.slice x0 x0n x0c, .int .i64 0, .int .i64 0]) := by intros; kernel_rfl
theorem bld63 : buildV Tryz.prog 63 [] = some (.agg #[.int .i64 0, .slice none 0 0, .slice none 0 0, .slice none 0 0, .slice none 0 0, .int .i64 0, .slice none 0 0, .slice none 0 0, .slice none 0 0, .slice none 0 0, .slice none 0 0, .slice none 0 0, .int .i64 0]) := by kernel_rfl
theorem bld66 : buildV Tryz.prog 66 [] = some (.agg #[.slice none 0 0, .slice none 0 0, .slice none 0 0, .int .i64 0, .int .i64 0]) := by kernel_rfl
theorem bld68 : buildV Tryz.prog 68 [] = some (.agg #[.int .i64 0]) := by kernel_rfl
theorem bld70 : buildV Tryz.prog 70 [] = some (.agg #[.slice none 0 0, .slice none 0 0]) := by kernel_rfl
theorem bld98_0_1 : ∀ (x0 : Int) (x1 : Int), buildV Tryz.prog 98 [(0, .int .i64 x0), (1, .int .i64 x1)] = some (.agg #[.int .i64 x0, .int .i64 x1, .int .i64 0]) := by intros; kernel_rfl
theorem bld98_2 : ∀ (x2 : Int), buildV Tryz.prog 98 [(2, .int .i64 x2)] = some (.agg #[.int .i64 0, .int .i64 0, .int .i64 x2]) := by intros; kernel_rfl
theorem bs47_3_0_1_2 : ∀ (x0 : Int) (x1 : Int) (x2 : Int), Instr.fill (fun i => some (i * 1, 1)) (mkZ #[.int .i64 0] (3 * 1)) [(0, .int .i64 x0), (1, .int .i64 x1), (2, .int .i64 x2)] = some #[.int .i64 x0, .int .i64 x1, .int .i64 x2] := by intros; kernel_rfl
theorem bs59_1_0 : ∀ (x0 : Int), Instr.fill (fun i => some (i * 1, 1)) (mkZ #[.int .u8 0] (1 * 1)) [(0, .int .u8 x0)] = some #[.int .u8 x0] := by intros; kernel_rfl
theorem bs64_1_0 : ∀ (x0_0 : Int) (x0_1 : Int) (x0_2 : Int), Instr.fill (fun i => some (i * 3, 3)) (mkZ #[.int .i64 0, .int .i64 0, .int .i64 0] (1 * 3)) [(0, .agg #[.int .i64 x0_0, .int .i64 x0_1, .int .i64 x0_2])] = some #[.int .i64 x0_0, .int .i64 x0_1, .int .i64 x0_2] := by intros; kernel_rfl
theorem ei47 : elI Tryz.prog 47 = some (3, 1, 8, #[.int .i64 0]) := by kernel_rfl
theorem ei59 : elI Tryz.prog 59 = some (5, 1, 1, #[.int .u8 0]) := by kernel_rfl
theorem ei64 : elI Tryz.prog 64 = some (98, 3, 24, #[.int .i64 0, .int .i64 0, .int .i64 0]) := by kernel_rfl
theorem el22 : elS Tryz.prog 22 = some 6 := by kernel_rfl
theorem el47 : elS Tryz.prog 47 = some 1 := by kernel_rfl
theorem el59 : elS Tryz.prog 59 = some 1 := by kernel_rfl
theorem el64 : elS Tryz.prog 64 = some 3 := by kernel_rfl
theorem f137_0 : fOff Tryz.prog 137 0 = some 0 := by kernel_rfl
theorem f137_1 : fOff Tryz.prog 137 1 = some 1 := by kernel_rfl
theorem f31_0 : fOff Tryz.prog 31 0 = some 0 := by kernel_rfl
theorem f31_1 : fOff Tryz.prog 31 1 = some 1 := by kernel_rfl
theorem f31_2 : fOff Tryz.prog 31 2 = some 2 := by kernel_rfl
theorem f31_3 : fOff Tryz.prog 31 3 = some 3 := by kernel_rfl
theorem f39_0 : fOff Tryz.prog 39 0 = some 0 := by kernel_rfl
theorem f43_0 : fOff Tryz.prog 43 0 = some 0 := by kernel_rfl
theorem f43_1 : fOff Tryz.prog 43 1 = some 1 := by kernel_rfl
theorem f43_2 : fOff Tryz.prog 43 2 = some 2 := by kernel_rfl
theorem f43_4 : fOff Tryz.prog 43 4 = some 4 := by kernel_rfl
theorem f49_0 : fOff Tryz.prog 49 0 = some 0 := by kernel_rfl
theorem f49_1 : fOff Tryz.prog 49 1 = some 1 := by kernel_rfl
theorem f49_2 : fOff Tryz.prog 49 2 = some 2 := by kernel_rfl
theorem f49_3 : fOff Tryz.prog 49 3 = some 3 := by kernel_rfl
theorem f49_4 : fOff Tryz.prog 49 4 = some 4 := by kernel_rfl
theorem f49_5 : fOff Tryz.prog 49 5 = some 5 := by kernel_rfl
theorem f49_6 : fOff Tryz.prog 49 6 = some 6 := by kernel_rfl
theorem f49_7 : fOff Tryz.prog 49 7 = some 7 := by kernel_rfl
theorem f53_0 : fOff Tryz.prog 53 0 = some 0 := by kernel_rfl
theorem f53_1 : fOff Tryz.prog 53 1 = some 1 := by kernel_rfl
theorem f61_0 : fOff Tryz.prog 61 0 = some 0 := by kernel_rfl
theorem f61_1 : fOff Tryz.prog 61 1 = some 1 := by kernel_rfl
theorem f61_2 : fOff Tryz.prog 61 2 = some 2 := by kernel_rfl
theorem f63_0 : fOff Tryz.prog 63 0 = some 0 := by kernel_rfl
theorem f63_1 : fOff Tryz.prog 63 1 = some 1 := by kernel_rfl
theorem f63_10 : fOff Tryz.prog 63 10 = some 10 := by kernel_rfl
theorem f63_11 : fOff Tryz.prog 63 11 = some 11 := by kernel_rfl
theorem f63_12 : fOff Tryz.prog 63 12 = some 12 := by kernel_rfl
theorem f63_2 : fOff Tryz.prog 63 2 = some 2 := by kernel_rfl
theorem f63_3 : fOff Tryz.prog 63 3 = some 3 := by kernel_rfl
theorem f63_4 : fOff Tryz.prog 63 4 = some 4 := by kernel_rfl
theorem f63_5 : fOff Tryz.prog 63 5 = some 5 := by kernel_rfl
theorem f63_6 : fOff Tryz.prog 63 6 = some 6 := by kernel_rfl
theorem f63_7 : fOff Tryz.prog 63 7 = some 7 := by kernel_rfl
theorem f63_8 : fOff Tryz.prog 63 8 = some 8 := by kernel_rfl
theorem f63_9 : fOff Tryz.prog 63 9 = some 9 := by kernel_rfl
theorem f66_0 : fOff Tryz.prog 66 0 = some 0 := by kernel_rfl
theorem f66_1 : fOff Tryz.prog 66 1 = some 1 := by kernel_rfl
theorem f66_2 : fOff Tryz.prog 66 2 = some 2 := by kernel_rfl
theorem f66_3 : fOff Tryz.prog 66 3 = some 3 := by kernel_rfl
theorem f66_4 : fOff Tryz.prog 66 4 = some 4 := by kernel_rfl
theorem f70_0 : fOff Tryz.prog 70 0 = some 0 := by kernel_rfl
theorem f70_1 : fOff Tryz.prog 70 1 = some 1 := by kernel_rfl
theorem f98_0 : fOff Tryz.prog 98 0 = some 0 := by kernel_rfl
theorem f98_1 : fOff Tryz.prog 98 1 = some 1 := by kernel_rfl
theorem f98_2 : fOff Tryz.prog 98 2 = some 2 := by kernel_rfl
theorem hb10 : hasB Tryz.prog 10 = true := by kernel_rfl
theorem hb100 : hasB Tryz.prog 100 = true := by kernel_rfl
theorem hb101 : hasB Tryz.prog 101 = true := by kernel_rfl
theorem hb102 : hasB Tryz.prog 102 = true := by kernel_rfl
theorem hb103 : hasB Tryz.prog 103 = true := by kernel_rfl
theorem hb104 : hasB Tryz.prog 104 = true := by kernel_rfl
theorem hb105 : hasB Tryz.prog 105 = true := by kernel_rfl
theorem hb106 : hasB Tryz.prog 106 = true := by kernel_rfl
theorem hb107 : hasB Tryz.prog 107 = true := by kernel_rfl
theorem hb108 : hasB Tryz.prog 108 = true := by kernel_rfl
theorem hb109 : hasB Tryz.prog 109 = true := by kernel_rfl
theorem hb11 : hasB Tryz.prog 11 = true := by kernel_rfl
theorem hb110 : hasB Tryz.prog 110 = true := by kernel_rfl
theorem hb111 : hasB Tryz.prog 111 = true := by kernel_rfl
theorem hb112 : hasB Tryz.prog 112 = true := by kernel_rfl
theorem hb113 : hasB Tryz.prog 113 = true := by kernel_rfl
theorem hb114 : hasB Tryz.prog 114 = true := by kernel_rfl
theorem hb115 : hasB Tryz.prog 115 = true := by kernel_rfl
theorem hb116 : hasB Tryz.prog 116 = true := by kernel_rfl
theorem hb117 : hasB Tryz.prog 117 = true := by kernel_rfl
theorem hb118 : hasB Tryz.prog 118 = true := by kernel_rfl
theorem hb119 : hasB Tryz.prog 119 = true := by kernel_rfl
theorem hb12 : hasB Tryz.prog 12 = true := by kernel_rfl
theorem hb13 : hasB Tryz.prog 13 = true := by kernel_rfl
theorem hb14 : hasB Tryz.prog 14 = true := by kernel_rfl
theorem hb15 : hasB Tryz.prog 15 = true := by kernel_rfl
theorem hb16 : hasB Tryz.prog 16 = true := by kernel_rfl
theorem hb17 : hasB Tryz.prog 17 = true := by kernel_rfl
theorem hb18 : hasB Tryz.prog 18 = true := by kernel_rfl
theorem hb19 : hasB Tryz.prog 19 = true := by kernel_rfl
theorem hb20 : hasB Tryz.prog 20 = true := by kernel_rfl
theorem hb21 : hasB Tryz.prog 21 = true := by kernel_rfl
theorem hb22 : hasB Tryz.prog 22 = true := by kernel_rfl
theorem hb23 : hasB Tryz.prog 23 = true := by kernel_rfl
theorem hb24 : hasB Tryz.prog 24 = true := by kernel_rfl
theorem hb25 : hasB Tryz.prog 25 = true := by kernel_rfl
theorem hb26 : hasB Tryz.prog 26 = true := by kernel_rfl
theorem hb27 : hasB Tryz.prog 27 = true := by kernel_rfl
theorem hb28 : hasB Tryz.prog 28 = true := by kernel_rfl
theorem hb29 : hasB Tryz.prog 29 = true := by kernel_rfl
theorem hb3 : hasB Tryz.prog 3 = true := by kernel_rfl
theorem hb30 : hasB Tryz.prog 30 = true := by kernel_rfl
theorem hb31 : hasB Tryz.prog 31 = true := by kernel_rfl
theorem hb32 : hasB Tryz.prog 32 = true := by kernel_rfl
theorem hb33 : hasB Tryz.prog 33 = true := by kernel_rfl
theorem hb34 : hasB Tryz.prog 34 = true := by kernel_rfl
theorem hb35 : hasB Tryz.prog 35 = true := by kernel_rfl
theorem hb36 : hasB Tryz.prog 36 = true := by kernel_rfl
theorem hb37 : hasB Tryz.prog 37 = true := by kernel_rfl
theorem hb38 : hasB Tryz.prog 38 = true := by kernel_rfl
theorem hb39 : hasB Tryz.prog 39 = true := by kernel_rfl
theorem hb4 : hasB Tryz.prog 4 = true := by kernel_rfl
theorem hb40 : hasB Tryz.prog 40 = true := by kernel_rfl
theorem hb41 : hasB Tryz.prog 41 = true := by kernel_rfl
theorem hb42 : hasB Tryz.prog 42 = true := by kernel_rfl
theorem hb43 : hasB Tryz.prog 43 = true := by kernel_rfl
theorem hb44 : hasB Tryz.prog 44 = true := by kernel_rfl
theorem hb45 : hasB Tryz.prog 45 = true := by kernel_rfl
theorem hb46 : hasB Tryz.prog 46 = true := by kernel_rfl
theorem hb47 : hasB Tryz.prog 47 = true := by kernel_rfl
theorem hb48 : hasB Tryz.prog 48 = true := by kernel_rfl
theorem hb49 : hasB Tryz.prog 49 = true := by kernel_rfl
theorem hb5 : hasB Tryz.prog 5 = true := by kernel_rfl
theorem hb50 : hasB Tryz.prog 50 = true := by kernel_rfl
theorem hb51 : hasB Tryz.prog 51 = true := by kernel_rfl
theorem hb52 : hasB Tryz.prog 52 = true := by kernel_rfl
theorem hb53 : hasB Tryz.prog 53 = true := by kernel_rfl
theorem hb54 : hasB Tryz.prog 54 = true := by kernel_rfl
theorem hb55 : hasB Tryz.prog 55 = true := by kernel_rfl
theorem hb56 : hasB Tryz.prog 56 = true := by kernel_rfl
theorem hb57 : hasB Tryz.prog 57 = true := by kernel_rfl
theorem hb58 : hasB Tryz.prog 58 = true := by kernel_rfl
theorem hb59 : hasB Tryz.prog 59 = true := by kernel_rfl
theorem hb6 : hasB Tryz.prog 6 = true := by kernel_rfl
theorem hb60 : hasB Tryz.prog 60 = true := by kernel_rfl
theorem hb61 : hasB Tryz.prog 61 = true := by kernel_rfl
theorem hb62 : hasB Tryz.prog 62 = true := by kernel_rfl
theorem hb63 : hasB Tryz.prog 63 = true := by kernel_rfl
theorem hb64 : hasB Tryz.prog 64 = true := by kernel_rfl
theorem hb65 : hasB Tryz.prog 65 = true := by kernel_rfl
theorem hb66 : hasB Tryz.prog 66 = true := by kernel_rfl
theorem hb67 : hasB Tryz.prog 67 = true := by kernel_rfl
theorem hb68 : hasB Tryz.prog 68 = true := by kernel_rfl
theorem hb69 : hasB Tryz.prog 69 = true := by kernel_rfl
theorem hb7 : hasB Tryz.prog 7 = true := by kernel_rfl
theorem hb70 : hasB Tryz.prog 70 = true := by kernel_rfl
theorem hb71 : hasB Tryz.prog 71 = true := by kernel_rfl
theorem hb72 : hasB Tryz.prog 72 = true := by kernel_rfl
theorem hb73 : hasB Tryz.prog 73 = true := by kernel_rfl
theorem hb74 : hasB Tryz.prog 74 = true := by kernel_rfl
theorem hb75 : hasB Tryz.prog 75 = true := by kernel_rfl
theorem hb76 : hasB Tryz.prog 76 = true := by kernel_rfl
theorem hb77 : hasB Tryz.prog 77 = true := by kernel_rfl
theorem hb78 : hasB Tryz.prog 78 = true := by kernel_rfl
theorem hb79 : hasB Tryz.prog 79 = true := by kernel_rfl
theorem hb8 : hasB Tryz.prog 8 = true := by kernel_rfl
theorem hb80 : hasB Tryz.prog 80 = true := by kernel_rfl
theorem hb81 : hasB Tryz.prog 81 = true := by kernel_rfl
theorem hb82 : hasB Tryz.prog 82 = true := by kernel_rfl
theorem hb83 : hasB Tryz.prog 83 = true := by kernel_rfl
theorem hb84 : hasB Tryz.prog 84 = true := by kernel_rfl
theorem hb85 : hasB Tryz.prog 85 = true := by kernel_rfl
theorem hb86 : hasB Tryz.prog 86 = true := by kernel_rfl
theorem hb87 : hasB Tryz.prog 87 = true := by kernel_rfl
theorem hb88 : hasB Tryz.prog 88 = true := by kernel_rfl
theorem hb89 : hasB Tryz.prog 89 = true := by kernel_rfl
theorem hb9 : hasB Tryz.prog 9 = true := by kernel_rfl
theorem hb90 : hasB Tryz.prog 90 = true := by kernel_rfl
theorem hb91 : hasB Tryz.prog 91 = true := by kernel_rfl
theorem hb92 : hasB Tryz.prog 92 = true := by kernel_rfl
theorem hb93 : hasB Tryz.prog 93 = true := by kernel_rfl
theorem hb94 : hasB Tryz.prog 94 = true := by kernel_rfl
theorem hb95 : hasB Tryz.prog 95 = true := by kernel_rfl
theorem hb96 : hasB Tryz.prog 96 = true := by kernel_rfl
theorem hb97 : hasB Tryz.prog 97 = true := by kernel_rfl
theorem hb98 : hasB Tryz.prog 98 = true := by kernel_rfl
theorem hb99 : hasB Tryz.prog 99 = true := by kernel_rfl
theorem in102 : inK Tryz.prog 102 = some .u64 := by kernel_rfl
theorem in3 : inK Tryz.prog 3 = some .i64 := by kernel_rfl
theorem in5 : inK Tryz.prog 5 = some .u8 := by kernel_rfl
theorem in9 : inK Tryz.prog 9 = none := by kernel_rfl
theorem kd102 : kd Tryz.prog 102 = 9 := by kernel_rfl
theorem kd22 : kd Tryz.prog 22 = 4 := by kernel_rfl
theorem kd27 : kd Tryz.prog 27 = 3 := by kernel_rfl
theorem kd28 : kd Tryz.prog 28 = 3 := by kernel_rfl
theorem kd29 : kd Tryz.prog 29 = 3 := by kernel_rfl
theorem kd3 : kd Tryz.prog 3 = 9 := by kernel_rfl
theorem kd47 : kd Tryz.prog 47 = 4 := by kernel_rfl
theorem kd5 : kd Tryz.prog 5 = 9 := by kernel_rfl
theorem kd59 : kd Tryz.prog 59 = 1 := by kernel_rfl
theorem kd64 : kd Tryz.prog 64 = 4 := by kernel_rfl
theorem kd9 : kd Tryz.prog 9 = 0 := by kernel_rfl
theorem mix : Tryz.prog.follows .mixedOrders = true := by kernel_rfl
theorem ni47 : ∀ k, Tryz.prog.underlying 47 ≠ some (.int k) := by intro k; rw [show Tryz.prog.underlying 47 = some (.slice 3) from by kernel_rfl]; simp
theorem ni59 : ∀ k, Tryz.prog.underlying 59 ≠ some (.int k) := by intro k; rw [show Tryz.prog.underlying 59 = some (.slice 5) from by kernel_rfl]; simp
theorem ni64 : ∀ k, Tryz.prog.underlying 64 ≠ some (.int k) := by intro k; rw [show Tryz.prog.underlying 64 = some (.slice 98) from by kernel_rfl]; simp
theorem sz27 : sz Tryz.prog 27 = some 1 := by kernel_rfl
theorem sz28 : sz Tryz.prog 28 = some 1 := by kernel_rfl
theorem sz29 : sz Tryz.prog 29 = some 1 := by kernel_rfl
theorem sz3 : sz Tryz.prog 3 = some 1 := by kernel_rfl
theorem sz31 : sz Tryz.prog 31 = some 4 := by kernel_rfl
theorem sz47 : sz Tryz.prog 47 = some 1 := by kernel_rfl
theorem sz5 : sz Tryz.prog 5 = some 1 := by kernel_rfl
theorem sz50 : sz Tryz.prog 50 = some 1 := by kernel_rfl
theorem sz51 : sz Tryz.prog 51 = some 1 := by kernel_rfl
theorem sz59 : sz Tryz.prog 59 = some 1 := by kernel_rfl
theorem sz64 : sz Tryz.prog 64 = some 1 := by kernel_rfl
theorem sz9 : sz Tryz.prog 9 = some 1 := by kernel_rfl
theorem sz98 : sz Tryz.prog 98 = some 3 := by kernel_rfl
theorem us3 : (Tryz.prog.underlying 3).isSome = true := by kernel_rfl
theorem us47 : (Tryz.prog.underlying 47).isSome = true := by kernel_rfl
theorem us5 : (Tryz.prog.underlying 5).isSome = true := by kernel_rfl
theorem us59 : (Tryz.prog.underlying 59).isSome = true := by kernel_rfl
theorem us64 : (Tryz.prog.underlying 64).isSome = true := by kernel_rfl
theorem z131 : zV Tryz.prog 131 = some (.agg #[.int .i64 0, .int .i64 0, .int .i64 0, .int .i64 0, .int .i64 0, .int .i64 0, .int .i64 0, .int .i64 0, .int .i64 0, .int .i64 0, .int .i64 0]) := by kernel_rfl
theorem z31 : zV Tryz.prog 31 = some (.agg #[.pointer none, .pointer none, .pointer none, .pointer none]) := by kernel_rfl
end Go.Proofs.Qxb6500406aGreat.T
