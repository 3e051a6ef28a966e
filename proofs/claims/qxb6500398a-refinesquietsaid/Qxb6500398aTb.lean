import Derived.Test.Qxb6500398aProg
import Derived.Test.Qxb6500398aEc
set_option linter.unusedVariables false
namespace Go.Proofs.Qxb6500398a.T
open Go.Eng
theorem ag101 : agS Try.prog 101 = some (some 4) := by kernel_rfl
theorem ag27 : agS Try.prog 27 = some none := by kernel_rfl
theorem ag29 : agS Try.prog 29 = some (some 1) := by kernel_rfl
theorem ag3 : agS Try.prog 3 = some none := by kernel_rfl
theorem ag4 : agS Try.prog 4 = some none := by kernel_rfl
theorem ag41 : agS Try.prog 41 = some (some 6) := by kernel_rfl
theorem ag43 : agS Try.prog 43 = some none := by kernel_rfl
theorem ag45 : agS Try.prog 45 = some none := by kernel_rfl
theorem ag48 : agS Try.prog 48 = some none := by kernel_rfl
theorem ag53 : agS Try.prog 53 = some none := by kernel_rfl
theorem ag55 : agS Try.prog 55 = some (some 3) := by kernel_rfl
theorem ag59 : agS Try.prog 59 = some none := by kernel_rfl
theorem ag74 : agS Try.prog 74 = some (some 7) := by kernel_rfl
theorem ag77 : agS Try.prog 77 = some (some 3) := by kernel_rfl
theorem ag89 : agS Try.prog 89 = some (some 2) := by kernel_rfl
theorem ag9 : agS Try.prog 9 = some none := by kernel_rfl
theorem ar136 : arS Try.prog 136 = some (24, 1) := by kernel_rfl
theorem ar44 : arS Try.prog 44 = some (64, 1) := by kernel_rfl
theorem bld101 : buildV Try.prog 101 [] = some (.agg #[.int .u16 0, .int .u16 0, .bool false, .int .i64 0]) := by kernel_rfl
theorem bld113_0 : ∀ (x0 : Option Addr), buildV Try.prog 113 [(0, .pointer x0)] = some (.agg #[.pointer x0]) := by intros; kernel_rfl
theorem bld29_0 : ∀ (x0 : Option Addr), buildV Try.prog 29 [(0, .pointer x0)] = some (.agg #[.pointer x0]) := by intros; kernel_rfl
theorem bld37 : buildV Try.prog 37 [] = some (.agg #[.string ⟨#[]⟩, .string ⟨#[]⟩]) := by kernel_rfl
theorem bld47_0 : ∀ (x0 : Option Addr), buildV Try.prog 47 [(0, .pointer x0)] = some (.agg #[.pointer x0, .int .u16 0, .int .u16 0, .int .u16 0, .int .u16 0, .int .u16 0, .int .u16 0, .int .u16 0, .int .u16 0, .int .u16 0, .int .u16 0, .int .u16 0, .int .u16 0, .int .u16 0, .int .u16 0, .int .u16 0, .int .u16 0, .int .u16 0, .int .u16 0, .int .u16 0, .int .u16 0, .int .u16 0, .int .u16 0, .int .u16 0, .int .u16 0, .int .u16 0, .int .u16 0, .int .u16 0, .int .u16 0, .int .u16 0, .int .u16 0, .int .u16 0, .int .u16 0, .int .u16 0, .int .u16 0, .int .u16 0, .int .u16 0, .int .u16 0, .int .u16 0, .int .u16 0, .int .u16 0, .int .u16 0, .int .u16 0, .int .u16 0, .int .u16 0, .int .u16 0, .int .u16 0, .int .u16 0, .int .u16 0, .int .u16 0, .int .u16 0, .int .u16 0, .int .u16 0, .int .u16 0, .int .u16 0, .int .u16 0, .int .u16 0, .int .u16 0, .int .u16 0, .int .u16 0, .int .u16 0, .int .u16 0, .int .u16 0, .int .u16 0, .int .u16 0, .int .u16 0, .int .u16 0, .int .u16 0, .int .u16 0, .int .u16 0, .int .u16 0, .int .u16 0, .int .u16 0, .int .u16 0, .int .u16 0, .int .u16 0, .int .u16 0, .int .u16 0, .int .u16 0, .int .u16 0, .int .u16 0, .int .u16 0, .int .u16 0, .int .u16 0, .int .u16 0, .int .u16 0, .int .u16 0, .int .u16 0, .int .u16 0, .int .u16 0, .int .u16 0, .int .u16 0, .int .u16 0, .int .u16 0, .int .u16 0, .int .u16 0, .int .u16 0, .int .u16 0, .int .u16 0, .int .u16 0, .int .u16 0, .int .u16 0, .int .u16 0, .int .u16 0, .int .u16 0, .int .u16 0, .int .u16 0, .int .u16 0, .int .u16 0, .int .u16 0, .int .u16 0, .int .u16 0, .int .u16 0, .int .u16 0, .int .u16 0, .int .u16 0, .int .u16 0, .int .u16 0, .int .u16 0, .int .u16 0, .int .u16 0, .int .u16 0, .int .u16 0, .int .u16 0, .int .u16 0, .int .u16 0, .int .u16 0, .int .u16 0, .int .u16 0, .int .u64 0, .int .i64 0]) := by intros; kernel_rfl
theorem bld55 : buildV Try.prog 55 [] = some (.agg #[.int .i64 0, .int .i64 0, .int .i64 0]) := by kernel_rfl
theorem bld55_0_1_2 : ∀ (x0 : Int) (x1 : Int) (x2 : Int), buildV Try.prog 55 [(0, .int .i64 x0), (1, .int .i64 x1), (2, .int .i64 x2)] = some (.agg #[.int .i64 x0, .int .i64 x1, .int .i64 x2]) := by intros; kernel_rfl
theorem bld61 : buildV Try.prog 61 [] = some (.agg #[.slice none 0 0, .int .i64 0, .int .i64 0, .bool false, .int .i64 0, .int .u16 0, .int .u16 0, .bool false, .bool false, .int .i64 0, .int .i64 0]) := by kernel_rfl
theorem bld63 : buildV Try.prog 63 [] = some (.agg #[.int .i64 0, .int .i64 0]) := by kernel_rfl
theorem bld65_0 : ∀ (x0 : Option Addr), buildV Try.prog 65 [(0, .pointer x0)] = some (.agg #[.pointer x0]) := by intros; kernel_rfl
theorem bld74_0_1 : ∀ (x0 : Int) (x1 : Int), buildV Try.prog 74 [(0, .int .i64 x0), (1, .int .i64 x1)] = some (.agg #[.int .i64 x0, .int .i64 x1, .bool false, .slice none 0 0, .string ⟨#[]⟩, .int .i64 0, .int .i64 0]) := by intros; kernel_rfl
theorem bld74_2_3 : ∀ (x2 : Bool) (x3 : Option Addr) (x3n x3c : Nat), buildV Try.prog 74 [(2, .bool x2), (3, .slice x3 x3n x3c)] = some (.agg #[.int .i64 0, .int .i64 0, .bool x2, .slice x3 x3n x3c, .string ⟨#[]⟩, .int .i64 0, .int .i64 0]) := by intros; kernel_rfl
theorem bld74_4 : ∀ (x4 : ByteArray), buildV Try.prog 74 [(4, .string x4)] = some (.agg #[.int .i64 0, .int .i64 0, .bool false, .slice none 0 0, .string x4, .int .i64 0, .int .i64 0]) := by intros; kernel_rfl
theorem bld77_0 : ∀ (x0 : Int), buildV Try.prog 77 [(0, .int .i64 x0)] = some (.agg #[.int .i64 x0, .int .i64 0, .slice none 0 0]) := by intros; kernel_rfl
theorem bld77_0_1 : ∀ (x0 : Int) (x1 : Int), buildV Try.prog 77 [(0, .int .i64 x0), (1, .int .i64 x1)] = some (.agg #[.int .i64 x0, .int .i64 x1, .slice none 0 0]) := by intros; kernel_rfl
theorem bld77_2 : ∀ (x2 : Option Addr) (x2n x2c : Nat), buildV Try.prog 77 [(2, .slice x2 x2n x2c)] = some (.agg #[.int .i64 0, .int .i64 0, .slice x2 x2n x2c]) := by intros; kernel_rfl
theorem bld89 : buildV Try.prog 89 [] = some (.agg #[.bool false, .slice none 0 0]) := by kernel_rfl
theorem bs129_1_0 : ∀ (x0 : Int), Instr.fill (fun i => some (i * 1, 1)) (mkZ #[.int .u8 0] (1 * 1)) [(0, .int .u8 x0)] = some #[.int .u8 x0] := by intros; kernel_rfl
theorem bs59_1_0 : ∀ (x0 : Int), Instr.fill (fun i => some (i * 1, 1)) (mkZ #[.int .i64 0] (1 * 1)) [(0, .int .i64 x0)] = some #[.int .i64 x0] := by intros; kernel_rfl
theorem bs83_1_0 : ∀ (x0 : Option Addr) (x0n x0c : Nat), Instr.fill (fun i => some (i * 1, 1)) (mkZ #[.slice none 0 0] (1 * 1)) [(0, .slice x0 x0n x0c)] = some #[.slice x0 x0n x0c] := by intros; kernel_rfl
theorem bs86_1_0 : ∀ (x0_0 : Bool) (x0_1 : Option Addr) (x0_1n x0_1c : Nat), Instr.fill (fun i => some (i * 2, 2)) (mkZ #[.bool false, .slice none 0 0] (1 * 2)) [(0, .agg #[.bool x0_0, .slice x0_1 x0_1n x0_1c])] = some #[.bool x0_0, .slice x0_1 x0_1n x0_1c] := by intros; kernel_rfl
theorem ei129 : elI Try.prog 129 = some (5, 1, 1, #[.int .u8 0]) := by kernel_rfl
theorem ei59 : elI Try.prog 59 = some (3, 1, 8, #[.int .i64 0]) := by kernel_rfl
theorem ei83 : elI Try.prog 83 = some (59, 1, 24, #[.slice none 0 0]) := by kernel_rfl
theorem ei86 : elI Try.prog 86 = some (89, 2, 32, #[.bool false, .slice none 0 0]) := by kernel_rfl
theorem el129 : elS Try.prog 129 = some 1 := by kernel_rfl
theorem el22 : elS Try.prog 22 = some 6 := by kernel_rfl
theorem el59 : elS Try.prog 59 = some 1 := by kernel_rfl
theorem el83 : elS Try.prog 83 = some 1 := by kernel_rfl
theorem el86 : elS Try.prog 86 = some 2 := by kernel_rfl
theorem f101_0 : fOff Try.prog 101 0 = some 0 := by kernel_rfl
theorem f101_1 : fOff Try.prog 101 1 = some 1 := by kernel_rfl
theorem f101_2 : fOff Try.prog 101 2 = some 2 := by kernel_rfl
theorem f101_3 : fOff Try.prog 101 3 = some 3 := by kernel_rfl
theorem f113_0 : fOff Try.prog 113 0 = some 0 := by kernel_rfl
theorem f29_0 : fOff Try.prog 29 0 = some 0 := by kernel_rfl
theorem f37_0 : fOff Try.prog 37 0 = some 0 := by kernel_rfl
theorem f37_1 : fOff Try.prog 37 1 = some 1 := by kernel_rfl
theorem f41_0 : fOff Try.prog 41 0 = some 0 := by kernel_rfl
theorem f41_4 : fOff Try.prog 41 4 = some 4 := by kernel_rfl
theorem f41_5 : fOff Try.prog 41 5 = some 5 := by kernel_rfl
theorem f47_0 : fOff Try.prog 47 0 = some 0 := by kernel_rfl
theorem f47_1 : fOff Try.prog 47 1 = some 1 := by kernel_rfl
theorem f47_2 : fOff Try.prog 47 2 = some 65 := by kernel_rfl
theorem f47_3 : fOff Try.prog 47 3 = some 129 := by kernel_rfl
theorem f47_4 : fOff Try.prog 47 4 = some 130 := by kernel_rfl
theorem f55_0 : fOff Try.prog 55 0 = some 0 := by kernel_rfl
theorem f55_1 : fOff Try.prog 55 1 = some 1 := by kernel_rfl
theorem f55_2 : fOff Try.prog 55 2 = some 2 := by kernel_rfl
theorem f61_0 : fOff Try.prog 61 0 = some 0 := by kernel_rfl
theorem f61_1 : fOff Try.prog 61 1 = some 1 := by kernel_rfl
theorem f61_10 : fOff Try.prog 61 10 = some 10 := by kernel_rfl
theorem f61_2 : fOff Try.prog 61 2 = some 2 := by kernel_rfl
theorem f61_3 : fOff Try.prog 61 3 = some 3 := by kernel_rfl
theorem f61_4 : fOff Try.prog 61 4 = some 4 := by kernel_rfl
theorem f61_5 : fOff Try.prog 61 5 = some 5 := by kernel_rfl
theorem f61_6 : fOff Try.prog 61 6 = some 6 := by kernel_rfl
theorem f61_7 : fOff Try.prog 61 7 = some 7 := by kernel_rfl
theorem f61_8 : fOff Try.prog 61 8 = some 8 := by kernel_rfl
theorem f61_9 : fOff Try.prog 61 9 = some 9 := by kernel_rfl
theorem f63_0 : fOff Try.prog 63 0 = some 0 := by kernel_rfl
theorem f63_1 : fOff Try.prog 63 1 = some 1 := by kernel_rfl
theorem f65_0 : fOff Try.prog 65 0 = some 0 := by kernel_rfl
theorem f74_0 : fOff Try.prog 74 0 = some 0 := by kernel_rfl
theorem f74_2 : fOff Try.prog 74 2 = some 2 := by kernel_rfl
theorem f74_4 : fOff Try.prog 74 4 = some 4 := by kernel_rfl
theorem f77_0 : fOff Try.prog 77 0 = some 0 := by kernel_rfl
theorem f77_1 : fOff Try.prog 77 1 = some 1 := by kernel_rfl
theorem f77_2 : fOff Try.prog 77 2 = some 2 := by kernel_rfl
theorem f89_0 : fOff Try.prog 89 0 = some 0 := by kernel_rfl
theorem f89_1 : fOff Try.prog 89 1 = some 1 := by kernel_rfl
theorem hb10 : hasB Try.prog 10 = true := by kernel_rfl
theorem hb11 : hasB Try.prog 11 = true := by kernel_rfl
theorem hb12 : hasB Try.prog 12 = true := by kernel_rfl
theorem hb13 : hasB Try.prog 13 = true := by kernel_rfl
theorem hb14 : hasB Try.prog 14 = true := by kernel_rfl
theorem hb15 : hasB Try.prog 15 = true := by kernel_rfl
theorem hb16 : hasB Try.prog 16 = true := by kernel_rfl
theorem hb17 : hasB Try.prog 17 = true := by kernel_rfl
theorem hb18 : hasB Try.prog 18 = true := by kernel_rfl
theorem hb19 : hasB Try.prog 19 = true := by kernel_rfl
theorem hb20 : hasB Try.prog 20 = true := by kernel_rfl
theorem hb21 : hasB Try.prog 21 = true := by kernel_rfl
theorem hb22 : hasB Try.prog 22 = true := by kernel_rfl
theorem hb23 : hasB Try.prog 23 = true := by kernel_rfl
theorem hb24 : hasB Try.prog 24 = true := by kernel_rfl
theorem hb25 : hasB Try.prog 25 = true := by kernel_rfl
theorem hb26 : hasB Try.prog 26 = true := by kernel_rfl
theorem hb27 : hasB Try.prog 27 = true := by kernel_rfl
theorem hb28 : hasB Try.prog 28 = true := by kernel_rfl
theorem hb29 : hasB Try.prog 29 = true := by kernel_rfl
theorem hb3 : hasB Try.prog 3 = true := by kernel_rfl
theorem hb30 : hasB Try.prog 30 = true := by kernel_rfl
theorem hb31 : hasB Try.prog 31 = true := by kernel_rfl
theorem hb32 : hasB Try.prog 32 = true := by kernel_rfl
theorem hb33 : hasB Try.prog 33 = true := by kernel_rfl
theorem hb34 : hasB Try.prog 34 = true := by kernel_rfl
theorem hb35 : hasB Try.prog 35 = true := by kernel_rfl
theorem hb36 : hasB Try.prog 36 = true := by kernel_rfl
theorem hb37 : hasB Try.prog 37 = true := by kernel_rfl
theorem hb38 : hasB Try.prog 38 = true := by kernel_rfl
theorem hb39 : hasB Try.prog 39 = true := by kernel_rfl
theorem hb4 : hasB Try.prog 4 = true := by kernel_rfl
theorem hb40 : hasB Try.prog 40 = true := by kernel_rfl
theorem hb41 : hasB Try.prog 41 = true := by kernel_rfl
theorem hb42 : hasB Try.prog 42 = true := by kernel_rfl
theorem hb43 : hasB Try.prog 43 = true := by kernel_rfl
theorem hb44 : hasB Try.prog 44 = true := by kernel_rfl
theorem hb45 : hasB Try.prog 45 = true := by kernel_rfl
theorem hb46 : hasB Try.prog 46 = true := by kernel_rfl
theorem hb47 : hasB Try.prog 47 = true := by kernel_rfl
theorem hb48 : hasB Try.prog 48 = true := by kernel_rfl
theorem hb49 : hasB Try.prog 49 = true := by kernel_rfl
theorem hb5 : hasB Try.prog 5 = true := by kernel_rfl
theorem hb50 : hasB Try.prog 50 = true := by kernel_rfl
theorem hb51 : hasB Try.prog 51 = true := by kernel_rfl
theorem hb52 : hasB Try.prog 52 = true := by kernel_rfl
theorem hb53 : hasB Try.prog 53 = true := by kernel_rfl
theorem hb54 : hasB Try.prog 54 = true := by kernel_rfl
theorem hb55 : hasB Try.prog 55 = true := by kernel_rfl
theorem hb56 : hasB Try.prog 56 = true := by kernel_rfl
theorem hb57 : hasB Try.prog 57 = true := by kernel_rfl
theorem hb58 : hasB Try.prog 58 = true := by kernel_rfl
theorem hb59 : hasB Try.prog 59 = true := by kernel_rfl
theorem hb6 : hasB Try.prog 6 = true := by kernel_rfl
theorem hb60 : hasB Try.prog 60 = true := by kernel_rfl
theorem hb61 : hasB Try.prog 61 = true := by kernel_rfl
theorem hb62 : hasB Try.prog 62 = true := by kernel_rfl
theorem hb63 : hasB Try.prog 63 = true := by kernel_rfl
theorem hb64 : hasB Try.prog 64 = true := by kernel_rfl
theorem hb65 : hasB Try.prog 65 = true := by kernel_rfl
theorem hb66 : hasB Try.prog 66 = true := by kernel_rfl
theorem hb67 : hasB Try.prog 67 = true := by kernel_rfl
theorem hb68 : hasB Try.prog 68 = true := by kernel_rfl
theorem hb69 : hasB Try.prog 69 = true := by kernel_rfl
theorem hb7 : hasB Try.prog 7 = true := by kernel_rfl
theorem hb70 : hasB Try.prog 70 = true := by kernel_rfl
theorem hb71 : hasB Try.prog 71 = true := by kernel_rfl
theorem hb72 : hasB Try.prog 72 = true := by kernel_rfl
theorem hb73 : hasB Try.prog 73 = true := by kernel_rfl
theorem hb74 : hasB Try.prog 74 = true := by kernel_rfl
theorem hb75 : hasB Try.prog 75 = true := by kernel_rfl
theorem hb76 : hasB Try.prog 76 = true := by kernel_rfl
theorem hb77 : hasB Try.prog 77 = true := by kernel_rfl
theorem hb78 : hasB Try.prog 78 = true := by kernel_rfl
theorem hb79 : hasB Try.prog 79 = true := by kernel_rfl
theorem hb8 : hasB Try.prog 8 = true := by kernel_rfl
theorem hb80 : hasB Try.prog 80 = true := by kernel_rfl
theorem hb9 : hasB Try.prog 9 = true := by kernel_rfl
theorem in3 : inK Try.prog 3 = some .i64 := by kernel_rfl
theorem in5 : inK Try.prog 5 = some .u8 := by kernel_rfl
theorem in66 : inK Try.prog 66 = some .u64 := by kernel_rfl
theorem in9 : inK Try.prog 9 = none := by kernel_rfl
theorem kd129 : kd Try.prog 129 = 1 := by kernel_rfl
theorem kd136 : kd Try.prog 136 = 9 := by kernel_rfl
theorem kd22 : kd Try.prog 22 = 4 := by kernel_rfl
theorem kd27 : kd Try.prog 27 = 3 := by kernel_rfl
theorem kd3 : kd Try.prog 3 = 9 := by kernel_rfl
theorem kd4 : kd Try.prog 4 = 2 := by kernel_rfl
theorem kd5 : kd Try.prog 5 = 9 := by kernel_rfl
theorem kd59 : kd Try.prog 59 = 4 := by kernel_rfl
theorem kd66 : kd Try.prog 66 = 9 := by kernel_rfl
theorem kd83 : kd Try.prog 83 = 4 := by kernel_rfl
theorem kd86 : kd Try.prog 86 = 4 := by kernel_rfl
theorem kd9 : kd Try.prog 9 = 0 := by kernel_rfl
theorem mix : Try.prog.follows .mixedOrders = true := by kernel_rfl
theorem ni129 : ∀ k, Try.prog.underlying 129 ≠ some (.int k) := by intro k; rw [show Try.prog.underlying 129 = some (.slice 5) from by kernel_rfl]; simp
theorem ni59 : ∀ k, Try.prog.underlying 59 ≠ some (.int k) := by intro k; rw [show Try.prog.underlying 59 = some (.slice 3) from by kernel_rfl]; simp
theorem ni83 : ∀ k, Try.prog.underlying 83 ≠ some (.int k) := by intro k; rw [show Try.prog.underlying 83 = some (.slice 59) from by kernel_rfl]; simp
theorem ni86 : ∀ k, Try.prog.underlying 86 ≠ some (.int k) := by intro k; rw [show Try.prog.underlying 86 = some (.slice 89) from by kernel_rfl]; simp
theorem ni9 : ∀ k, Try.prog.underlying 9 ≠ some (.int k) := by intro k; rw [show Try.prog.underlying 9 = some .string from by kernel_rfl]; simp
theorem sz101 : sz Try.prog 101 = some 4 := by kernel_rfl
theorem sz29 : sz Try.prog 29 = some 1 := by kernel_rfl
theorem sz3 : sz Try.prog 3 = some 1 := by kernel_rfl
theorem sz4 : sz Try.prog 4 = some 1 := by kernel_rfl
theorem sz43 : sz Try.prog 43 = some 1 := by kernel_rfl
theorem sz45 : sz Try.prog 45 = some 1 := by kernel_rfl
theorem sz5 : sz Try.prog 5 = some 1 := by kernel_rfl
theorem sz53 : sz Try.prog 53 = some 1 := by kernel_rfl
theorem sz55 : sz Try.prog 55 = some 3 := by kernel_rfl
theorem sz59 : sz Try.prog 59 = some 1 := by kernel_rfl
theorem sz74 : sz Try.prog 74 = some 7 := by kernel_rfl
theorem sz77 : sz Try.prog 77 = some 3 := by kernel_rfl
theorem sz89 : sz Try.prog 89 = some 2 := by kernel_rfl
theorem sz9 : sz Try.prog 9 = some 1 := by kernel_rfl
theorem us129 : (Try.prog.underlying 129).isSome = true := by kernel_rfl
theorem us3 : (Try.prog.underlying 3).isSome = true := by kernel_rfl
theorem us5 : (Try.prog.underlying 5).isSome = true := by kernel_rfl
theorem us59 : (Try.prog.underlying 59).isSome = true := by kernel_rfl
theorem us83 : (Try.prog.underlying 83).isSome = true := by kernel_rfl
theorem us86 : (Try.prog.underlying 86).isSome = true := by kernel_rfl
theorem us9 : (Try.prog.underlying 9).isSome = true := by kernel_rfl
theorem z101 : zV Try.prog 101 = some (.agg #[.int .u16 0, .int .u16 0, .bool false, .int .i64 0]) := by kernel_rfl
theorem z136 : zV Try.prog 136 = some (.agg #[.int .u8 0, .int .u8 0, .int .u8 0, .int .u8 0, .int .u8 0, .int .u8 0, .int .u8 0, .int .u8 0, .int .u8 0, .int .u8 0, .int .u8 0, .int .u8 0, .int .u8 0, .int .u8 0, .int .u8 0, .int .u8 0, .int .u8 0, .int .u8 0, .int .u8 0, .int .u8 0, .int .u8 0, .int .u8 0, .int .u8 0, .int .u8 0]) := by kernel_rfl
theorem z29 : zV Try.prog 29 = some (.agg #[.pointer none]) := by kernel_rfl
theorem z55 : zV Try.prog 55 = some (.agg #[.int .i64 0, .int .i64 0, .int .i64 0]) := by kernel_rfl
theorem z74 : zV Try.prog 74 = some (.agg #[.int .i64 0, .int .i64 0, .bool false, .slice none 0 0, .string ⟨#[]⟩, .int .i64 0, .int .i64 0]) := by kernel_rfl
theorem z77 : zV Try.prog 77 = some (.agg #[.int .i64 0, .int .i64 0, .slice none 0 0]) := by kernel_rfl
theorem z89 : zV Try.prog 89 = some (.agg #[.bool false, .slice none 0 0]) := by kernel_rfl
end Go.Proofs.Qxb6500398a.T
