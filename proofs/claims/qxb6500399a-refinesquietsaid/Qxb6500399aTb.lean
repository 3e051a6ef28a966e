import Derived.Test.Qxb6500399aProg
import Derived.Test.Qxb6500399aEc
set_option linter.unusedVariables false
namespace Go.Proofs.Qxb6500399a.T
open Go.Eng
theorem ag28 : agS Try.prog 28 = some (some 0) := by kernel_rfl
theorem ag3 : agS Try.prog 3 = some none := by kernel_rfl
theorem ag35 : agS Try.prog 35 = some none := by kernel_rfl
theorem ag36 : agS Try.prog 36 = some none := by kernel_rfl
theorem ag4 : agS Try.prog 4 = some none := by kernel_rfl
theorem ag42 : agS Try.prog 42 = some (some 6) := by kernel_rfl
theorem ag43 : agS Try.prog 43 = some none := by kernel_rfl
theorem ag44 : agS Try.prog 44 = some none := by kernel_rfl
theorem ag51 : agS Try.prog 51 = some (some 3) := by kernel_rfl
theorem ag9 : agS Try.prog 9 = some none := by kernel_rfl
theorem ar85 : arS Try.prog 85 = some (24, 1) := by kernel_rfl
theorem bld28 : buildV Try.prog 28 [] = some (.agg #[]) := by kernel_rfl
theorem bld38 : buildV Try.prog 38 [] = some (.agg #[.string ⟨#[]⟩, .slice none 0 0, .string ⟨#[]⟩, .slice none 0 0, .slice none 0 0]) := by kernel_rfl
theorem bld46 : buildV Try.prog 46 [] = some (.agg #[.slice none 0 0, .int .i64 0, .int .i64 0, .bool false, .int .i64 0, .int .u16 0, .int .u16 0, .bool false, .bool false, .int .i64 0, .int .i64 0]) := by kernel_rfl
theorem bld48 : buildV Try.prog 48 [] = some (.agg #[.int .i64 0, .int .i64 0]) := by kernel_rfl
theorem bld51_0 : ∀ (x0 : Int), buildV Try.prog 51 [(0, .int .i64 x0)] = some (.agg #[.int .i64 x0, .int .i64 0, .slice none 0 0]) := by intros; kernel_rfl
theorem bld51_0_1 : ∀ (x0 : Int) (x1 : Int), buildV Try.prog 51 [(0, .int .i64 x0), (1, .int .i64 x1)] = some (.agg #[.int .i64 x0, .int .i64 x1, .slice none 0 0]) := by intros; kernel_rfl
theorem bld51_2 : ∀ (x2 : Option Addr) (x2n x2c : Nat), buildV Try.prog 51 [(2, .slice x2 x2n x2c)] = some (.agg #[.int .i64 0, .int .i64 0, .slice x2 x2n x2c]) := by intros; kernel_rfl
theorem bs35_1_0 : ∀ (x0 : Int), Instr.fill (fun i => some (i * 1, 1)) (mkZ #[.int .i64 0] (1 * 1)) [(0, .int .i64 x0)] = some #[.int .i64 x0] := by intros; kernel_rfl
theorem bs36_1_0 : ∀ (x0 : Option Addr) (x0n x0c : Nat), Instr.fill (fun i => some (i * 1, 1)) (mkZ #[.slice none 0 0] (1 * 1)) [(0, .slice x0 x0n x0c)] = some #[.slice x0 x0n x0c] := by intros; kernel_rfl
theorem bs78_1_0 : ∀ (x0 : Int), Instr.fill (fun i => some (i * 1, 1)) (mkZ #[.int .u8 0] (1 * 1)) [(0, .int .u8 x0)] = some #[.int .u8 x0] := by intros; kernel_rfl
theorem ei35 : elI Try.prog 35 = some (3, 1, 8, #[.int .i64 0]) := by kernel_rfl
theorem ei36 : elI Try.prog 36 = some (35, 1, 24, #[.slice none 0 0]) := by kernel_rfl
theorem ei78 : elI Try.prog 78 = some (5, 1, 1, #[.int .u8 0]) := by kernel_rfl
theorem el22 : elS Try.prog 22 = some 6 := by kernel_rfl
theorem el35 : elS Try.prog 35 = some 1 := by kernel_rfl
theorem el36 : elS Try.prog 36 = some 1 := by kernel_rfl
theorem el78 : elS Try.prog 78 = some 1 := by kernel_rfl
theorem f38_0 : fOff Try.prog 38 0 = some 0 := by kernel_rfl
theorem f38_1 : fOff Try.prog 38 1 = some 1 := by kernel_rfl
theorem f38_2 : fOff Try.prog 38 2 = some 2 := by kernel_rfl
theorem f38_3 : fOff Try.prog 38 3 = some 3 := by kernel_rfl
theorem f38_4 : fOff Try.prog 38 4 = some 4 := by kernel_rfl
theorem f42_0 : fOff Try.prog 42 0 = some 0 := by kernel_rfl
theorem f42_1 : fOff Try.prog 42 1 = some 1 := by kernel_rfl
theorem f42_2 : fOff Try.prog 42 2 = some 2 := by kernel_rfl
theorem f42_4 : fOff Try.prog 42 4 = some 4 := by kernel_rfl
theorem f46_0 : fOff Try.prog 46 0 = some 0 := by kernel_rfl
theorem f46_1 : fOff Try.prog 46 1 = some 1 := by kernel_rfl
theorem f46_10 : fOff Try.prog 46 10 = some 10 := by kernel_rfl
theorem f46_2 : fOff Try.prog 46 2 = some 2 := by kernel_rfl
theorem f46_3 : fOff Try.prog 46 3 = some 3 := by kernel_rfl
theorem f46_4 : fOff Try.prog 46 4 = some 4 := by kernel_rfl
theorem f46_5 : fOff Try.prog 46 5 = some 5 := by kernel_rfl
theorem f46_6 : fOff Try.prog 46 6 = some 6 := by kernel_rfl
theorem f46_7 : fOff Try.prog 46 7 = some 7 := by kernel_rfl
theorem f46_8 : fOff Try.prog 46 8 = some 8 := by kernel_rfl
theorem f46_9 : fOff Try.prog 46 9 = some 9 := by kernel_rfl
theorem f48_0 : fOff Try.prog 48 0 = some 0 := by kernel_rfl
theorem f48_1 : fOff Try.prog 48 1 = some 1 := by kernel_rfl
theorem f51_0 : fOff Try.prog 51 0 = some 0 := by kernel_rfl
theorem f51_1 : fOff Try.prog 51 1 = some 1 := by kernel_rfl
theorem f51_2 : fOff Try.prog 51 2 = some 2 := by kernel_rfl
theorem hb10 : hasB Try.prog 10 = true := by kernel_rfl
theorem hb11 : hasB Try.prog 11 = true := by kernel_rfl
theorem hb12 : hasB Try.prog 12 = true := by kernel_rfl
theorem hb13 : hasB Try.prog 13 = true := by kernel_rfl
theorem hb14 : hasB Try.prog 14 = true := by kernel_rfl
theorem hb15 : hasB Try.prog 15 = true := by kernel_rfl
theorem hb16 : hasB Try.prog 16 = true := by kernel_rfl
theorem hb17 : hasB Try.prog 17 = true := by kernel_rfl
theorem hb18 : hasB Try.prog 18 = true := by kernel_rfl
theorem hb19 : hasB Try.prog 19 = true := by kernel_rfl
theorem hb20 : hasB Try.prog 20 = true := by kernel_rfl
theorem hb21 : hasB Try.prog 21 = true := by kernel_rfl
theorem hb22 : hasB Try.prog 22 = true := by kernel_rfl
theorem hb23 : hasB Try.prog 23 = true := by kernel_rfl
theorem hb24 : hasB Try.prog 24 = true := by kernel_rfl
theorem hb25 : hasB Try.prog 25 = true := by kernel_rfl
theorem hb26 : hasB Try.prog 26 = true := by kernel_rfl
theorem hb27 : hasB Try.prog 27 = true := by kernel_rfl
theorem hb28 : hasB Try.prog 28 = true := by kernel_rfl
theorem hb29 : hasB Try.prog 29 = true := by kernel_rfl
theorem hb3 : hasB Try.prog 3 = true := by kernel_rfl
theorem hb30 : hasB Try.prog 30 = true := by kernel_rfl
theorem hb31 : hasB Try.prog 31 = true := by kernel_rfl
theorem hb32 : hasB Try.prog 32 = true := by kernel_rfl
theorem hb33 : hasB Try.prog 33 = true := by kernel_rfl
theorem hb34 : hasB Try.prog 34 = true := by kernel_rfl
theorem hb35 : hasB Try.prog 35 = true := by kernel_rfl
theorem hb36 : hasB Try.prog 36 = true := by kernel_rfl
theorem hb37 : hasB Try.prog 37 = true := by kernel_rfl
theorem hb38 : hasB Try.prog 38 = true := by kernel_rfl
theorem hb39 : hasB Try.prog 39 = true := by kernel_rfl
theorem hb4 : hasB Try.prog 4 = true := by kernel_rfl
theorem hb40 : hasB Try.prog 40 = true := by kernel_rfl
theorem hb41 : hasB Try.prog 41 = true := by kernel_rfl
theorem hb42 : hasB Try.prog 42 = true := by kernel_rfl
theorem hb43 : hasB Try.prog 43 = true := by kernel_rfl
theorem hb44 : hasB Try.prog 44 = true := by kernel_rfl
theorem hb45 : hasB Try.prog 45 = true := by kernel_rfl
theorem hb46 : hasB Try.prog 46 = true := by kernel_rfl
theorem hb47 : hasB Try.prog 47 = true := by kernel_rfl
theorem hb5 : hasB Try.prog 5 = true := by kernel_rfl
theorem hb6 : hasB Try.prog 6 = true := by kernel_rfl
theorem hb7 : hasB Try.prog 7 = true := by kernel_rfl
theorem hb8 : hasB Try.prog 8 = true := by kernel_rfl
theorem hb9 : hasB Try.prog 9 = true := by kernel_rfl
theorem in3 : inK Try.prog 3 = some .i64 := by kernel_rfl
theorem in5 : inK Try.prog 5 = some .u8 := by kernel_rfl
theorem in86 : inK Try.prog 86 = some .u64 := by kernel_rfl
theorem in9 : inK Try.prog 9 = none := by kernel_rfl
theorem kd22 : kd Try.prog 22 = 4 := by kernel_rfl
theorem kd3 : kd Try.prog 3 = 9 := by kernel_rfl
theorem kd35 : kd Try.prog 35 = 4 := by kernel_rfl
theorem kd36 : kd Try.prog 36 = 4 := by kernel_rfl
theorem kd5 : kd Try.prog 5 = 9 := by kernel_rfl
theorem kd78 : kd Try.prog 78 = 1 := by kernel_rfl
theorem kd85 : kd Try.prog 85 = 9 := by kernel_rfl
theorem kd86 : kd Try.prog 86 = 9 := by kernel_rfl
theorem kd9 : kd Try.prog 9 = 0 := by kernel_rfl
theorem mix : Try.prog.follows .mixedOrders = true := by kernel_rfl
theorem ni35 : ∀ k, Try.prog.underlying 35 ≠ some (.int k) := by intro k; rw [show Try.prog.underlying 35 = some (.slice 3) from by kernel_rfl]; simp
theorem ni36 : ∀ k, Try.prog.underlying 36 ≠ some (.int k) := by intro k; rw [show Try.prog.underlying 36 = some (.slice 35) from by kernel_rfl]; simp
theorem ni78 : ∀ k, Try.prog.underlying 78 ≠ some (.int k) := by intro k; rw [show Try.prog.underlying 78 = some (.slice 5) from by kernel_rfl]; simp
theorem ni9 : ∀ k, Try.prog.underlying 9 ≠ some (.int k) := by intro k; rw [show Try.prog.underlying 9 = some .string from by kernel_rfl]; simp
theorem sz28 : sz Try.prog 28 = some 0 := by kernel_rfl
theorem sz3 : sz Try.prog 3 = some 1 := by kernel_rfl
theorem sz35 : sz Try.prog 35 = some 1 := by kernel_rfl
theorem sz36 : sz Try.prog 36 = some 1 := by kernel_rfl
theorem sz4 : sz Try.prog 4 = some 1 := by kernel_rfl
theorem sz43 : sz Try.prog 43 = some 1 := by kernel_rfl
theorem sz44 : sz Try.prog 44 = some 1 := by kernel_rfl
theorem sz5 : sz Try.prog 5 = some 1 := by kernel_rfl
theorem sz51 : sz Try.prog 51 = some 3 := by kernel_rfl
theorem sz9 : sz Try.prog 9 = some 1 := by kernel_rfl
theorem us3 : (Try.prog.underlying 3).isSome = true := by kernel_rfl
theorem us35 : (Try.prog.underlying 35).isSome = true := by kernel_rfl
theorem us36 : (Try.prog.underlying 36).isSome = true := by kernel_rfl
theorem us5 : (Try.prog.underlying 5).isSome = true := by kernel_rfl
theorem us78 : (Try.prog.underlying 78).isSome = true := by kernel_rfl
theorem us9 : (Try.prog.underlying 9).isSome = true := by kernel_rfl
theorem z28 : zV Try.prog 28 = some (.agg #[]) := by kernel_rfl
theorem z51 : zV Try.prog 51 = some (.agg #[.int .i64 0, .int .i64 0, .slice none 0 0]) := by kernel_rfl
theorem z85 : zV Try.prog 85 = some (.agg #[.int .u8 0, .int .u8 0, .int .u8 0, .int .u8 0, .int .u8 0, .int .u8 0, .int .u8 0, .int .u8 0, .int .u8 0, .int .u8 0, .int .u8 0, .int .u8 0, .int .u8 0, .int .u8 0, .int .u8 0, .int .u8 0, .int .u8 0, .int .u8 0, .int .u8 0, .int .u8 0, .int .u8 0, .int .u8 0, .int .u8 0, .int .u8 0]) := by kernel_rfl
end Go.Proofs.Qxb6500399a.T
