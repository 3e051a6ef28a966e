import Derived.Test.Qxb6500405aProg
import Derived.Test.Qxb6500405aEc
set_option linter.unusedVariables false
namespace Go.Proofs.Qxb6500405a.T
open Go.Eng
theorem ag28 : agS Try.prog 28 = some (some 0) := by kernel_rfl
theorem ag3 : agS Try.prog 3 = some none := by kernel_rfl
theorem ag36 : agS Try.prog 36 = some (some 6) := by kernel_rfl
theorem ag38 : agS Try.prog 38 = some (some 3) := by kernel_rfl
theorem ag45 : agS Try.prog 45 = some none := by kernel_rfl
theorem ag5 : agS Try.prog 5 = some none := by kernel_rfl
theorem ag9 : agS Try.prog 9 = some none := by kernel_rfl
theorem bld28 : buildV Try.prog 28 [] = some (.agg #[]) := by kernel_rfl
theorem bld38_0_1_2 : ∀ (x0 : Int) (x1 : Int) (x2 : ByteArray), buildV Try.prog 38 [(0, .int .i64 x0), (1, .int .i64 x1), (2, .string x2)] = some (.agg #[.int .i64 x0, .int .i64 x1, .string x2]) := by intros; kernel_rfl
theorem bld47_0 : ∀ (x0 : Option Addr) (x0n x0c : Nat), buildV Try.prog 47 [(0, .slice x0 x0n x0c)] = some (.agg #[.slice x0 x0n x0c, .int .i64 0, .int .i64 0]) := by intros; kernel_rfl
theorem bld49 : buildV Try.prog 49 [] = some (.agg #[.slice none 0 0, .int .i64 0]) := by kernel_rfl
theorem bs45_1_0 : ∀ (x0 : Int), Instr.fill (fun i => some (i * 1, 1)) (mkZ #[.int .u8 0] (1 * 1)) [(0, .int .u8 x0)] = some #[.int .u8 x0] := by intros; kernel_rfl
theorem ei45 : elI Try.prog 45 = some (5, 1, 1, #[.int .u8 0]) := by kernel_rfl
theorem el22 : elS Try.prog 22 = some 6 := by kernel_rfl
theorem el45 : elS Try.prog 45 = some 1 := by kernel_rfl
theorem f36_0 : fOff Try.prog 36 0 = some 0 := by kernel_rfl
theorem f36_1 : fOff Try.prog 36 1 = some 1 := by kernel_rfl
theorem f36_2 : fOff Try.prog 36 2 = some 2 := by kernel_rfl
theorem f36_4 : fOff Try.prog 36 4 = some 4 := by kernel_rfl
theorem f38_0 : fOff Try.prog 38 0 = some 0 := by kernel_rfl
theorem f38_1 : fOff Try.prog 38 1 = some 1 := by kernel_rfl
theorem f38_2 : fOff Try.prog 38 2 = some 2 := by kernel_rfl
theorem f47_0 : fOff Try.prog 47 0 = some 0 := by kernel_rfl
theorem f47_1 : fOff Try.prog 47 1 = some 1 := by kernel_rfl
theorem f47_2 : fOff Try.prog 47 2 = some 2 := by kernel_rfl
theorem f49_0 : fOff Try.prog 49 0 = some 0 := by kernel_rfl
theorem f49_1 : fOff Try.prog 49 1 = some 1 := by kernel_rfl
theorem hb10 : hasB Try.prog 10 = true := by kernel_rfl
theorem hb11 : hasB Try.prog 11 = true := by kernel_rfl
theorem hb12 : hasB Try.prog 12 = true := by kernel_rfl
theorem hb13 : hasB Try.prog 13 = true := by kernel_rfl
theorem hb14 : hasB Try.prog 14 = true := by kernel_rfl
theorem hb15 : hasB Try.prog 15 = true := by kernel_rfl
theorem hb16 : hasB Try.prog 16 = true := by kernel_rfl
theorem hb17 : hasB Try.prog 17 = true := by kernel_rfl
theorem hb18 : hasB Try.prog 18 = true := by kernel_rfl
theorem hb19 : hasB Try.prog 19 = true := by kernel_rfl
theorem hb20 : hasB Try.prog 20 = true := by kernel_rfl
theorem hb21 : hasB Try.prog 21 = true := by kernel_rfl
theorem hb22 : hasB Try.prog 22 = true := by kernel_rfl
theorem hb23 : hasB Try.prog 23 = true := by kernel_rfl
theorem hb24 : hasB Try.prog 24 = true := by kernel_rfl
theorem hb25 : hasB Try.prog 25 = true := by kernel_rfl
theorem hb26 : hasB Try.prog 26 = true := by kernel_rfl
theorem hb27 : hasB Try.prog 27 = true := by kernel_rfl
theorem hb28 : hasB Try.prog 28 = true := by kernel_rfl
theorem hb29 : hasB Try.prog 29 = true := by kernel_rfl
theorem hb3 : hasB Try.prog 3 = true := by kernel_rfl
theorem hb30 : hasB Try.prog 30 = true := by kernel_rfl
theorem hb31 : hasB Try.prog 31 = true := by kernel_rfl
theorem hb32 : hasB Try.prog 32 = true := by kernel_rfl
theorem hb33 : hasB Try.prog 33 = true := by kernel_rfl
theorem hb34 : hasB Try.prog 34 = true := by kernel_rfl
theorem hb35 : hasB Try.prog 35 = true := by kernel_rfl
theorem hb36 : hasB Try.prog 36 = true := by kernel_rfl
theorem hb37 : hasB Try.prog 37 = true := by kernel_rfl
theorem hb38 : hasB Try.prog 38 = true := by kernel_rfl
theorem hb39 : hasB Try.prog 39 = true := by kernel_rfl
theorem hb4 : hasB Try.prog 4 = true := by kernel_rfl
theorem hb40 : hasB Try.prog 40 = true := by kernel_rfl
theorem hb41 : hasB Try.prog 41 = true := by kernel_rfl
theorem hb42 : hasB Try.prog 42 = true := by kernel_rfl
theorem hb43 : hasB Try.prog 43 = true := by kernel_rfl
theorem hb44 : hasB Try.prog 44 = true := by kernel_rfl
theorem hb45 : hasB Try.prog 45 = true := by kernel_rfl
theorem hb46 : hasB Try.prog 46 = true := by kernel_rfl
theorem hb47 : hasB Try.prog 47 = true := by kernel_rfl
theorem hb48 : hasB Try.prog 48 = true := by kernel_rfl
theorem hb49 : hasB Try.prog 49 = true := by kernel_rfl
theorem hb5 : hasB Try.prog 5 = true := by kernel_rfl
theorem hb50 : hasB Try.prog 50 = true := by kernel_rfl
theorem hb51 : hasB Try.prog 51 = true := by kernel_rfl
theorem hb52 : hasB Try.prog 52 = true := by kernel_rfl
theorem hb53 : hasB Try.prog 53 = true := by kernel_rfl
theorem hb54 : hasB Try.prog 54 = true := by kernel_rfl
theorem hb55 : hasB Try.prog 55 = true := by kernel_rfl
theorem hb6 : hasB Try.prog 6 = true := by kernel_rfl
theorem hb7 : hasB Try.prog 7 = true := by kernel_rfl
theorem hb8 : hasB Try.prog 8 = true := by kernel_rfl
theorem hb9 : hasB Try.prog 9 = true := by kernel_rfl
theorem in3 : inK Try.prog 3 = some .i64 := by kernel_rfl
theorem in5 : inK Try.prog 5 = some .u8 := by kernel_rfl
theorem in66 : inK Try.prog 66 = some .u64 := by kernel_rfl
theorem in9 : inK Try.prog 9 = none := by kernel_rfl
theorem kd22 : kd Try.prog 22 = 4 := by kernel_rfl
theorem kd3 : kd Try.prog 3 = 9 := by kernel_rfl
theorem kd45 : kd Try.prog 45 = 1 := by kernel_rfl
theorem kd5 : kd Try.prog 5 = 9 := by kernel_rfl
theorem kd66 : kd Try.prog 66 = 9 := by kernel_rfl
theorem kd9 : kd Try.prog 9 = 0 := by kernel_rfl
theorem mix : Try.prog.follows .mixedOrders = true := by kernel_rfl
theorem ni45 : ∀ k, Try.prog.underlying 45 ≠ some (.int k) := by intro k; rw [show Try.prog.underlying 45 = some (.slice 5) from by kernel_rfl]; simp
theorem sz28 : sz Try.prog 28 = some 0 := by kernel_rfl
theorem sz3 : sz Try.prog 3 = some 1 := by kernel_rfl
theorem sz36 : sz Try.prog 36 = some 6 := by kernel_rfl
theorem sz38 : sz Try.prog 38 = some 3 := by kernel_rfl
theorem sz45 : sz Try.prog 45 = some 1 := by kernel_rfl
theorem sz5 : sz Try.prog 5 = some 1 := by kernel_rfl
theorem us3 : (Try.prog.underlying 3).isSome = true := by kernel_rfl
theorem us45 : (Try.prog.underlying 45).isSome = true := by kernel_rfl
theorem us5 : (Try.prog.underlying 5).isSome = true := by kernel_rfl
theorem z28 : zV Try.prog 28 = some (.agg #[]) := by kernel_rfl
theorem z36 : zV Try.prog 36 = some (.agg #[.int .i64 0, .int .i64 0, .int .i64 0, .int .i64 0, .string ⟨#[]⟩, .string ⟨#[]⟩]) := by kernel_rfl
theorem z38 : zV Try.prog 38 = some (.agg #[.int .i64 0, .int .i64 0, .string ⟨#[]⟩]) := by kernel_rfl
end Go.Proofs.Qxb6500405a.T
