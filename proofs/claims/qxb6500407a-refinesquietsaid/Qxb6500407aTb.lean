import Derived.Test.Qxb6500407aProg
import Derived.Test.Qxb6500407aEc
set_option linter.unusedVariables false
namespace Go.Proofs.Qxb6500407a.T
open Go.Eng
theorem ag3 : agS Try.prog 3 = some none := by kernel_rfl
theorem ag32 : agS Try.prog 32 = some none := by kernel_rfl
theorem ag39 : agS Try.prog 39 = some (some 6) := by kernel_rfl
theorem ag4 : agS Try.prog 4 = some none := by kernel_rfl
theorem ar33 : arS Try.prog 33 = some (4, 1) := by kernel_rfl
theorem ar73 : arS Try.prog 73 = some (11, 1) := by kernel_rfl
theorem bld35 : buildV Try.prog 35 [] = some (.agg #[.slice none 0 0, .slice none 0 0, .slice none 0 0, .slice none 0 0, .slice none 0 0, .slice none 0 0, .slice none 0 0, .slice none 0 0, .int .i64 0, .slice none 0 0, .int .i64 0, .bool false, .slice none 0 0, .bool false, .slice none 0 0]) := by kernel_rfl
theorem bld42 : buildV Try.prog 42 [] = some (.agg #[.int .i64 0, .slice none 0 0, .slice none 0 0, .slice none 0 0, .slice none 0 0, .int .i64 0, .slice none 0 0, .slice none 0 0, .slice none 0 0, .slice none 0 0, .slice none 0 0, .slice none 0 0, .int .i64 0]) := by kernel_rfl
theorem bld44 : buildV Try.prog 44 [] = some (.agg #[.slice none 0 0, .slice none 0 0]) := by kernel_rfl
theorem bs32_1_0 : ∀ (x0 : Int), Instr.fill (fun i => some (i * 1, 1)) (mkZ #[.int .i64 0] (1 * 1)) [(0, .int .i64 x0)] = some #[.int .i64 x0] := by intros; kernel_rfl
theorem ei32 : elI Try.prog 32 = some (3, 1, 8, #[.int .i64 0]) := by kernel_rfl
theorem el22 : elS Try.prog 22 = some 6 := by kernel_rfl
theorem el32 : elS Try.prog 32 = some 1 := by kernel_rfl
theorem f35_0 : fOff Try.prog 35 0 = some 0 := by kernel_rfl
theorem f35_1 : fOff Try.prog 35 1 = some 1 := by kernel_rfl
theorem f35_10 : fOff Try.prog 35 10 = some 13 := by kernel_rfl
theorem f35_11 : fOff Try.prog 35 11 = some 14 := by kernel_rfl
theorem f35_2 : fOff Try.prog 35 2 = some 2 := by kernel_rfl
theorem f35_3 : fOff Try.prog 35 3 = some 3 := by kernel_rfl
theorem f35_4 : fOff Try.prog 35 4 = some 4 := by kernel_rfl
theorem f35_5 : fOff Try.prog 35 5 = some 8 := by kernel_rfl
theorem f35_6 : fOff Try.prog 35 6 = some 9 := by kernel_rfl
theorem f35_7 : fOff Try.prog 35 7 = some 10 := by kernel_rfl
theorem f35_8 : fOff Try.prog 35 8 = some 11 := by kernel_rfl
theorem f35_9 : fOff Try.prog 35 9 = some 12 := by kernel_rfl
theorem f39_0 : fOff Try.prog 39 0 = some 0 := by kernel_rfl
theorem f39_1 : fOff Try.prog 39 1 = some 1 := by kernel_rfl
theorem f39_2 : fOff Try.prog 39 2 = some 2 := by kernel_rfl
theorem f42_0 : fOff Try.prog 42 0 = some 0 := by kernel_rfl
theorem f42_1 : fOff Try.prog 42 1 = some 1 := by kernel_rfl
theorem f42_10 : fOff Try.prog 42 10 = some 10 := by kernel_rfl
theorem f42_11 : fOff Try.prog 42 11 = some 11 := by kernel_rfl
theorem f42_12 : fOff Try.prog 42 12 = some 12 := by kernel_rfl
theorem f42_2 : fOff Try.prog 42 2 = some 2 := by kernel_rfl
theorem f42_3 : fOff Try.prog 42 3 = some 3 := by kernel_rfl
theorem f42_4 : fOff Try.prog 42 4 = some 4 := by kernel_rfl
theorem f42_5 : fOff Try.prog 42 5 = some 5 := by kernel_rfl
theorem f42_6 : fOff Try.prog 42 6 = some 6 := by kernel_rfl
theorem f42_7 : fOff Try.prog 42 7 = some 7 := by kernel_rfl
theorem f42_8 : fOff Try.prog 42 8 = some 8 := by kernel_rfl
theorem f42_9 : fOff Try.prog 42 9 = some 9 := by kernel_rfl
theorem f44_0 : fOff Try.prog 44 0 = some 0 := by kernel_rfl
theorem f44_1 : fOff Try.prog 44 1 = some 1 := by kernel_rfl
theorem hb10 : hasB Try.prog 10 = true := by kernel_rfl
theorem hb11 : hasB Try.prog 11 = true := by kernel_rfl
theorem hb12 : hasB Try.prog 12 = true := by kernel_rfl
theorem hb13 : hasB Try.prog 13 = true := by kernel_rfl
theorem hb14 : hasB Try.prog 14 = true := by kernel_rfl
theorem hb15 : hasB Try.prog 15 = true := by kernel_rfl
theorem hb16 : hasB Try.prog 16 = true := by kernel_rfl
theorem hb17 : hasB Try.prog 17 = true := by kernel_rfl
theorem hb18 : hasB Try.prog 18 = true := by kernel_rfl
theorem hb19 : hasB Try.prog 19 = true := by kernel_rfl
theorem hb20 : hasB Try.prog 20 = true := by kernel_rfl
theorem hb21 : hasB Try.prog 21 = true := by kernel_rfl
theorem hb22 : hasB Try.prog 22 = true := by kernel_rfl
theorem hb23 : hasB Try.prog 23 = true := by kernel_rfl
theorem hb24 : hasB Try.prog 24 = true := by kernel_rfl
theorem hb25 : hasB Try.prog 25 = true := by kernel_rfl
theorem hb26 : hasB Try.prog 26 = true := by kernel_rfl
theorem hb27 : hasB Try.prog 27 = true := by kernel_rfl
theorem hb28 : hasB Try.prog 28 = true := by kernel_rfl
theorem hb29 : hasB Try.prog 29 = true := by kernel_rfl
theorem hb3 : hasB Try.prog 3 = true := by kernel_rfl
theorem hb30 : hasB Try.prog 30 = true := by kernel_rfl
theorem hb31 : hasB Try.prog 31 = true := by kernel_rfl
theorem hb32 : hasB Try.prog 32 = true := by kernel_rfl
theorem hb33 : hasB Try.prog 33 = true := by kernel_rfl
theorem hb34 : hasB Try.prog 34 = true := by kernel_rfl
theorem hb35 : hasB Try.prog 35 = true := by kernel_rfl
theorem hb36 : hasB Try.prog 36 = true := by kernel_rfl
theorem hb37 : hasB Try.prog 37 = true := by kernel_rfl
theorem hb38 : hasB Try.prog 38 = true := by kernel_rfl
theorem hb39 : hasB Try.prog 39 = true := by kernel_rfl
theorem hb4 : hasB Try.prog 4 = true := by kernel_rfl
theorem hb40 : hasB Try.prog 40 = true := by kernel_rfl
theorem hb41 : hasB Try.prog 41 = true := by kernel_rfl
theorem hb42 : hasB Try.prog 42 = true := by kernel_rfl
theorem hb43 : hasB Try.prog 43 = true := by kernel_rfl
theorem hb44 : hasB Try.prog 44 = true := by kernel_rfl
theorem hb45 : hasB Try.prog 45 = true := by kernel_rfl
theorem hb46 : hasB Try.prog 46 = true := by kernel_rfl
theorem hb47 : hasB Try.prog 47 = true := by kernel_rfl
theorem hb48 : hasB Try.prog 48 = true := by kernel_rfl
theorem hb49 : hasB Try.prog 49 = true := by kernel_rfl
theorem hb5 : hasB Try.prog 5 = true := by kernel_rfl
theorem hb50 : hasB Try.prog 50 = true := by kernel_rfl
theorem hb51 : hasB Try.prog 51 = true := by kernel_rfl
theorem hb52 : hasB Try.prog 52 = true := by kernel_rfl
theorem hb53 : hasB Try.prog 53 = true := by kernel_rfl
theorem hb54 : hasB Try.prog 54 = true := by kernel_rfl
theorem hb55 : hasB Try.prog 55 = true := by kernel_rfl
theorem hb56 : hasB Try.prog 56 = true := by kernel_rfl
theorem hb57 : hasB Try.prog 57 = true := by kernel_rfl
theorem hb58 : hasB Try.prog 58 = true := by kernel_rfl
theorem hb59 : hasB Try.prog 59 = true := by kernel_rfl
theorem hb6 : hasB Try.prog 6 = true := by kernel_rfl
theorem hb60 : hasB Try.prog 60 = true := by kernel_rfl
theorem hb61 : hasB Try.prog 61 = true := by kernel_rfl
theorem hb62 : hasB Try.prog 62 = true := by kernel_rfl
theorem hb63 : hasB Try.prog 63 = true := by kernel_rfl
theorem hb64 : hasB Try.prog 64 = true := by kernel_rfl
theorem hb65 : hasB Try.prog 65 = true := by kernel_rfl
theorem hb7 : hasB Try.prog 7 = true := by kernel_rfl
theorem hb8 : hasB Try.prog 8 = true := by kernel_rfl
theorem hb9 : hasB Try.prog 9 = true := by kernel_rfl
theorem in51 : inK Try.prog 51 = some .u64 := by kernel_rfl
theorem kd22 : kd Try.prog 22 = 4 := by kernel_rfl
theorem kd3 : kd Try.prog 3 = 9 := by kernel_rfl
theorem kd32 : kd Try.prog 32 = 4 := by kernel_rfl
theorem kd4 : kd Try.prog 4 = 2 := by kernel_rfl
theorem kd51 : kd Try.prog 51 = 9 := by kernel_rfl
theorem mix : Try.prog.follows .mixedOrders = true := by kernel_rfl
theorem ni32 : ∀ k, Try.prog.underlying 32 ≠ some (.int k) := by intro k; rw [show Try.prog.underlying 32 = some (.slice 3) from by kernel_rfl]; simp
theorem sz3 : sz Try.prog 3 = some 1 := by kernel_rfl
theorem sz32 : sz Try.prog 32 = some 1 := by kernel_rfl
theorem sz4 : sz Try.prog 4 = some 1 := by kernel_rfl
theorem us3 : (Try.prog.underlying 3).isSome = true := by kernel_rfl
theorem us32 : (Try.prog.underlying 32).isSome = true := by kernel_rfl
theorem z73 : zV Try.prog 73 = some (.agg #[.int .i64 0, .int .i64 0, .int .i64 0, .int .i64 0, .int .i64 0, .int .i64 0, .int .i64 0, .int .i64 0, .int .i64 0, .int .i64 0, .int .i64 0]) := by kernel_rfl
end Go.Proofs.Qxb6500407a.T
