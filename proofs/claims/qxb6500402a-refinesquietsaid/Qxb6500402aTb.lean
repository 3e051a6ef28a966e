import Derived.Test.Qxb6500402aProg
import Derived.Test.Qxb6500402aEc
set_option linter.unusedVariables false
namespace Go.Proofs.Qxb6500402a.T
open Go.Eng
theorem ag28 : agS Try.prog 28 = some (some 0) := by kernel_rfl
theorem ag3 : agS Try.prog 3 = some none := by kernel_rfl
theorem ag36 : agS Try.prog 36 = some (some 6) := by kernel_rfl
theorem ag43 : agS Try.prog 43 = some none := by kernel_rfl
theorem ag48 : agS Try.prog 48 = some none := by kernel_rfl
theorem ag49 : agS Try.prog 49 = some none := by kernel_rfl
theorem ag63 : agS Try.prog 63 = some (some 3) := by kernel_rfl
theorem ar42 : arS Try.prog 42 = some (12, 1) := by kernel_rfl
theorem ar44 : arS Try.prog 44 = some (13, 1) := by kernel_rfl
theorem ar45 : arS Try.prog 45 = some (13, 1) := by kernel_rfl
theorem bld28 : buildV Try.prog 28 [] = some (.agg #[]) := by kernel_rfl
theorem bld47 : buildV Try.prog 47 [] = some (.agg #[.int .i64 0, .int .i64 0, .int .i64 0, .int .i64 0, .int .i64 0, .int .i64 0, .int .i64 0, .int .i64 0, .int .i64 0, .int .i64 0, .int .i64 0, .int .i64 0, .int .i64 0, .int .i64 0, .int .i64 0, .int .i8 0, .int .i8 0, .int .i8 0, .int .i8 0, .int .i8 0, .int .i8 0, .int .i8 0, .int .i8 0, .int .i8 0, .int .i8 0, .int .i8 0, .int .i8 0, .int .i8 0, .int .i64 0, .int .i64 0, .int .i64 0, .int .i64 0, .int .i64 0, .int .i64 0, .int .i64 0, .int .i64 0, .int .i64 0, .int .i64 0, .int .i64 0, .int .i64 0, .int .i64 0, .int .i64 0, .int .i64 0, .int .i64 0, .int .i64 0, .int .i64 0, .int .i64 0, .int .i64 0, .int .i64 0, .int .i64 0, .int .i64 0, .int .i64 0, .int .i64 0, .int .i64 0, .int .i64 0, .int .i64 0, .int .i64 0, .int .i64 0, .int .i64 0, .int .i64 0, .int .i64 0, .int .i64 0, .int .i64 0, .int .i64 0, .int .i64 0, .int .i64 0, .int .i64 0, .int .i64 0, .int .i64 0, .int .i64 0, .int .i64 0, .int .i64 0, .int .i64 0, .int .i64 0, .int .i64 0, .int .i64 0, .int .i64 0, .int .i64 0, .int .i64 0, .int .i64 0, .int .i64 0]) := by kernel_rfl
theorem bld51 : buildV Try.prog 51 [] = some (.agg #[.slice none 0 0, .int .i64 0, .int .i64 0, .slice none 0 0]) := by kernel_rfl
theorem bld51_1_2 : ∀ (x1 : Int) (x2 : Int), buildV Try.prog 51 [(1, .int .i64 x1), (2, .int .i64 x2)] = some (.agg #[.slice none 0 0, .int .i64 x1, .int .i64 x2, .slice none 0 0]) := by intros; kernel_rfl
theorem bld63_0_1_2 : ∀ (x0 : Int) (x1 : Int) (x2 : Int), buildV Try.prog 63 [(0, .int .i64 x0), (1, .int .i64 x1), (2, .int .i64 x2)] = some (.agg #[.int .i64 x0, .int .i64 x1, .int .i64 x2]) := by intros; kernel_rfl
theorem bs48_1_0 : ∀ (x0_0 : Int) (x0_1 : Int) (x0_2 : Int), Instr.fill (fun i => some (i * 3, 3)) (mkZ #[.int .i64 0, .int .i64 0, .int .i64 0] (1 * 3)) [(0, .agg #[.int .i64 x0_0, .int .i64 x0_1, .int .i64 x0_2])] = some #[.int .i64 x0_0, .int .i64 x0_1, .int .i64 x0_2] := by intros; kernel_rfl
theorem bs49_1_0 : ∀ (x0 : Int), Instr.fill (fun i => some (i * 1, 1)) (mkZ #[.int .i64 0] (1 * 1)) [(0, .int .i64 x0)] = some #[.int .i64 x0] := by intros; kernel_rfl
theorem ei48 : elI Try.prog 48 = some (63, 3, 24, #[.int .i64 0, .int .i64 0, .int .i64 0]) := by kernel_rfl
theorem ei49 : elI Try.prog 49 = some (3, 1, 8, #[.int .i64 0]) := by kernel_rfl
theorem el22 : elS Try.prog 22 = some 6 := by kernel_rfl
theorem el48 : elS Try.prog 48 = some 3 := by kernel_rfl
theorem el49 : elS Try.prog 49 = some 1 := by kernel_rfl
theorem f36_0 : fOff Try.prog 36 0 = some 0 := by kernel_rfl
theorem f36_1 : fOff Try.prog 36 1 = some 1 := by kernel_rfl
theorem f36_2 : fOff Try.prog 36 2 = some 2 := by kernel_rfl
theorem f47_0 : fOff Try.prog 47 0 = some 0 := by kernel_rfl
theorem f47_1 : fOff Try.prog 47 1 = some 12 := by kernel_rfl
theorem f47_2 : fOff Try.prog 47 2 = some 13 := by kernel_rfl
theorem f47_3 : fOff Try.prog 47 3 = some 14 := by kernel_rfl
theorem f47_4 : fOff Try.prog 47 4 = some 15 := by kernel_rfl
theorem f47_5 : fOff Try.prog 47 5 = some 28 := by kernel_rfl
theorem f47_6 : fOff Try.prog 47 6 = some 41 := by kernel_rfl
theorem f47_7 : fOff Try.prog 47 7 = some 54 := by kernel_rfl
theorem f47_8 : fOff Try.prog 47 8 = some 67 := by kernel_rfl
theorem f47_9 : fOff Try.prog 47 9 = some 80 := by kernel_rfl
theorem f51_0 : fOff Try.prog 51 0 = some 0 := by kernel_rfl
theorem f51_1 : fOff Try.prog 51 1 = some 1 := by kernel_rfl
theorem f51_2 : fOff Try.prog 51 2 = some 2 := by kernel_rfl
theorem f51_3 : fOff Try.prog 51 3 = some 3 := by kernel_rfl
theorem f63_0 : fOff Try.prog 63 0 = some 0 := by kernel_rfl
theorem f63_1 : fOff Try.prog 63 1 = some 1 := by kernel_rfl
theorem f63_2 : fOff Try.prog 63 2 = some 2 := by kernel_rfl
theorem hb10 : hasB Try.prog 10 = true := by kernel_rfl
theorem hb11 : hasB Try.prog 11 = true := by kernel_rfl
theorem hb12 : hasB Try.prog 12 = true := by kernel_rfl
theorem hb13 : hasB Try.prog 13 = true := by kernel_rfl
theorem hb14 : hasB Try.prog 14 = true := by kernel_rfl
theorem hb15 : hasB Try.prog 15 = true := by kernel_rfl
theorem hb16 : hasB Try.prog 16 = true := by kernel_rfl
theorem hb17 : hasB Try.prog 17 = true := by kernel_rfl
theorem hb18 : hasB Try.prog 18 = true := by kernel_rfl
theorem hb19 : hasB Try.prog 19 = true := by kernel_rfl
theorem hb20 : hasB Try.prog 20 = true := by kernel_rfl
theorem hb21 : hasB Try.prog 21 = true := by kernel_rfl
theorem hb22 : hasB Try.prog 22 = true := by kernel_rfl
theorem hb23 : hasB Try.prog 23 = true := by kernel_rfl
theorem hb24 : hasB Try.prog 24 = true := by kernel_rfl
theorem hb25 : hasB Try.prog 25 = true := by kernel_rfl
theorem hb26 : hasB Try.prog 26 = true := by kernel_rfl
theorem hb27 : hasB Try.prog 27 = true := by kernel_rfl
theorem hb28 : hasB Try.prog 28 = true := by kernel_rfl
theorem hb29 : hasB Try.prog 29 = true := by kernel_rfl
theorem hb3 : hasB Try.prog 3 = true := by kernel_rfl
theorem hb30 : hasB Try.prog 30 = true := by kernel_rfl
theorem hb31 : hasB Try.prog 31 = true := by kernel_rfl
theorem hb32 : hasB Try.prog 32 = true := by kernel_rfl
theorem hb33 : hasB Try.prog 33 = true := by kernel_rfl
theorem hb34 : hasB Try.prog 34 = true := by kernel_rfl
theorem hb35 : hasB Try.prog 35 = true := by kernel_rfl
theorem hb36 : hasB Try.prog 36 = true := by kernel_rfl
theorem hb37 : hasB Try.prog 37 = true := by kernel_rfl
theorem hb38 : hasB Try.prog 38 = true := by kernel_rfl
theorem hb39 : hasB Try.prog 39 = true := by kernel_rfl
theorem hb4 : hasB Try.prog 4 = true := by kernel_rfl
theorem hb40 : hasB Try.prog 40 = true := by kernel_rfl
theorem hb41 : hasB Try.prog 41 = true := by kernel_rfl
theorem hb42 : hasB Try.prog 42 = true := by kernel_rfl
theorem hb43 : hasB Try.prog 43 = true := by kernel_rfl
theorem hb44 : hasB Try.prog 44 = true := by kernel_rfl
theorem hb45 : hasB Try.prog 45 = true := by kernel_rfl
theorem hb46 : hasB Try.prog 46 = true := by kernel_rfl
theorem hb47 : hasB Try.prog 47 = true := by kernel_rfl
theorem hb48 : hasB Try.prog 48 = true := by kernel_rfl
theorem hb49 : hasB Try.prog 49 = true := by kernel_rfl
theorem hb5 : hasB Try.prog 5 = true := by kernel_rfl
theorem hb50 : hasB Try.prog 50 = true := by kernel_rfl
theorem hb51 : hasB Try.prog 51 = true := by kernel_rfl
theorem hb52 : hasB Try.prog 52 = true := by kernel_rfl
theorem hb53 : hasB Try.prog 53 = true := by kernel_rfl
theorem hb54 : hasB Try.prog 54 = true := by kernel_rfl
theorem hb55 : hasB Try.prog 55 = true := by kernel_rfl
theorem hb56 : hasB Try.prog 56 = true := by kernel_rfl
theorem hb57 : hasB Try.prog 57 = true := by kernel_rfl
theorem hb58 : hasB Try.prog 58 = true := by kernel_rfl
theorem hb59 : hasB Try.prog 59 = true := by kernel_rfl
theorem hb6 : hasB Try.prog 6 = true := by kernel_rfl
theorem hb60 : hasB Try.prog 60 = true := by kernel_rfl
theorem hb61 : hasB Try.prog 61 = true := by kernel_rfl
theorem hb62 : hasB Try.prog 62 = true := by kernel_rfl
theorem hb63 : hasB Try.prog 63 = true := by kernel_rfl
theorem hb64 : hasB Try.prog 64 = true := by kernel_rfl
theorem hb65 : hasB Try.prog 65 = true := by kernel_rfl
theorem hb66 : hasB Try.prog 66 = true := by kernel_rfl
theorem hb67 : hasB Try.prog 67 = true := by kernel_rfl
theorem hb68 : hasB Try.prog 68 = true := by kernel_rfl
theorem hb69 : hasB Try.prog 69 = true := by kernel_rfl
theorem hb7 : hasB Try.prog 7 = true := by kernel_rfl
theorem hb70 : hasB Try.prog 70 = true := by kernel_rfl
theorem hb71 : hasB Try.prog 71 = true := by kernel_rfl
theorem hb72 : hasB Try.prog 72 = true := by kernel_rfl
theorem hb8 : hasB Try.prog 8 = true := by kernel_rfl
theorem hb9 : hasB Try.prog 9 = true := by kernel_rfl
theorem in3 : inK Try.prog 3 = some .i64 := by kernel_rfl
theorem kd22 : kd Try.prog 22 = 4 := by kernel_rfl
theorem kd3 : kd Try.prog 3 = 9 := by kernel_rfl
theorem kd43 : kd Try.prog 43 = 9 := by kernel_rfl
theorem kd48 : kd Try.prog 48 = 4 := by kernel_rfl
theorem kd49 : kd Try.prog 49 = 4 := by kernel_rfl
theorem mix : Try.prog.follows .mixedOrders = true := by kernel_rfl
theorem ni48 : ∀ k, Try.prog.underlying 48 ≠ some (.int k) := by intro k; rw [show Try.prog.underlying 48 = some (.slice 63) from by kernel_rfl]; simp
theorem ni49 : ∀ k, Try.prog.underlying 49 ≠ some (.int k) := by intro k; rw [show Try.prog.underlying 49 = some (.slice 3) from by kernel_rfl]; simp
theorem sz28 : sz Try.prog 28 = some 0 := by kernel_rfl
theorem sz3 : sz Try.prog 3 = some 1 := by kernel_rfl
theorem sz36 : sz Try.prog 36 = some 6 := by kernel_rfl
theorem sz43 : sz Try.prog 43 = some 1 := by kernel_rfl
theorem sz48 : sz Try.prog 48 = some 1 := by kernel_rfl
theorem sz49 : sz Try.prog 49 = some 1 := by kernel_rfl
theorem us43 : (Try.prog.underlying 43).isSome = true := by kernel_rfl
theorem us48 : (Try.prog.underlying 48).isSome = true := by kernel_rfl
theorem us49 : (Try.prog.underlying 49).isSome = true := by kernel_rfl
theorem z28 : zV Try.prog 28 = some (.agg #[]) := by kernel_rfl
theorem z36 : zV Try.prog 36 = some (.agg #[.int .i64 0, .int .i64 0, .int .i64 0, .int .i64 0, .string ⟨#[]⟩, .string ⟨#[]⟩]) := by kernel_rfl
end Go.Proofs.Qxb6500402a.T
