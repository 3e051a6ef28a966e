import Derived.Test.Qxb6500409aGreatXc
set_option linter.unusedVariables false
set_option linter.unusedSimpArgs false
namespace Go.Proofs.Qxb6500409aGreat.HufW
open Go.Eng Go.Huf

theorem planE_1 {cl : List Int} {lim : Int} (h : 265 < cl.length) : planE cl lim = 1 := if_pos h
theorem planE_2 {cl : List Int} {lim : Int} (h0 : ¬ 265 < cl.length) (h : lim < 1 ∨ 10 < lim) : planE cl lim = 2 := by unfold planE; rw [if_neg h0, if_pos h]
theorem planE_3 {cl : List Int} {L : Nat} (h0 : ¬ 265 < cl.length) (h1 : 1 ≤ L) (h2 : L ≤ 10) (h : ¬ okC cl) : planE cl L = 2 := by unfold planE; rw [if_neg h0, if_neg (by omega), if_pos h]
theorem planE_4 {cl : List Int} {L : Nat} (h0 : ¬ 265 < cl.length) (h1 : 1 ≤ L) (h2 : L ≤ 10) (h3 : okC cl) (h : 2 ^ L < liv (cf cl) cl.length) : planE cl L = 2 := by unfold planE; rw [if_neg h0, if_neg (by omega), if_neg (fun e => e h3), Int.toNat_natCast, if_pos h]
theorem planE_0 {cl : List Int} {L : Nat} (h0 : ¬ 265 < cl.length) (h1 : 1 ≤ L) (h2 : L ≤ 10) (h3 : okC cl) (h : ¬ 2 ^ L < liv (cf cl) cl.length) : planE cl L = 0 := by unfold planE; rw [if_neg h0, if_neg (by omega), if_neg (fun e => e h3), Int.toNat_natCast, if_neg h]
theorem planR_no {cl : List Int} {lim : Int} {e : Nat} (h : planE cl lim = e + 1) : planR cl lim = [] := by unfold planR; rw [if_neg (by omega)]
theorem planR_ok {cl : List Int} {L : Nat} (h : planE cl L = 0) : planR cl L = il cl.length (planL cl L) := by unfold planR; rw [if_pos h, Int.toNat_natCast]
theorem planL_1 {cl : List Int} {L : Nat} (h : liv (cf cl) cl.length < 2) : planL cl L = fun i => if 0 < cf cl i then 1 else 0 := by unfold planL; rw [if_pos h]
theorem planL_2 {cl : List Int} {L : Nat} (h : ¬ liv (cf cl) cl.length < 2) : planL cl L = mend cl.length (cf cl) L (pln cl.length (cf cl)) := by unfold planL; rw [if_neg h]
theorem cf_at {cl : List Int} {i : Nat} (h : 0 ≤ cl.getD i 0) : cl.getD i 0 = (cf cl i : Int) := by unfold cf; omega
theorem liv_snoc (c : Nat → Nat) (i : Nat) : liv c (i + 1) = if 0 < c i then liv c i + 1 else liv c i := ct_succ _ _
theorem liv_le (c : Nat → Nat) (i : Nat) : liv c i ≤ i := ct_le _ _
end Go.Proofs.Qxb6500409aGreat.HufW
