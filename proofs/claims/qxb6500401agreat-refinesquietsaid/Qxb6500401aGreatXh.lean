import Derived.Test.Qxb6500401aGreatXg
import Derived.Test.Qxb6500401aGreatXe
set_option linter.unusedVariables false
set_option linter.unusedSimpArgs false
namespace Go.Proofs.Qxb6500401aGreat
open Go.Eng Go.Trl Go.Chk Go.Wat

theorem val1 {cc : List Int} {x v : Int} (hn : Nrm cc) (hx : x ≠ 0) (h : ValR cc x v) : v = 1 ↔ x ∈ cc := by
  rcases h with q | q | q
  · exact ⟨fun _ => q.2, fun _ => q.1⟩
  · exact ⟨fun e => by omega, fun e => by have := hn.inj e q.2 (by simp); omega⟩
  · exact ⟨fun e => by omega, fun e => absurd e q.2.1⟩
theorem valf {on : List Int} {x v : Int} (hc : Con (· ∈ on)) (h : ValR on x v) : v = -1 ↔ -x ∈ on := by
  rcases h with q | q | q
  · exact ⟨fun e => by omega, fun e => absurd e (hc x q.2)⟩
  · exact ⟨fun _ => q.2, fun _ => q.1⟩
  · exact ⟨fun e => by omega, fun e => absurd e q.2.2⟩
theorem bud_some {cl : Nat → Option (List Int)} {due : Nat → Bool} {ls : List Int} {c0 n i : Nat} {cc : List Int} (h : cl i = some cc) : bud cl due ls c0 n i = (if due i then 1 else 0) + nc (some cc) ls c0 n := by unfold bud; rw [h]
theorem bud_none {cl : Nat → Option (List Int)} {due : Nat → Bool} {ls : List Int} {c0 n i : Nat} (h : cl i = none) : bud cl due ls c0 n i = 0 := by unfold bud; rw [h]
theorem bud_sum (cl : Nat → Option (List Int)) (due : Nat → Bool) (ls : List Int) (c0 n i : Nat) (hn : n ≤ 12) (hi : i ≤ 52) : sumN (bud cl due ls c0 n) i ≤ 13 * i := by
  have := sumN_bd (f := bud cl due ls c0 n) (b := 13) i (fun j _ => Nat.le_trans (bud_le cl due ls c0 n j) (by omega)); omega
theorem nc_val {cc ls : List Int} {c0 j : Nat} (h : c0 ≤ j) : nc (some cc) ls c0 (j + 1) = nc (some cc) ls c0 j + if -(ls.getD j 0) ∈ cc then 1 else 0 := nc_step (some cc) ls h
end Go.Proofs.Qxb6500401aGreat
