import Derived.Test.Qxb6500409aGreatXb
set_option linter.unusedVariables false
set_option linter.unusedSimpArgs false
namespace Go.Proofs.Qxb6500409aGreat.HufW
open Go.Eng Go.Huf

/-- the answer of the search as a number -/
def SB (c l : Nat → Nat) (lo hi : Nat) (rare : Bool) (i : Nat) (b : Int) : Prop := (b = -1 ∧ sk c l lo hi rare i = none) ∨ ∃ n : Nat, b = n ∧ n < i ∧ sk c l lo hi rare i = some n
theorem SB.z (c l : Nat → Nat) (lo hi : Nat) (rare : Bool) : SB c l lo hi rare 0 (-1) := .inl ⟨rfl, rfl⟩
section sb
variable {c l : Nat → Nat} {lo hi : Nat} {rare : Bool} {i : Nat} {b : Int}
theorem SB.no (h : SB c l lo hi rare i b) (hn : ¬ (lo ≤ l i ∧ l i ≤ hi)) : SB c l lo hi rare (i + 1) b := by
  rcases h with ⟨h1, h2⟩ | ⟨n, h1, h2, h3⟩
  · exact .inl ⟨h1, by rw [sk, h2]; simp only []; rw [if_neg hn]⟩
  · exact .inr ⟨n, h1, by omega, by rw [sk, h3]; simp only []; rw [if_neg (fun e => hn e.1)]⟩
theorem SB.ge (h : SB c l lo hi rare i b) (h0 : ¬ b < 0) : ∃ n : Nat, b = n ∧ n < i ∧ sk c l lo hi rare i = some n := by
  rcases h with ⟨h1, h2⟩ | q
  · omega
  · exact q
theorem SB.lt (h : SB c l lo hi rare i b) (h0 : b < 0) (hr : lo ≤ l i ∧ l i ≤ hi) : SB c l lo hi rare (i + 1) (i : Nat) := by
  rcases h with ⟨h1, h2⟩ | ⟨n, h1, h2, h3⟩
  · exact .inr ⟨i, rfl, by omega, by rw [sk, h2]; simp only []; rw [if_pos hr]⟩
  · omega
end sb
theorem SB.new {c l : Nat → Nat} {lo hi : Nat} {rare : Bool} {i n : Nat} (h : sk c l lo hi rare i = some n) (hr : lo ≤ l i ∧ l i ≤ hi) (hb : btr c l rare i n) : SB c l lo hi rare (i + 1) (i : Nat) := .inr ⟨i, rfl, by omega, by rw [sk, h]; simp only []; rw [if_pos ⟨hr, hb⟩]⟩
theorem SB.old {c l : Nat → Nat} {lo hi : Nat} {rare : Bool} {i n : Nat} (h : sk c l lo hi rare i = some n) (hn : n < i) (hb : ¬ btr c l rare i n) : SB c l lo hi rare (i + 1) (n : Nat) := .inr ⟨n, rfl, by omega, by rw [sk, h]; simp only []; rw [if_neg (fun e => hb e.2)]⟩
theorem SB.some {c l : Nat → Nat} {lo hi : Nat} {rare : Bool} {i n : Nat} {b : Int} (h : SB c l lo hi rare i b) (e : sk c l lo hi rare i = some n) : b = n := by
  rcases h with ⟨_, h2⟩ | ⟨k, h1, _, h3⟩
  · rw [e] at h2; cases h2
  · rw [e] at h3; cases h3; exact h1
theorem p10 {a : Nat} (h : a ≤ 10) : 2 ^ a ≤ 1024 := Nat.pow_le_pow_right (n := 2) (by omega) h
theorem pp2 (a : Nat) : 0 < 2 ^ a := Nat.pow_pos (by omega)
theorem t64 {a : Nat} (h : a ≤ 1000000) : a < top .i64 := Nat.lt_of_le_of_lt h (by decide)
theorem tu64 {a : Nat} (h : a ≤ 1000000) : a < top .u64 := Nat.lt_of_le_of_lt h (by decide)
theorem kk_succ (L : Nat) (l : Nat → Nat) (n : Nat) : kk L l (n + 1) = kk L l n + if 0 < l n then 2 ^ (L - l n) else 0 := rfl
theorem kk_le {L : Nat} {l : Nat → Nat} (hL : L ≤ 10) : ∀ n, kk L l n ≤ 1024 * n
  | 0 => Nat.le_refl _
  | n + 1 => by
    have := kk_le (l := l) hL n
    have := p10 (show L - l n ≤ 10 by omega)
    rw [kk_succ]; split <;> omega
end Go.Proofs.Qxb6500409aGreat.HufW
