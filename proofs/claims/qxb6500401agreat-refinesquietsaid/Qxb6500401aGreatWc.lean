import Derived.Test.Qxb6500401aGreatRc
set_option linter.unusedVariables false
set_option linter.unusedSimpArgs false
namespace Go.Proofs.Qxb6500401aGreat
open Go.Eng Go.Trl

theorem OwnR_lo0 {lo : Nat} {h : Heap} {a : Option Addr} {k cap : Nat} {xs : List Value} {e : TypeId} {size : Nat} (ho : OwnR lo h a k cap xs e size) : OwnR 0 h a k cap xs e size := by
  rcases ho with x | ⟨b, cs, h1, h2, h3⟩
  · exact .inl x
  · exact .inr ⟨b, cs, h1, Nat.zero_le _, h3⟩
theorem its_one (L : List It) : ∀ v ∈ its L, v.oneCell' = true := by
  intro v hv
  simp only [its, List.mem_flatMap, itC] at hv
  obtain ⟨x, _, hx⟩ := hv
  simp at hx
  rcases hx with e | e | e <;> subst e <;> rfl
theorem new_blk {h h2 : Heap} {a a1 : Option Addr} {n : Nat} (hb : blkA a1 = blkA a ∨ blkA a1 = some n) (hn : h.size ≤ n) : ∀ b, blkA a1 = some b → blkA a = some b ∨ h.size ≤ b := fun b e => by
  rcases hb with x | x
  · exact .inl (x ▸ e)
  · rw [x] at e; cases e; exact .inr hn
end Go.Proofs.Qxb6500401aGreat
