import Derived.Test.Qxb6500409aGreatOb
set_option linter.unusedVariables false
set_option linter.unusedSimpArgs false
namespace Go.Proofs.Qxb6500409aGreat
open Go.Eng Go.Bits Go.Blk HufW

theorem stp_snoc (u : ByteArray) : ∀ (m j : Nat), stp u j (m + 1) = stp u j m ++ [(bAt u (j + m), 8)]
  | 0, j => by simp [stp]
  | m + 1, j => by
    rw [stp, stp_snoc u m (j + 1), stp, List.cons_append, show j + 1 + m = j + (m + 1) by omega]
theorem wr_snoc (s : TS) (a : List (Nat × Nat)) (q : Nat × Nat) : wr s (a ++ [q]) = putS (wr s a) q.1 q.2 := by rw [wr_app]; rfl
def tps (la lb : Nat → Nat) (Q : List Lz.Tok) : List (Nat × Nat) := Q.flatMap (tp la lb)
theorem tps_snoc (la lb : Nat → Nat) (Q : List Lz.Tok) (t : Lz.Tok) : tps la lb (Q ++ [t]) = tps la lb Q ++ tp la lb t := by simp [tps]
theorem bp_tps (la lb : Nat → Nat) (Q : List Lz.Tok) : bp la lb Q = tps la lb Q ++ [sp la 265 256] := by
  induction Q with
  | nil => rfl
  | cons t Q ih => rw [bp, ih]; simp [tps]
theorem cA_l {l : List Nat} (h : l.length = 273) : cA (fun i => l.getD i 0) = lA l := Huf.list_ext (by rw [lA_len h, cA, Huf.il_len]) fun j hj => by
  rw [cA, Huf.il_len] at hj
  rw [cA, Huf.il_at hj, lA_at _ hj]
theorem cB_l {l : List Nat} (h : l.length = 273) : cB (fun i => l.getD i 0) = lB l := Huf.list_ext (by rw [lB_len h, cB, Huf.il_len]) fun j hj => by
  rw [cB, Huf.il_len] at hj
  rw [cB, Huf.il_at hj, lB_at]
/-- what the packer fetched -/
structure FE (cn co wi fa fb : Nat → Nat) : Prop where
  a : ∀ i, i < 265 → 0 < cn i → co i = Huf.cd fa 265 i ∧ wi i = fa i
  b : ∀ c, c < 8 → 0 < cn (265 + c) → co (265 + c) = Huf.cd fb 8 c ∧ wi (265 + c) = fb c
end Go.Proofs.Qxb6500409aGreat
