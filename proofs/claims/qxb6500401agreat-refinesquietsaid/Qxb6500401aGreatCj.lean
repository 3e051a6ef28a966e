import Derived.Test.Qxb6500401aGreatCi
import Derived.Test.Qxb6500401aGreatLf
set_option linter.unusedVariables false
set_option linter.unusedSimpArgs false
namespace Go.Proofs.Qxb6500401aGreat.ChkW
open Go.Eng Go.Cnf Go.Chk

theorem IL.at {h : Heap} {bb cap : Nat} {xs : List Int} (ho : IL h (some ⟨bb, 0, none⟩) cap xs) {j : Nat} (hj : j < xs.length) : cellH h ⟨bb, j, none⟩ = some (.int .i64 (xs.getD j 0)) := by
  obtain ⟨b2, e, _, hg, _⟩ := ho.get (by omega)
  cases e; exact hg j hj
theorem rq {h : Heap} {k : Nat} {p n x : Int} {d : Bool} {t : TypeId} (hB : B h k #[.int .u16 p, .int .u16 n, .bool d, .int .i64 x] t) : cellH h ⟨k, 0, none⟩ = some (.int .u16 p) ∧ cellH h ⟨k, 1, none⟩ = some (.int .u16 n) ∧ cellH h ⟨k, 2, none⟩ = some (.bool d) ∧ cellH h ⟨k, 3, none⟩ = some (.int .i64 x) ∧ ∀ j, j < 4 → okPut h ⟨k, j, none⟩ = true :=
  ⟨hB.cell 0, hB.cell 1, hB.cell 2, hB.cell 3, fun j hj => hB.ok (by simpa using hj)⟩
theorem mem_at {xs : List Int} {i : Nat} (h : i < xs.length) : xs.getD i 0 ∈ xs := by
  rw [List.getD_eq_getElem?_getD, List.getElem?_eq_getElem h]; exact List.getElem_mem h
theorem full_iff {Q : CK} {sl : Nat → Option (List Int)} (hS : Sl Q sl) : Q.used = 18446744073709551615 ↔ 64 ≤ (rowsS sl 64).length := by
  have hl := rows_len (sl := sl) 64
  constructor
  · intro e
    have := hl.2.1 (fun i hi e2 => by
      have h9 := (hS.no i hi e2).2.2
      rw [e, show 18446744073709551615 = 2 ^ 64 - 1 from rfl, Nat.testBit_two_pow_sub_one] at h9
      simp [hi] at h9)
    omega
  · intro e
    have ha := hl.2.2 (by omega)
    refine Nat.eq_of_testBit_eq fun i => ?_
    rw [show 18446744073709551615 = 2 ^ 64 - 1 from rfl, Nat.testBit_two_pow_sub_one]
    by_cases hi : i < 64
    · cases e2 : sl i with
      | none => exact absurd e2 (ha i hi)
      | some c => rw [(hS.yes i hi c e2).2.2.2]; simp [hi]
    · have : Q.used < 2 ^ i := Nat.lt_of_lt_of_le hS.lt (Nat.pow_le_pow_right (n := 2) (by omega) (show 64 ≤ i by omega))
      rw [Nat.testBit_lt_two_pow this]; simp [hi]
end Go.Proofs.Qxb6500401aGreat.ChkW
