import Derived.Test.Qxb6500401aGreatCj
set_option linter.unusedVariables false
set_option linter.unusedSimpArgs false
namespace Go.Proofs.Qxb6500401aGreat.ChkW
open Go.Eng Go.Cnf Go.Chk

theorem aq {h : Heap} {k : Nat} {x y z : Value} {t : TypeId} (hB : B h k #[x, y, z] t) : cellH h ⟨k, 0, none⟩ = some x ∧ cellH h ⟨k, 1, none⟩ = some y ∧ cellH h ⟨k, 2, none⟩ = some z ∧ ∀ j, j < 3 → okPut h ⟨k, j, none⟩ = true :=
  ⟨hB.cell 0, hB.cell 1, hB.cell 2, fun j hj => hB.ok (by simpa using hj)⟩
theorem wo_in {x : Nat} (h : x < 4096) : wo x 4095 = 0 := Nat.eq_of_testBit_eq fun i => by
  rw [wo_bit, show 4095 = 2 ^ 12 - 1 from rfl, Nat.testBit_two_pow_sub_one, Nat.zero_testBit]
  by_cases e : i < 12
  · simp [e]
  · have : x < 2 ^ i := Nat.lt_of_lt_of_le h (Nat.pow_le_pow_right (n := 2) (by omega) (show 12 ≤ i by omega))
    rw [Nat.testBit_lt_two_pow this]; rfl
theorem parse_len (s : ByteArray) : (parseF s).2.2.length ≤ 30000000 := by
  unfold parseF
  split
  · simp
  · unfold outF
    have := run_len (f := bx s) (s.size + 1) 0 p0
    simp only [p0, List.length_nil] at this
    repeat' split
    all_goals simp [p0]
    omega
theorem fit_ok {rows : List Rw} (h : fitF rows = 0) : (∀ r ∈ rows, ¬ r.1 = true) ∧ rows.length ≤ 40 := by
  unfold fitF at h
  split at h
  · omega
  · rename_i h1
    split at h
    · omega
    · exact ⟨fun r hr e => h1 ⟨r, hr, e⟩, by omega⟩
def FB (C X : Nat) (a : Option Addr) (k : Nat) : Prop := k = C ∨ k = X ∨ blkA a = some k
structure RS (h : Heap) (C X : Nat) (a : Option Addr) (cap : Nat) (sl : Nat → Option (List Int)) : Prop where
  ks : KS h C X sl
  pa : Par h X a cap p0
  ne : C ≠ X
  na : blkA a ≠ some C
theorem RS.ext {h h' : Heap} {C X : Nat} {a : Option Addr} {cap : Nat} {sl : Nat → Option (List Int)} {S : Nat → Prop} (r : RS h C X a cap sl) (he : Ext S h h') (hs : ∀ k, FB C X a k → ¬ S k) : RS h' C X a cap sl :=
  ⟨r.ks.ext he (hs C (.inl rfl)), r.pa.ext he (hs X (.inr (.inl rfl))) (fun k e => hs k (.inr (.inr e))), r.ne, r.na⟩
theorem RS.lt {h : Heap} {C X : Nat} {a : Option Addr} {cap : Nat} {sl : Nat → Option (List Int)} (r : RS h C X a cap sl) {k : Nat} (hk : FB C X a k) : k < h.size := by
  rcases hk with e | e | e
  · rw [e]; exact r.ks.lt
  · rw [e]; exact r.pa.s.lt
  · exact r.pa.ar.lt e
end Go.Proofs.Qxb6500401aGreat.ChkW
