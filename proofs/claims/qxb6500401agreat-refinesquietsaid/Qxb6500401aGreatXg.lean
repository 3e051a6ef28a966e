import Derived.Test.Qxb6500401aGreatXf
set_option linter.unusedVariables false
set_option linter.unusedSimpArgs false
namespace Go.Proofs.Qxb6500401aGreat
open Go.Eng Go.Trl Go.Chk Go.Wat

theorem MR.zero {h : Heap} {mm : MC} (hu : ∀ i, i < 52 → mm.used i = false) (hz : ∀ i, i < 52 → mm.ca i = none ∧ mm.cn i = 0) (G : Nat → Prop) : MR h mm (fun _ => none) G :=
  ⟨fun i hi => by rw [hu i hi]; rfl, fun i hi _ => hz i hi, fun i hi cc e => (by cases e), fun i hi b e => by rw [(hz i hi).1] at e; simp [blkA] at e⟩
theorem lv_no {h : Heap} {mm : MC} {cl : Nat → Option (List Int)} {G : Nat → Prop} (r : MR h mm cl G) {id : Int} : (liveC cl id).isSome = decide (0 ≤ id ∧ id < 52 ∧ mm.used id.toNat = true) := by
  unfold liveC
  by_cases e : 0 ≤ id ∧ id < 52
  · rw [if_pos e, ← r.u id.toNat (by omega)]
    cases z : mm.used id.toNat <;> simp [e]
  · rw [if_neg e]; symm; simp; intro h1 h2; exact absurd ⟨h1, h2⟩ e
theorem liveS {cl : Nat → Option (List Int)} {id : Int} (h : (liveC cl id).isSome = true) : ∃ (n : Nat) (cc : List Int), id = n ∧ n < 52 ∧ cl n = some cc ∧ liveC cl id = some cc := by
  unfold liveC at h
  split at h
  · rename_i e
    obtain ⟨cc, hc⟩ := Option.isSome_iff_exists.1 h
    exact ⟨id.toNat, cc, by omega, by omega, hc, by unfold liveC; rw [if_pos e]; exact hc⟩
  · cases h
theorem lits_snoc {L : List It} {i : Nat} (h : i < L.length) : (lits L).take (i + 1) = (lits L).take i ++ [atL L i] := by
  have hl : i < (lits L).length := by rw [lits_len]; exact h
  rw [getD_snoc _ _ hl]; congr 2
  unfold atL lits; rw [if_pos (by omega), Int.toNat_natCast]; simp [h]
theorem atL_eq {L : List It} {i : Nat} (h : i < L.length) : atL L i = (lits L).getD i 0 := by
  unfold atL lits; rw [if_pos (by omega), Int.toNat_natCast]; simp [h]
theorem slk_snoc {c on : List Int} {i : Nat} (h : i < c.length) : slk (c.take (i + 1)) on = slk (c.take i) on + if -(c.getD i 0) ∈ on then 0 else 1 := by
  rw [getD_snoc _ _ h]; unfold slk; rw [List.filter_append, List.length_append]; congr 1
  by_cases e : -(c.getD i 0) ∈ on
  · simp only [e, not_true, decide_false, List.filter_cons, List.filter_nil, if_true]; rfl
  · simp only [e, not_false_eq_true, decide_true, List.filter_cons, List.filter_nil, if_false, if_true]; rfl
theorem slk_le (c on : List Int) : slk c on ≤ c.length := List.length_filter_le _ _
theorem bud_le (cl : Nat → Option (List Int)) (due : Nat → Bool) (ls : List Int) (c0 n i : Nat) : bud cl due ls c0 n i ≤ 1 + (n - c0) := by
  unfold bud; split
  · omega
  · rename_i c _; have := nc_le (some c) ls c0 n; split <;> omega
end Go.Proofs.Qxb6500401aGreat
