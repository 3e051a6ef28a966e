import Derived.Test.Qxb6500400aGreatEl
set_option linter.unusedVariables false
set_option linter.unusedSimpArgs false
namespace Go.Chk
open Go.Eng
def gd (l : Int) : Prop := l ≠ 0 ∧ -12 ≤ l ∧ l ≤ 12
/-- a row in normal form -/
def Nrm (c : List Int) : Prop := (∀ l ∈ c, gd l) ∧ c.Pairwise (fun a b => a.natAbs < b.natAbs)
theorem Nrm.nil : Nrm [] := ⟨by simp, List.Pairwise.nil⟩
theorem Nrm.snoc {c : List Int} {x : Int} (h : Nrm c) (hx : gd x) (hl : ∀ y ∈ c, y.natAbs < x.natAbs) : Nrm (c ++ [x]) := by
  refine ⟨fun l hl2 => ?_, ?_⟩
  · rcases List.mem_append.1 hl2 with e | e
    · exact h.1 l e
    · simp at e; rw [e]; exact hx
  · rw [List.pairwise_append]
    exact ⟨h.2, List.pairwise_singleton _ _, fun a ha b hb => by simp at hb; subst hb; exact hl a ha⟩
theorem Nrm.inj {c : List Int} (h : Nrm c) {x y : Int} (hx : x ∈ c) (hy : y ∈ c) (e : x.natAbs = y.natAbs) : x = y := by
  obtain ⟨i, hi, rfl⟩ := List.getElem_of_mem hx
  obtain ⟨j, hj, rfl⟩ := List.getElem_of_mem hy
  rcases Nat.lt_trichotomy i j with f | f | f
  · have := (List.pairwise_iff_getElem.1 h.2) i j hi hj f; omega
  · subst f; rfl
  · have := (List.pairwise_iff_getElem.1 h.2) j i hj hi f; omega
theorem Nrm.nodup {c : List Int} (h : Nrm c) : c.Nodup := Go.Eng.pw_of (fun a e => by subst e; omega) h.2
theorem Nrm.len {c : List Int} (h : Nrm c) : c.length ≤ 12 := by
  have h1 : (c.map Int.natAbs).Nodup := by
    rw [List.Nodup, List.pairwise_map]; exact Go.Eng.pw_of (fun a e => by omega) h.2
  have h2 := h1.length_le_of_subset (l₂ := [1, 2, 3, 4, 5, 6, 7, 8, 9, 10, 11, 12]) (fun v hv => by
    rw [List.mem_map] at hv
    obtain ⟨x, hx, rfl⟩ := hv
    have := h.1 x hx
    unfold gd at this
    simp only [List.mem_cons, List.not_mem_nil, or_false]; omega)
  simpa using h2
/-! ### unit propagation, by its end -/
def Con (S : Int → Prop) : Prop := ∀ l, S l → ¬ S (-l)
/-- the row is done with under S: some literal is true, or two are open -/
def Done (S : Int → Prop) (c : List Int) : Prop := (∃ l ∈ c, S l) ∨ ∃ x ∈ c, ∃ y ∈ c, x ≠ y ∧ ¬ S (-x) ∧ ¬ S (-y)
def Fix (R : List (List Int)) (on : Int → Prop) : Prop := ∃ S : Int → Prop, (∀ l, on l → S l) ∧ Con S ∧ ∀ c ∈ R, Done S c
theorem Fix.mono {R R' : List (List Int)} {on : Int → Prop} (h : Fix R on) (hs : ∀ c ∈ R', c ∈ R) : Fix R' on := by
  obtain ⟨S, a, b, c⟩ := h; exact ⟨S, a, b, fun r hr => c r (hs r hr)⟩
/-- all that T holds, every end holds -/
def Snd (R : List (List Int)) (on T : Int → Prop) : Prop := ∀ S : Int → Prop, (∀ l, on l → S l) → Con S → (∀ c ∈ R, Done S c) → ∀ l, T l → S l
theorem snd_unit {R : List (List Int)} {on T : Int → Prop} (h : Snd R on T) {c : List Int} (hc : c ∈ R) {l : Int} (hl : l ∈ c) (hf : ∀ x ∈ c, x ≠ l → T (-x)) : Snd R on (fun x => T x ∨ x = l) := by
  intro S h1 h2 h3 x hx
  rcases hx with hx | hx
  · exact h S h1 h2 h3 x hx
  · subst hx
    rcases h3 c hc with ⟨y, hy, hs⟩ | ⟨y, hy, z, hz, hne, hy2, hz2⟩
    · by_cases e : y = x
      · exact e ▸ hs
      · exact absurd (h S h1 h2 h3 _ (hf y hy e)) (h2 y hs)
    · exfalso
      by_cases e : y = x
      · have : z ≠ x := fun e2 => hne (e.trans e2.symm)
        exact hz2 (h S h1 h2 h3 _ (hf z hz this))
      · exact hy2 (h S h1 h2 h3 _ (hf y hy e))
theorem snd_hit {R : List (List Int)} {on T : Int → Prop} (h : Snd R on T) {c : List Int} (hc : c ∈ R) (hf : ∀ x ∈ c, T (-x)) : ¬ Fix R on := by
  rintro ⟨S, h1, h2, h3⟩
  rcases h3 c hc with ⟨y, hy, hs⟩ | ⟨y, hy, z, hz, hne, hy2, hz2⟩
  · exact h2 y hs (h S h1 h2 h3 _ (hf y hy))
  · exact hy2 (h S h1 h2 h3 _ (hf y hy))
theorem snd_refl (R : List (List Int)) (on : Int → Prop) : Snd R on on := fun S h1 _ _ l hl => h1 l hl
/-- the literals that deny a row -/
def deny (c : List Int) : Int → Prop := fun l => -l ∈ c
/-! ### truth -/
def tru (m : Nat) (l : Int) : Prop := if 0 < l then m.testBit (l.natAbs - 1) = true else m.testBit (l.natAbs - 1) = false
def sat (R : List (List Int)) (m : Nat) : Prop := ∀ c ∈ R, ∃ l ∈ c, tru m l
theorem tru_neg {m : Nat} {l : Int} (hl : l ≠ 0) : tru m (-l) ↔ ¬ tru m l := by
  unfold tru
  rw [Int.natAbs_neg]
  by_cases h : 0 < l
  · rw [if_neg (by omega), if_pos h]; simp
  · rw [if_pos (by omega), if_neg h]; simp
theorem rup_sound {R : List (List Int)} {c : List Int} {m : Nat} (hc : ∀ l ∈ c, l ≠ 0) (hR : ∀ r ∈ R, ∀ l ∈ r, l ≠ 0) (hs : sat R m) (hf : ¬ Fix R (deny c)) : ∃ l ∈ c, tru m l := by
  by_cases h : ∃ l ∈ c, tru m l
  · exact h
  · exfalso
    apply hf
    refine ⟨fun l => l ≠ 0 ∧ tru m l, fun l hl => ?_, fun l hl hl2 => ?_, fun r hr => ?_⟩
    · have h0 : -l ≠ 0 := hc _ hl
      refine ⟨by omega, ?_⟩
      have := (tru_neg (m := m) (l := -l) h0).2 (fun e => h ⟨-l, hl, e⟩)
      simpa using this
    · exact (tru_neg hl.1).1 hl2.2 hl.2
    · obtain ⟨l, hl, ht⟩ := hs r hr
      exact .inl ⟨l, hl, hR r hr l hl, ht⟩
end Go.Chk
