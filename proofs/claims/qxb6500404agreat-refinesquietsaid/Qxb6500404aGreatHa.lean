set_option linter.unusedVariables false
set_option linter.unusedSimpArgs false
namespace Go.Huf
/-- one place turned -/
def ups {α : Type} (f : Nat → α) (i : Nat) (x : α) : Nat → α := fun j => if j = i then x else f j
theorem ups_eq {α : Type} (f : Nat → α) (i : Nat) (x : α) : ups f i x i = x := if_pos rfl
theorem ups_ne {α : Type} (f : Nat → α) {i j : Nat} (x : α) (h : j ≠ i) : ups f i x j = f j := if_neg h
theorem ups_up {α : Type} (f : Nat → α) (i : Nat) (x y : α) : ups (ups f i x) i y = ups f i y := by
  funext j; unfold ups; split <;> rfl
/-! ### the heap: nodes ordered by a key -/
section heap
variable (k : Nat → Nat)
def Hp (H : Nat → Nat) (n : Nat) : Prop := ∀ j, 0 < j → j < n → k (H ((j - 1) / 2)) ≤ k (H j)
def Inj (H : Nat → Nat) (n : Nat) : Prop := ∀ i j, i < n → j < n → H i = H j → i = j
def In (H : Nat → Nat) (n : Nat) (y : Nat) : Prop := ∃ j, j < n ∧ H j = y
theorem Hp.root {k H : Nat → Nat} {n : Nat} (h : Hp k H n) : ∀ j, j < n → k (H 0) ≤ k (H j) := by
  intro j
  induction j using Nat.strongRecOn with
  | _ j ih =>
    intro hj
    rcases Nat.eq_zero_or_pos j with e | e
    · rw [e]; exact Nat.le_refl _
    · exact Nat.le_trans (ih ((j - 1) / 2) (by omega) (by omega)) (h j e hj)
/-- the way ups: x is to be laid at i -/
structure Up (H0 : Nat → Nat) (n x : Nat) (A : Nat → Nat) (i : Nat) : Prop where
  lt : i < n + 1
  p : ∀ j, 0 < j → j < n + 1 → j ≠ i → k (ups A i x ((j - 1) / 2)) ≤ k (ups A i x j)
  g : ∀ j, j < n + 1 → 0 < j → (j - 1) / 2 = i → 0 < i → k (A ((i - 1) / 2)) ≤ k (A j)
  s : ∀ y, In (ups A i x) (n + 1) y ↔ In H0 n y ∨ y = x
  inj : Inj (ups A i x) (n + 1)
variable {k}
theorem Up.start {H : Nat → Nat} {n x : Nat} (hp : Hp k H n) (hi : Inj H n) (hx : ¬ In H n x) : Up k H n x H n := by
  refine ⟨by omega, fun j h0 h1 h2 => ?_, fun j h1 h0 h2 _ => by omega, fun y => ?_, fun i j h1 h2 e => ?_⟩
  · rw [ups_ne _ _ (by omega), ups_ne _ _ (by omega)]; exact hp j h0 (by omega)
  · constructor
    · rintro ⟨j, hj, e⟩
      by_cases q : j = n
      · rw [q, ups_eq] at e; exact .inr e.symm
      · rw [ups_ne _ _ q] at e; exact .inl ⟨j, by omega, e⟩
    · rintro (⟨j, hj, e⟩ | e)
      · exact ⟨j, by omega, by rw [ups_ne _ _ (by omega)]; exact e⟩
      · exact ⟨n, by omega, by rw [ups_eq]; exact e.symm⟩
  · by_cases q : i = n
    · by_cases q2 : j = n
      · omega
      · rw [q, ups_eq, ups_ne _ _ q2] at e; exact absurd ⟨j, by omega, e.symm⟩ hx
    · by_cases q2 : j = n
      · rw [q2, ups_eq, ups_ne _ _ q] at e; exact absurd ⟨i, by omega, e⟩ hx
      · rw [ups_ne _ _ q, ups_ne _ _ q2] at e; exact hi i j (by omega) (by omega) e
theorem Up.step {H0 : Nat → Nat} {n x : Nat} {A : Nat → Nat} {i : Nat} (h : Up k H0 n x A i) (hi : 0 < i) (hl : k x < k (A ((i - 1) / 2))) : Up k H0 n x (ups A i (A ((i - 1) / 2))) ((i - 1) / 2) := by
  have hlt := h.lt
  generalize hq : (i - 1) / 2 = q at *
  have hqi : q < i := by omega
  have key : ∀ j, ups (ups A i (A q)) q x j = if j = q then x else if j = i then A q else A j := fun j => by unfold ups; rfl
  have old : ∀ j, ups A i x j = if j = i then x else A j := fun j => rfl
  refine ⟨by omega, fun j h0 h1 h2 => ?_, fun j h1 h0 h2 h3 => ?_, fun y => ?_, fun a b ha hb e => ?_⟩
  · rw [key, key, if_neg h2]
    by_cases e1 : j = i
    · rw [if_pos e1, e1, hq, if_pos rfl]; omega
    · rw [if_neg e1]
      by_cases e2 : (j - 1) / 2 = q
      · rw [if_pos e2]
        have := h.p j h0 h1 e1
        rw [old, old, if_neg (by omega), if_neg e1, e2] at this; omega
      · rw [if_neg e2]
        by_cases e3 : (j - 1) / 2 = i
        · rw [if_pos e3]; have := h.g j h1 h0 e3 hi; rw [hq] at this; exact this
        · rw [if_neg e3]
          have := h.p j h0 h1 e1
          rw [old, old, if_neg e3, if_neg e1] at this; exact this
  · rw [ups_ne _ _ (by omega)]
    have hqq := h.p q h3 (by omega) (by omega)
    rw [old, old, if_neg (by omega), if_neg (by omega)] at hqq
    by_cases e1 : j = i
    · rw [e1, ups_eq]; exact hqq
    · rw [ups_ne _ _ e1]
      have := h.p j h0 h1 e1
      rw [old, old, h2, if_neg (by omega), if_neg e1] at this; omega
  · rw [← h.s y]
    constructor
    · rintro ⟨j, hj, e⟩
      rw [key] at e
      by_cases e1 : j = q
      · rw [if_pos e1] at e; exact ⟨i, hlt, by rw [ups_eq]; exact e⟩
      · rw [if_neg e1] at e
        by_cases e2 : j = i
        · rw [if_pos e2] at e; exact ⟨q, by omega, by rw [ups_ne _ _ (by omega)]; exact e⟩
        · rw [if_neg e2] at e; exact ⟨j, hj, by rw [ups_ne _ _ e2]; exact e⟩
    · rintro ⟨j, hj, e⟩
      rw [old] at e
      by_cases e1 : j = i
      · rw [if_pos e1] at e; exact ⟨q, by omega, by rw [key, if_pos rfl]; exact e⟩
      · rw [if_neg e1] at e
        by_cases e2 : j = q
        · exact ⟨i, hlt, by rw [key, if_neg (by omega), if_pos rfl, ← e2]; exact e⟩
        · exact ⟨j, hj, by rw [key, if_neg e2, if_neg e1]; exact e⟩
  · -- the swap of two places keeps the nodes apart
    have sw : ∀ j, ups (ups A i (A q)) q x j = ups A i x (if j = q then i else if j = i then q else j) := fun j => by
      rw [key]
      by_cases e1 : j = q
      · rw [if_pos e1, if_pos e1, ups_eq]
      · rw [if_neg e1, if_neg e1]
        by_cases e2 : j = i
        · rw [if_pos e2, if_pos e2, ups_ne _ _ (by omega)]
        · rw [if_neg e2, if_neg e2, ups_ne _ _ e2]
    rw [sw, sw] at e
    have bd : ∀ j, j < n + 1 → (if j = q then i else if j = i then q else j) < n + 1 := fun j hj => by
      split
      · exact hlt
      · split <;> omega
    have := h.inj _ _ (bd a ha) (bd b hb) e
    revert this; split <;> split <;> (try split) <;> (try split) <;> omega
theorem Up.stop {H0 : Nat → Nat} {n x : Nat} {A : Nat → Nat} {i : Nat} (h : Up k H0 n x A i) (hs : i = 0 ∨ ¬ k x < k (A ((i - 1) / 2))) : Hp k (ups A i x) (n + 1) ∧ Inj (ups A i x) (n + 1) ∧ ∀ y, In (ups A i x) (n + 1) y ↔ In H0 n y ∨ y = x := by
  refine ⟨fun j h0 h1 => ?_, h.inj, h.s⟩
  by_cases e : j = i
  · rcases hs with q | q
    · omega
    · rw [e, ups_eq, ups_ne _ _ (by omega)]; omega
  · exact h.p j h0 h1 e
/-- the way down: x is to be laid at i -/
structure Dn (k : Nat → Nat) (H0 : Nat → Nat) (n x : Nat) (A : Nat → Nat) (i : Nat) : Prop where
  lt : n = 0 ∧ i = 0 ∨ i < n
  p : ∀ j, 0 < j → j < n → (j - 1) / 2 ≠ i → k (ups A i x ((j - 1) / 2)) ≤ k (ups A i x j)
  g : ∀ j, j < n → 0 < j → (j - 1) / 2 = i → 0 < i → k (A ((i - 1) / 2)) ≤ k (A j)
  s : ∀ y, In (ups A i x) n y ↔ In H0 (n + 1) y ∧ y ≠ H0 0
  inj : Inj (ups A i x) n
theorem Dn.start {H : Nat → Nat} {n : Nat} (hp : Hp k H (n + 1)) (hi : Inj H (n + 1)) : Dn k H n (H n) H 0 := by
  refine ⟨by omega, fun j h0 h1 h2 => ?_, fun j h1 h0 h2 h3 => by omega, fun y => ?_, fun i j h1 h2 e => ?_⟩
  · rw [ups_ne _ _ h2, ups_ne _ _ (by omega)]; exact hp j h0 (by omega)
  · constructor
    · rintro ⟨j, hj, e⟩
      by_cases q : j = 0
      · rw [q, ups_eq] at e
        exact ⟨⟨n, by omega, e⟩, fun z => by have := hi n 0 (by omega) (by omega) (by rw [e, z]); omega⟩
      · rw [ups_ne _ _ q] at e
        exact ⟨⟨j, by omega, e⟩, fun z => by have := hi j 0 (by omega) (by omega) (by rw [e, z]); omega⟩
    · rintro ⟨⟨j, hj, e⟩, hn⟩
      have hj0 : j ≠ 0 := fun z => hn (by rw [← e, z])
      by_cases q : j = n
      · exact ⟨0, by omega, by rw [ups_eq, ← q]; exact e⟩
      · exact ⟨j, by omega, by rw [ups_ne _ _ hj0]; exact e⟩
  · by_cases q : i = 0
    · by_cases q2 : j = 0
      · omega
      · rw [q, ups_eq, ups_ne _ _ q2] at e
        have := hi n j (by omega) (by omega) e; omega
    · by_cases q2 : j = 0
      · rw [q2, ups_eq, ups_ne _ _ q] at e
        have := hi i n (by omega) (by omega) e; omega
      · rw [ups_ne _ _ q, ups_ne _ _ q2] at e; exact hi i j (by omega) (by omega) e
/-- c: the lesser of the nodes below i -/
def Kid (k : Nat → Nat) (A : Nat → Nat) (n i c : Nat) : Prop := c < n ∧ (c = 2 * i + 1 ∨ c = 2 * i + 2) ∧ ∀ j, j < n → j = 2 * i + 1 ∨ j = 2 * i + 2 → k (A c) ≤ k (A j)
theorem Dn.step {H0 : Nat → Nat} {n x : Nat} {A : Nat → Nat} {i c : Nat} (h : Dn k H0 n x A i) (hc : Kid k A n i c) (hl : k (A c) < k x) : Dn k H0 n x (ups A i (A c)) c := by
  obtain ⟨c1, c2, c3⟩ := hc
  have hci : (c - 1) / 2 = i := by omega
  have hlt : i < n := by have := h.lt; omega
  have key : ∀ j, ups (ups A i (A c)) c x j = if j = c then x else if j = i then A c else A j := fun j => by unfold ups; rfl
  have old : ∀ j, ups A i x j = if j = i then x else A j := fun j => rfl
  have sw : ∀ j, ups (ups A i (A c)) c x j = ups A i x (if j = c then i else if j = i then c else j) := fun j => by
    rw [key]
    by_cases e1 : j = c
    · rw [if_pos e1, if_pos e1, ups_eq]
    · rw [if_neg e1, if_neg e1]
      by_cases e2 : j = i
      · rw [if_pos e2, if_pos e2, ups_ne _ _ (by omega)]
      · rw [if_neg e2, if_neg e2, ups_ne _ _ e2]
  refine ⟨.inr c1, fun j h0 h1 h2 => ?_, fun j h1 h0 h2 h3 => ?_, fun y => ?_, fun a b ha hb e => ?_⟩
  · rw [key, key, if_neg h2]
    by_cases e1 : j = c
    · rw [if_pos e1, e1, hci, if_pos rfl]; omega
    · rw [if_neg e1]
      by_cases e2 : (j - 1) / 2 = i
      · rw [if_pos e2, if_neg (by omega)]; exact c3 j h1 (by omega)
      · rw [if_neg e2]
        by_cases e3 : j = i
        · rw [if_pos e3]
          have := h.g c c1 (by omega) hci (by omega)
          rw [← e3] at this; exact this
        · rw [if_neg e3]
          have := h.p j h0 h1 e2
          rw [old, old, if_neg e2, if_neg e3] at this; exact this
  · rw [hci, ups_eq, ups_ne _ _ (by omega)]
    have := h.p j h0 h1 (by omega)
    rw [old, old, h2, if_neg (by omega), if_neg (by omega)] at this; exact this
  · rw [← h.s y]
    constructor
    · rintro ⟨j, hj, e⟩
      rw [sw] at e
      exact ⟨_, by split; (exact hlt); (split <;> omega), e⟩
    · rintro ⟨j, hj, e⟩
      refine ⟨if j = i then c else if j = c then i else j, by split; (exact c1); (split <;> omega), ?_⟩
      rw [sw]
      have : (if (if j = i then c else if j = c then i else j) = c then i else if (if j = i then c else if j = c then i else j) = i then c else (if j = i then c else if j = c then i else j)) = j := by
        by_cases e1 : j = i
        · rw [if_pos e1, if_pos rfl, e1]
        · rw [if_neg e1]
          by_cases e2 : j = c
          · rw [if_pos e2, if_neg (by omega), if_pos rfl, e2]
          · rw [if_neg e2, if_neg e2, if_neg e1]
      rw [this]; exact e
  · rw [sw, sw] at e
    have bd : ∀ j, j < n → (if j = c then i else if j = i then c else j) < n := fun j hj => by
      split
      · exact hlt
      · split <;> omega
    have := h.inj _ _ (bd a ha) (bd b hb) e
    revert this; split <;> split <;> (try split) <;> (try split) <;> omega
theorem Dn.stop {H0 : Nat → Nat} {n x : Nat} {A : Nat → Nat} {i : Nat} (h : Dn k H0 n x A i) (hs : ∀ j, j < n → j = 2 * i + 1 ∨ j = 2 * i + 2 → k x ≤ k (A j)) : Hp k (ups A i x) n ∧ Inj (ups A i x) n ∧ ∀ y, In (ups A i x) n y ↔ In H0 (n + 1) y ∧ y ≠ H0 0 := by
  refine ⟨fun j h0 h1 => ?_, h.inj, h.s⟩
  by_cases e : (j - 1) / 2 = i
  · rw [e, ups_eq, ups_ne _ _ (by omega)]; exact hs j h1 (by omega)
  · exact h.p j h0 h1 e
end heap
end Go.Huf
