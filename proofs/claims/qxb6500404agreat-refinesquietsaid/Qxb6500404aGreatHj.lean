import Derived.Test.Qxb6500404aGreatHi
set_option linter.unusedVariables false
set_option linter.unusedSimpArgs false
namespace Go.Huf
/-! ### the cells that Check counts off -/
def gc (f : Nat → Int) (n s : Nat) : Nat := ct (fun p => 0 < f p ∧ ((s * 16 : Nat) : Int) ≤ f p) n
def gi (f : Nat → Int) (n s i : Nat) : Nat := ct (fun p => 0 < f p ∧ ((((s + 1) * 16 : Nat) : Int) ≤ f p ∨ (((s * 16 : Nat) : Int) ≤ f p ∧ i ≤ p))) n
theorem gc_zero (f : Nat → Int) (n : Nat) : gc f n 0 = ct (fun p => 0 < f p) n := ct_congr fun i _ => by omega
theorem gc_end {f : Nat → Int} {n N : Nat} (h : ∀ p, p < n → 0 < f p → f p < ((N * 16 : Nat) : Int)) : gc f n N = 0 := sm_zero fun i hi => if_neg (by have := h i hi; simp only []; omega)
theorem gc_skip {f : Nat → Int} {n s : Nat} (h : ∀ p, p < n → 0 < f p → ((s * 16 : Nat) : Int) ≤ f p → (((s + 1) * 16 : Nat) : Int) ≤ f p) : gc f n s = gc f n (s + 1) := ct_congr fun i hi => by
  have := h i hi; omega
theorem gi_start {f : Nat → Int} {n s i : Nat} (h : ∀ p, p < n → 0 < f p → ((s * 16 : Nat) : Int) ≤ f p → f p < (((s + 1) * 16 : Nat) : Int) → i ≤ p) : gi f n s i = gc f n s := ct_congr fun p hp => by
  have := h p hp; omega
theorem gi_step {f : Nat → Int} {n s i i' : Nat} (hi : i < n) (h1 : 0 < f i) (h2 : ((s * 16 : Nat) : Int) ≤ f i) (h3 : f i < (((s + 1) * 16 : Nat) : Int)) (hl : i < i') (h : ∀ p, p < n → i < p → p < i' → 0 < f p → ((s * 16 : Nat) : Int) ≤ f p → (((s + 1) * 16 : Nat) : Int) ≤ f p) : gi f n s i = gi f n s i' + 1 := by
  refine ct_one hi (fun p hp e => ?_) ⟨h1, .inr ⟨h2, Nat.le_refl _⟩⟩ (by omega)
  have := h p hp
  omega
theorem gi_end {f : Nat → Int} {n s i : Nat} (h : n ≤ i) : gi f n s i = gc f n (s + 1) := ct_congr fun p hp => by omega
theorem gi_end2 {f : Nat → Int} {n s i : Nat} (h : ∀ p, p < n → 0 < f p → ((s * 16 : Nat) : Int) ≤ f p → f p < (((s + 1) * 16 : Nat) : Int) → p < i) : gi f n s i = gc f n (s + 1) := ct_congr fun p hp => by
  have := h p hp; omega
theorem gi_le (f : Nat → Int) (n s i : Nat) : gi f n s i ≤ n := ct_le _ _
theorem gc_le (f : Nat → Int) (n s : Nat) : gc f n s ≤ n := ct_le _ _
section tb
variable {l : Nat → Nat} {N : Nat} {root sub : Nat → Int} {top : Nat}
theorem TB.rown (h : TB l N root sub top) {p : Nat} (hp : p < 64) (hr : 0 < root p) : ∃ t, t < N ∧ hd l N t p ∧ l t ≤ 6 ∧ root p = (t * 16 + l t : Nat) := by
  by_cases q : ∃ t, t < N ∧ l t ≤ 6 ∧ hd l N t p
  · obtain ⟨t, t1, t2, t3⟩ := q; exact ⟨t, t1, t3, t2, h.a p hp t t1 t2 t3⟩
  · exfalso
    have hn : ∀ t, t < N → l t ≤ 6 → ¬ hd l N t p := fun t a b c => q ⟨t, a, b, c⟩
    rcases Nat.eq_zero_or_pos (mx l N p N) with e | e
    · rw [h.c p hp e hn] at hr; omega
    · rw [h.b p hp e] at hr; omega
theorem TB.sown (h : TB l N root sub top) {j : Nat} (hj : j < top) : sub j = 0 ∨ ∃ t p i, t < N ∧ 6 < l t ∧ p < 64 ∧ 0 < mx l N p N ∧ i < 2 ^ mx l N p N ∧ hd l N t (p + 64 * i) ∧ j = tp l N p + i ∧ sub j = (t * 16 + l t : Nat) := by
  rw [h.t] at hj
  obtain ⟨p, i, p1, p2, p3, rfl⟩ := tp_find hj
  by_cases q : ∃ t, t < N ∧ 6 < l t ∧ hd l N t (p + 64 * i)
  · obtain ⟨t, t1, t2, t3⟩ := q
    exact .inr ⟨t, p, i, t1, t2, p1, p2, p3, t3, rfl, h.d p p1 p2 i p3 t t1 t2 t3⟩
  · exact .inl (h.e p p1 p2 i p3 (fun t a b c => q ⟨t, a, b, c⟩))
/-- which cells of the first table bear s -/
theorem TB.rs (h : TB l N root sub top) {p s : Nat} (hp : p < 64) (hr : 0 < root p) (h1 : ((s * 16 : Nat) : Int) ≤ root p) (h2 : root p < (((s + 1) * 16 : Nat) : Int)) : s < N ∧ l s ≤ 6 ∧ hd l N s p := by
  obtain ⟨t, t1, t2, t3, t4⟩ := h.rown hp hr
  rw [t4] at h1 h2
  have : t = s := by omega
  subst this; exact ⟨t1, t3, t2⟩
theorem TB.ss (h : TB l N root sub top) (hL : Ln l N) {j s : Nat} (hj : j < top) (hr : 0 < sub j) (h1 : ((s * 16 : Nat) : Int) ≤ sub j) (h2 : sub j < (((s + 1) * 16 : Nat) : Int)) : s < N ∧ 6 < l s ∧ ∃ i, i < 2 ^ mx l N (cd l N s % 64) N ∧ i % 2 ^ (l s - 6) = cd l N s / 64 ∧ j = tp l N (cd l N s % 64) + i := by
  rcases h.sown hj with e | ⟨t, p, i, t1, t2, t3, t4, t5, t6, t7, t8⟩
  · omega
  · rw [t8] at h1 h2
    have h10 := hL.le t t1
    have : t = s := by omega
    subst this
    obtain ⟨q1, q2⟩ := (hd_far t2 t3).1 t6
    subst q1
    exact ⟨t1, t2, i, t5, q2, t7⟩
theorem TB.rlt (h : TB l N root sub top) {p : Nat} (hp : p < 64) (hr : 0 < root p) : root p < ((N * 16 : Nat) : Int) := by
  obtain ⟨t, t1, t2, t3, t4⟩ := h.rown hp hr; rw [t4]; omega
theorem TB.slt (h : TB l N root sub top) (hL : Ln l N) {j : Nat} (hj : j < top) : 0 ≤ sub j ∧ (0 < sub j → sub j < ((N * 16 : Nat) : Int)) := by
  rcases h.sown hj with e | ⟨t, p, i, t1, t2, t3, t4, t5, t6, t7, t8⟩
  · omega
  · have := hL.le t t1; rw [t8]; omega
end tb
end Go.Huf
