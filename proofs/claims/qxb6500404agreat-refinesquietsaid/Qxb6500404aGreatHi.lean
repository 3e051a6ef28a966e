import Derived.Test.Qxb6500404aGreatHh
set_option linter.unusedVariables false
set_option linter.unusedSimpArgs false
namespace Go.Huf
theorem or16 {s n : Nat} (h : n < 16) : s * 16 ||| n = s * 16 + n := by
  have := Nat.two_pow_add_eq_or_of_lt (i := 4) h s
  rw [show (2 : Nat) ^ 4 = 16 from rfl, Nat.mul_comm 16] at this; exact this.symm
theorem or2 (r v : Nat) : r * 2 ||| v % 2 = 2 * r + v % 2 := by
  have := Nat.two_pow_add_eq_or_of_lt (i := 1) (b := v % 2) (by omega) r
  rw [show (2 : Nat) ^ 1 = 2 from rfl, Nat.mul_comm 2] at this; omega
/-- the cells of a progression -/
theorem prog {M c i p : Nat} (hM : 0 < M) (hi : i % M = c) (h1 : i ≤ p) (h2 : p < i + M) : p % M = c ↔ p = i := by
  constructor
  · intro h
    have e1 := Nat.div_add_mod i M
    have e2 := Nat.div_add_mod p M
    rw [hi] at e1; rw [h] at e2
    have h3 : M * (i / M) ≤ M * (p / M) := by omega
    have h4 : M * (p / M) < M * (i / M) + M := by omega
    have h5 : i / M ≤ p / M := Nat.le_of_mul_le_mul_left h3 hM
    have h6 : p / M < i / M + 1 := by
      have : M * (p / M) < M * (i / M + 1) := by rw [Nat.mul_add, Nat.mul_one]; exact h4
      exact Nat.lt_of_mul_lt_mul_left this
    have h7 : p / M = i / M := by omega
    rw [h7] at e2; omega
  · intro h; rw [h]; exact hi
theorem prog_next {M c i : Nat} (hi : i % M = c) : (i + M) % M = c := by rw [Nat.add_mod_right]; exact hi
theorem prog_first {M c p : Nat} (h : p % M = c) : c ≤ p := by rw [← h]; exact Nat.mod_le _ _
/-- the first table, behind the links below p -/
structure R3 (l : Nat → Nat) (N p : Nat) (root sub : Nat → Int) (top : Nat) : Prop where
  a : ∀ q, q < 64 → ∀ t, t < N → l t ≤ 6 → hd l N t q → root q = (t * 16 + l t : Nat)
  b : ∀ q, q < p → 0 < mx l N q N → root q = -((tp l N q * 16 + mx l N q N : Nat) : Int)
  c : ∀ q, q < 64 → p ≤ q → (∀ t, t < N → l t ≤ 6 → ¬ hd l N t q) → root q = -(mx l N q N : Int)
  z : ∀ q, q < p → mx l N q N = 0 → (∀ t, t < N → l t ≤ 6 → ¬ hd l N t q) → root q = 0
  s : ∀ j, j < top → sub j = 0
  t : top = tp l N p
theorem R3.z0 {l : Nat → Nat} {N : Nat} {root sub : Nat → Int} (h : R1 l N N root) : R3 l N 0 root sub 0 := ⟨h.a, fun q hq => by omega, fun q h1 _ hn => h.b q h1 hn, fun q hq => by omega, fun j hj => by omega, rfl⟩
theorem R3.neg {l : Nat → Nat} {N p : Nat} {root sub : Nat → Int} {top : Nat} (hL : Ln l N) (h : R3 l N p root sub top) (hp : p < 64) : (root p < 0 ↔ 0 < mx l N p N) ∧ (root p < 0 → root p = -(mx l N p N : Int)) := by
  by_cases q : ∃ t, t < N ∧ l t ≤ 6 ∧ hd l N t p
  · obtain ⟨t, t1, t2, t3⟩ := q
    rw [h.a p hp t t1 t2 t3, hL.excl t1 t2 t3]
    exact ⟨⟨fun e => by omega, fun e => by omega⟩, fun e => by omega⟩
  · rw [h.c p hp (Nat.le_refl _) (fun t h1 h2 h3 => q ⟨t, h1, h2, h3⟩)]
    exact ⟨⟨fun e => by omega, fun e => by omega⟩, fun _ => rfl⟩
theorem R3.skip {l : Nat → Nat} {N p : Nat} {root sub : Nat → Int} {top : Nat} (hL : Ln l N) (h : R3 l N p root sub top) (hp : p < 64) (h0 : ¬ root p < 0) : R3 l N (p + 1) root sub top := by
  have hn := h.neg hL hp
  have hm : mx l N p N = 0 := by
    rcases Nat.eq_zero_or_pos (mx l N p N) with e | e
    · exact e
    · exact absurd (hn.1.2 e) h0
  refine ⟨h.a, fun q hq hm2 => ?_, fun q h1 h2 hs => h.c q h1 (by omega) hs, fun q hq hm2 hs => ?_, h.s, by rw [tp_same hm]; exact h.t⟩
  · by_cases e : q = p
    · rw [e, hm] at hm2; omega
    · exact h.b q (by omega) hm2
  · by_cases e : q = p
    · rw [e] at hs ⊢; rw [h.c p hp (Nat.le_refl _) hs, hm]; rfl
    · exact h.z q (by omega) hm2 hs
theorem R3.add {l : Nat → Nat} {N p : Nat} {root sub sub' : Nat → Int} {top : Nat} (hL : Ln l N) (h : R3 l N p root sub top) (hp : p < 64) (h0 : root p < 0) (hs' : ∀ j, j < top + 2 ^ mx l N p N → sub' j = 0) : R3 l N (p + 1) (ups root p (-((top * 16 + mx l N p N : Nat) : Int))) sub' (top + 2 ^ mx l N p N) := by
  have hn := h.neg hL hp
  have hm : 0 < mx l N p N := hn.1.1 h0
  have hns : ∀ t, t < N → l t ≤ 6 → ¬ hd l N t p := fun t h1 h2 h3 => by have := hL.excl h1 h2 h3; omega
  refine ⟨fun q hq t t1 t2 t3 => ?_, fun q hq hm2 => ?_, fun q h1 h2 hs => ?_, fun q hq hm2 hs => ?_, hs', by rw [tp_next hm, h.t]⟩
  · have hqp : q ≠ p := fun e => hns t t1 t2 (by rw [← e]; exact t3)
    rw [ups_ne _ _ hqp]; exact h.a q hq t t1 t2 t3
  · by_cases e : q = p
    · rw [e, ups_eq, h.t]
    · rw [ups_ne _ _ e]; exact h.b q (by omega) hm2
  · rw [ups_ne _ _ (by omega)]; exact h.c q h1 (by omega) hs
  · by_cases e : q = p
    · rw [e] at hm2; omega
    · rw [ups_ne _ _ e]; exact h.z q (by omega) hm2 hs
/-- the second tables, behind the symbols below s -/
structure R4 (l : Nat → Nat) (N s : Nat) (sub : Nat → Int) : Prop where
  d : ∀ p, p < 64 → 0 < mx l N p N → ∀ j, j < 2 ^ mx l N p N → ∀ t, t < s → 6 < l t → hd l N t (p + 64 * j) → sub (tp l N p + j) = (t * 16 + l t : Nat)
  e : ∀ p, p < 64 → 0 < mx l N p N → ∀ j, j < 2 ^ mx l N p N → (∀ t, t < s → 6 < l t → ¬ hd l N t (p + 64 * j)) → sub (tp l N p + j) = 0
theorem R4.z0 {l : Nat → Nat} {N : Nat} {sub : Nat → Int} (h : ∀ j, j < tp l N 64 → sub j = 0) : R4 l N 0 sub := by
  refine ⟨fun p hp hm j hj t ht => by omega, fun p hp hm j hj _ => h _ ?_⟩
  have h1 := tp_mono (l := l) (N := N) (show p + 1 ≤ 64 from hp)
  rw [tp_next hm] at h1; omega
theorem R4.skip {l : Nat → Nat} {N s : Nat} {sub : Nat → Int} (h : R4 l N s sub) (h6 : ¬ 6 < l s) : R4 l N (s + 1) sub := by
  refine ⟨fun p hp hm j hj t ht t6 hh => ?_, fun p hp hm j hj hn => h.e p hp hm j hj (fun t ht => hn t (by omega))⟩
  exact h.d p hp hm j hj t (by have : t ≠ s := fun e => h6 (e ▸ t6); omega) t6 hh
theorem hd_far {l : Nat → Nat} {N s p j : Nat} (h6 : 6 < l s) (hp : p < 64) : hd l N s (p + 64 * j) ↔ cd l N s % 64 = p ∧ j % 2 ^ (l s - 6) = cd l N s / 64 := by
  have e : 2 ^ l s = 64 * 2 ^ (l s - 6) := by rw [show (64 : Nat) = 2 ^ 6 from rfl, ← Nat.pow_add]; congr 1; omega
  have m : (p + 64 * j) % 2 ^ l s = p + 64 * (j % 2 ^ (l s - 6)) := by
    rw [e, Nat.mod_mul, show (p + 64 * j) % 64 = p by omega, show (p + 64 * j) / 64 = j by omega]
  unfold hd
  rw [m]
  constructor
  · intro z; have := z.2; omega
  · intro z; exact ⟨by omega, by omega⟩
theorem R4.add {l : Nat → Nat} {N s : Nat} {sub sub' : Nat → Int} (hL : Ln l N) (hs : s < N) (h : R4 l N s sub) (h6 : 6 < l s) (h1 : ∀ j, j < 2 ^ mx l N (cd l N s % 64) N → sub' (tp l N (cd l N s % 64) + j) = if j % 2 ^ (l s - 6) = cd l N s / 64 then ((s * 16 + l s : Nat) : Int) else sub (tp l N (cd l N s % 64) + j))
    (h2 : ∀ i, i < tp l N (cd l N s % 64) ∨ tp l N (cd l N s % 64) + 2 ^ mx l N (cd l N s % 64) N ≤ i → sub' i = sub i) : R4 l N (s + 1) sub' := by
  generalize hp0 : cd l N s % 64 = p0 at *
  have hp64 : p0 < 64 := by omega
  have hm0 : 0 < mx l N p0 N := by have := mx_le hs h6 hp0; omega
  have other : ∀ p, p < 64 → 0 < mx l N p N → p ≠ p0 → ∀ j, j < 2 ^ mx l N p N → sub' (tp l N p + j) = sub (tp l N p + j) := fun p hp hm hne j hj => by
    refine h2 _ ?_
    rcases Nat.lt_or_ge (tp l N p + j) (tp l N p0) with q | q
    · exact .inl q
    · rcases Nat.lt_or_ge (tp l N p + j) (tp l N p0 + 2 ^ mx l N p0 N) with r | r
      · exact absurd (tp_apart hm hj (show tp l N p + j = tp l N p0 + (tp l N p + j - tp l N p0) by omega) hm0 (by omega)).1 hne
      · exact .inr r
  refine ⟨fun p hp hm j hj t ht t6 hh => ?_, fun p hp hm j hj hn => ?_⟩
  · by_cases e : p = p0
    · subst e
      rw [h1 j hj]
      by_cases q : j % 2 ^ (l s - 6) = cd l N s / 64
      · rw [if_pos q]
        have : t = s := hL.uniq (by omega) hs hh ((hd_far h6 hp).2 ⟨hp0, q⟩)
        rw [this]
      · rw [if_neg q]
        have : t ≠ s := fun z => q ((hd_far h6 hp).1 (z ▸ hh)).2
        exact h.d p hp hm j hj t (by omega) t6 hh
    · rw [other p hp hm e j hj]
      have : t ≠ s := fun z => e (by subst z; exact ((hd_far h6 hp).1 hh).1.symm.trans hp0)
      exact h.d p hp hm j hj t (by omega) t6 hh
  · by_cases e : p = p0
    · subst e
      rw [h1 j hj, if_neg (fun q => hn s (by omega) h6 ((hd_far h6 hp).2 ⟨hp0, q⟩))]
      exact h.e p hp hm j hj (fun t ht => hn t (by omega))
    · rw [other p hp hm e j hj]; exact h.e p hp hm j hj (fun t ht => hn t (by omega))
theorem TB.of {l : Nat → Nat} {N : Nat} {root sub sub' : Nat → Int} {top : Nat} (h3 : R3 l N 64 root sub top) (h4 : R4 l N N sub') : TB l N root sub' top :=
  ⟨h3.a, fun p hp hm => h3.b p hp hm, fun p hp hm hs => h3.z p hp hm hs, h4.d, h4.e, h3.t⟩
/-! ### the counts of Build -/
theorem cn_snoc (l : Nat → Nat) (i n : Nat) : cn l (i + 1) n = if l i = n then cn l i n + 1 else cn l i n := ct_succ _ _
theorem cn_le (l : Nat → Nat) (i n : Nat) : cn l i n ≤ i := ct_le _ _
theorem Af_succ (f : Nat → Nat) {n : Nat} (h : 1 ≤ n) : Af f (n + 1) = Af f n + f n * 2 ^ (10 - n) := by rw [Af, if_neg (by omega)]
theorem liv_cn (l : Nat → Nat) : ∀ N, liv l N + cn l N 0 = N
  | 0 => rfl
  | N + 1 => by
    have := liv_cn l N
    rw [cn_snoc]
    have h2 : liv l (N + 1) = if 0 < l N then liv l N + 1 else liv l N := ct_succ _ _
    rw [h2]
    by_cases e : l N = 0
    · rw [if_pos e, if_neg (by omega)]; omega
    · rw [if_neg e, if_pos (by omega)]; omega
/-- one used symbol: what its length shows -/
theorem one_used {l : Nat → Nat} {N : Nat} (hl : ∀ s, s < N → l s ≤ 10) (h : liv l N = 1) : ∃ s, s < N ∧ 0 < l s ∧ (∀ t, t < N → t ≠ s → l t = 0) ∧ kk 10 l N = 2 ^ (10 - l s) ∧ cn l N 1 = if l s = 1 then 1 else 0 := by
  obtain ⟨s, s1, s2⟩ := ct_pos (p := fun g => 0 < l g) (n := N) (by unfold liv at h; omega)
  have h0 : ∀ t, t < N → t ≠ s → l t = 0 := fun t ht e => by
    rcases Nat.eq_zero_or_pos (l t) with q | q
    · exact q
    · exact absurd (ct_uniq (p := fun g => 0 < l g) h ht s1 q s2) e
  refine ⟨s, s1, s2, h0, ?_, ?_⟩
  · unfold kk
    rw [sm_only s1 (fun i hi e => by rw [h0 i hi e]; rfl), if_pos s2]
  · unfold cn ct
    rw [sm_only s1 (fun i hi e => if_neg (by have h9 := h0 i hi e; omega))]
theorem none_used {l : Nat → Nat} {N : Nat} (h : liv l N = 0) : ∀ s, s < N → l s = 0 := fun s hs => by
  rcases Nat.eq_zero_or_pos (l s) with q | q
  · exact q
  · have := ct_at (p := fun g => 0 < l g) hs q; unfold liv at h; omega
theorem under_iff {l : Nat → Nat} {N : Nat} (hl : ∀ s, s < N → l s ≤ 10) : (0 < liv l N ∧ (1 < liv l N ∨ kk 10 l N ≠ 512)) ↔ (1 < liv l N ∨ liv l N ≠ cn l N 1) := by
  rcases Nat.lt_trichotomy (liv l N) 1 with q | q | q
  · have h0 := none_used (show liv l N = 0 by omega)
    have hc : cn l N 1 = 0 := sm_zero fun i hi => if_neg (by have h9 := h0 i hi; simp only []; omega)
    omega
  · obtain ⟨s, s1, s2, s3, s4, s5⟩ := one_used hl q
    rw [q, s4, s5]
    have h10 := hl s s1
    by_cases e : l s = 1
    · rw [if_pos e, e]; simp
    · rw [if_neg e]
      have : 2 ^ (10 - l s) ≠ 512 := by
        have : l s = 2 ∨ l s = 3 ∨ l s = 4 ∨ l s = 5 ∨ l s = 6 ∨ l s = 7 ∨ l s = 8 ∨ l s = 9 ∨ l s = 10 := by omega
        rcases this with z | z | z | z | z | z | z | z | z <;> rw [z] <;> decide
      simp [this]
  · omega
theorem fc_succ (l : Nat → Nat) (N : Nat) {n : Nat} (h : 1 ≤ n) : fc l N (n + 1) = (fc l N n + cn l N n) * 2 := by rw [fc, if_neg (by omega)]
theorem Ln.fc_le {l : Nat → Nat} {N : Nat} (h : Ln l N) {n : Nat} (h1 : 1 ≤ n) (h2 : n ≤ 10) : fc l N n + cn l N n ≤ 1024 := by
  have e := fc_A (l := l) (N := N) n h1 h2
  have hA := h.A
  have hm : Af (cn l N) (n + 1) ≤ Af (cn l N) 11 := Af_mono (by omega)
  rw [Af_succ _ h1, ← e, ← Nat.add_mul] at hm
  have hp : 1 ≤ 2 ^ (10 - n) := Nat.pow_pos (by omega)
  have : (fc l N n + cn l N n) * 1 ≤ (fc l N n + cn l N n) * 2 ^ (10 - n) := Nat.mul_le_mul_left _ hp
  omega
end Go.Huf
