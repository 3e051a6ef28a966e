import Derived.Test.Qxb6500404aGreatHe
set_option linter.unusedVariables false
set_option linter.unusedSimpArgs false
namespace Go.Huf
/-! ### a code turned round -/
def rv (v : Nat) : Nat → Nat
  | 0 => 0
  | n + 1 => 2 * rv v n + v / 2 ^ n % 2
theorem rv_lt (v : Nat) : ∀ n, rv v n < 2 ^ n
  | 0 => by simp [rv]
  | n + 1 => by have := rv_lt v n; rw [rv, Nat.pow_succ]; omega
theorem rv_top {v n m : Nat} (h : n ≤ m) : rv v m / 2 ^ (m - n) = rv v n := by
  induction m with
  | zero => have : n = 0 := by omega
            subst this; simp [rv]
  | succ m ih =>
    by_cases e : n = m + 1
    · rw [e, Nat.sub_self, Nat.pow_zero, Nat.div_one]
    · rw [show m + 1 - n = (m - n) + 1 by omega, Nat.pow_succ, Nat.mul_comm, ← Nat.div_div_eq_div_mul, rv, show (2 * rv v m + v / 2 ^ m % 2) / 2 = rv v m by omega]
      exact ih (by omega)
theorem rv_low (v : Nat) : ∀ n, rv v (n + 1) = (v % 2) * 2 ^ n + rv (v / 2) n
  | 0 => by simp [rv]
  | n + 1 => by
    rw [rv, rv_low v n, rv, Nat.div_div_eq_div_mul, show 2 * 2 ^ n = 2 ^ (n + 1) by rw [Nat.pow_succ]; omega]
    have : (v % 2) * 2 ^ (n + 1) = 2 * ((v % 2) * 2 ^ n) := by rw [Nat.pow_succ, ← Nat.mul_assoc]; omega
    omega
theorem mod_succ (v n : Nat) : v % 2 ^ (n + 1) = (v / 2 ^ n % 2) * 2 ^ n + v % 2 ^ n := by
  rw [Nat.pow_succ, Nat.mod_mul, Nat.mul_comm (2 ^ n)]; omega
theorem rv_rv (v : Nat) : ∀ n, rv (rv v n) n = v % 2 ^ n
  | 0 => by simp [rv, Nat.mod_one]
  | n + 1 => by
    rw [rv_low, rv, show (2 * rv v n + v / 2 ^ n % 2) % 2 = v / 2 ^ n % 2 by omega, show (2 * rv v n + v / 2 ^ n % 2) / 2 = rv v n by omega, rv_rv v n, mod_succ]
theorem rv_mod {v n m : Nat} (h : n ≤ m) : rv (v % 2 ^ m) n = rv v n := by
  induction n with
  | zero => rfl
  | succ n ih =>
    rw [rv, rv, ih (by omega)]
    congr 1
    rw [show m = n + (m - n) by omega, Nat.pow_add, Nat.mod_mul_right_div_self]
    rw [show m - n = (m - n - 1) + 1 by omega, Nat.pow_succ]
    exact Nat.mod_mul_left_mod _ _ _
/-! ### the canonical code of lengths at most 10 -/
def cn (l : Nat → Nat) (N n : Nat) : Nat := ct (fun s => l s = n) N
def rk (l : Nat → Nat) (s : Nat) : Nat := ct (fun t => l t = l s) s
/-- the first code of each length -/
def fc (l : Nat → Nat) (N : Nat) : Nat → Nat
  | 0 => 0
  | n + 1 => if n = 0 then 0 else (fc l N n + cn l N n) * 2
def vv (l : Nat → Nat) (N s : Nat) : Nat := fc l N (l s) + rk l s
def cd (l : Nat → Nat) (N s : Nat) : Nat := rv (vv l N s) (l s)
/-- the room that the lengths below n take, in units of 2^-10 -/
def Af (f : Nat → Nat) : Nat → Nat
  | 0 => 0
  | n + 1 => if n = 0 then 0 else Af f n + f n * 2 ^ (10 - n)
theorem Af_mono {f : Nat → Nat} {n m : Nat} (h : n ≤ m) : Af f n ≤ Af f m := by
  induction m with
  | zero => rw [show n = 0 by omega]; exact Nat.le_refl _
  | succ m ih =>
    by_cases e : n = m + 1
    · rw [e]; exact Nat.le_refl _
    · have := ih (by omega)
      rw [Af]; split
      · rename_i q; rw [q] at this; simpa [Af] using this
      · omega
theorem fc_A {l : Nat → Nat} {N : Nat} : ∀ n, 1 ≤ n → n ≤ 10 → fc l N n * 2 ^ (10 - n) = Af (cn l N) n := by
  intro n
  induction n with
  | zero => intro h; omega
  | succ n ih =>
    intro _ h2
    by_cases e : n = 0
    · subst e; simp [fc, Af]
    · rw [fc, if_neg e, Af, if_neg e, ← ih (by omega) (by omega), show 10 - n = (10 - (n + 1)) + 1 by omega, Nat.pow_succ, ← Nat.add_mul, Nat.mul_assoc, Nat.mul_comm 2]
theorem Af_add (f g : Nat → Nat) : ∀ n, Af (fun i => f i + g i) n = Af f n + Af g n
  | 0 => rfl
  | n + 1 => by
    rw [Af, Af, Af, Af_add f g n]
    split
    · rfl
    · rw [Nat.add_mul]; omega
theorem Af_one (k : Nat) : ∀ n, n ≤ 11 → Af (fun i => if k = i then 1 else 0) n = if 0 < k ∧ k < n then 2 ^ (10 - k) else 0
  | 0, _ => by simp [Af]
  | n + 1, h => by
    rw [Af]
    by_cases e : n = 0
    · rw [if_pos e, if_neg (by omega)]
    · rw [if_neg e, Af_one k n (by omega)]
      by_cases q : k = n
      · rw [if_neg (by omega), if_pos q, if_pos (by omega), q]; omega
      · rw [if_neg q]
        by_cases r : 0 < k ∧ k < n
        · rw [if_pos r, if_pos (by omega)]; omega
        · rw [if_neg r, if_neg (by omega)]; simp
/-- Kraft's sum over the symbols is the sum over the lengths -/
theorem kk_A {l : Nat → Nat} : ∀ {N : Nat}, (∀ s, s < N → l s ≤ 10) → kk 10 l N = Af (cn l N) 11 := by
  intro N
  induction N with
  | zero =>
    intro _
    have : ∀ n, Af (cn l 0) n = 0 := by
      intro n
      induction n with
      | zero => rfl
      | succ n ih => rw [Af, ih]; split <;> simp [cn, ct, sm]
    rw [this]; rfl
  | succ N ih =>
    intro h
    have hc : cn l (N + 1) = fun n => cn l N n + if l N = n then 1 else 0 := by
      funext n; unfold cn ct; rw [sm]
    have : kk 10 l (N + 1) = kk 10 l N + if 0 < l N then 2 ^ (10 - l N) else 0 := rfl
    rw [this, ih (fun s hs => h s (by omega)), hc, Af_add, Af_one _ _ (Nat.le_refl _)]
    have hN := h N (by omega)
    congr 1
    by_cases e : 0 < l N
    · rw [if_pos e, if_pos ⟨e, by omega⟩]
    · rw [if_neg e, if_neg (by omega)]
/-- rank and symbol -/
theorem ct_lt {p : Nat → Prop} [DecidablePred p] {s N : Nat} (hs : s < N) (hp : p s) : ct p s < ct p N := by
  induction N with
  | zero => omega
  | succ N ih =>
    rw [ct_succ]
    by_cases e : s = N
    · subst e; rw [if_pos hp]; omega
    · have := ih (by omega); split <;> omega
theorem ct_nth {p : Nat → Prop} [DecidablePred p] : ∀ {N r : Nat}, r < ct p N → ∃ s, s < N ∧ p s ∧ ct p s = r := by
  intro N
  induction N with
  | zero => intro r h; simp [ct, sm] at h
  | succ N ih =>
    intro r h
    rw [ct_succ] at h
    split at h
    · rename_i e
      by_cases q : r = ct p N
      · exact ⟨N, by omega, e, q.symm⟩
      · obtain ⟨s, s1, s2, s3⟩ := ih (r := r) (by omega); exact ⟨s, by omega, s2, s3⟩
    · obtain ⟨s, s1, s2, s3⟩ := ih h; exact ⟨s, by omega, s2, s3⟩
theorem ct_inj {p : Nat → Prop} [DecidablePred p] {s t : Nat} (hs : p s) (ht : p t) (h : ct p s = ct p t) : s = t := by
  rcases Nat.lt_trichotomy s t with q | q | q
  · have := ct_lt q hs; omega
  · exact q
  · have := ct_lt q ht; omega
/-- lengths that take no more room than there is -/
structure Ln (l : Nat → Nat) (N : Nat) : Prop where
  le : ∀ s, s < N → l s ≤ 10
  k : kk 10 l N ≤ 1024
theorem rk_lt {l : Nat → Nat} {N s : Nat} (hs : s < N) : rk l s < cn l N (l s) := ct_lt hs rfl
section code
variable {l : Nat → Nat} {N : Nat}
theorem Ln.A (h : Ln l N) : Af (cn l N) 11 ≤ 1024 := by rw [← kk_A h.le]; exact h.k
/-- the room of one symbol -/
theorem Ln.room (h : Ln l N) {s : Nat} (hs : s < N) (h0 : 0 < l s) : Af (cn l N) (l s) ≤ vv l N s * 2 ^ (10 - l s) ∧ (vv l N s + 1) * 2 ^ (10 - l s) ≤ Af (cn l N) (l s + 1) := by
  have h1 := h.le s hs
  have h2 := fc_A (l := l) (N := N) (l s) h0 h1
  have h3 := rk_lt (l := l) hs
  unfold vv
  rw [Nat.add_mul, h2]
  refine ⟨Nat.le_add_right _ _, ?_⟩
  rw [Af, if_neg (by omega), Nat.add_mul, Nat.add_mul, h2, Nat.one_mul]
  have : (rk l s + 1) * 2 ^ (10 - l s) ≤ cn l N (l s) * 2 ^ (10 - l s) := Nat.mul_le_mul_right _ h3
  rw [Nat.add_mul, Nat.one_mul] at this
  omega
theorem Ln.vlt (h : Ln l N) {s : Nat} (hs : s < N) (h0 : 0 < l s) : vv l N s < 2 ^ l s := by
  have h1 := (h.room hs h0).2
  have h2 := h.A
  have h3 := h.le s hs
  have h4 : Af (cn l N) (l s + 1) ≤ Af (cn l N) 11 := Af_mono (by omega)
  have h5 : (1024 : Nat) = 2 ^ l s * 2 ^ (10 - l s) := by rw [← Nat.pow_add, show l s + (10 - l s) = 10 by omega]
  have h6 : 0 < 2 ^ (10 - l s) := Nat.pow_pos (by omega)
  have : (vv l N s + 1) * 2 ^ (10 - l s) ≤ 2 ^ l s * 2 ^ (10 - l s) := by omega
  exact Nat.le_of_mul_le_mul_right this h6
end code
/-- s's code is the head of x -/
abbrev hd (l : Nat → Nat) (N s x : Nat) : Prop := 0 < l s ∧ x % 2 ^ l s = cd l N s
theorem Ln.hd_iff {l : Nat → Nat} {N : Nat} (h : Ln l N) {s : Nat} (hs : s < N) (h0 : 0 < l s) (x : Nat) : hd l N s x ↔ rv x 10 / 2 ^ (10 - l s) = vv l N s := by
  have h1 := h.le s hs
  have hv := h.vlt hs h0
  rw [rv_top h1]
  unfold hd cd
  constructor
  · intro e
    rw [← rv_mod (Nat.le_refl (l s)), e.2, rv_rv, Nat.mod_eq_of_lt hv]
  · intro e
    exact ⟨h0, by rw [← e, rv_rv]⟩
theorem Ln.cd_lt {l : Nat → Nat} {N : Nat} (s : Nat) : cd l N s < 2 ^ l s := rv_lt _ _
theorem Ln.hd_cd {l : Nat → Nat} {N : Nat} {s : Nat} (h0 : 0 < l s) : hd l N s (cd l N s) := ⟨h0, Nat.mod_eq_of_lt (rv_lt _ _)⟩
/-- PREFIX-FREE -/
theorem Ln.uniq {l : Nat → Nat} {N : Nat} (h : Ln l N) {s t x : Nat} (hs : s < N) (ht : t < N) (h1 : hd l N s x) (h2 : hd l N t x) : s = t := by
  have key : ∀ s, s < N → hd l N s x → vv l N s * 2 ^ (10 - l s) ≤ rv x 10 ∧ rv x 10 < (vv l N s + 1) * 2 ^ (10 - l s) := fun s hs e => by
    have := (h.hd_iff hs e.1 x).1 e
    have hp : 0 < 2 ^ (10 - l s) := Nat.pow_pos (by omega)
    rw [← this]
    exact ⟨Nat.div_mul_le_self _ _, by have := Nat.lt_div_mul_add (a := rv x 10) hp; rw [Nat.add_mul, Nat.one_mul]; exact this⟩
  have a1 := key s hs h1
  have a2 := key t ht h2
  have r1 := h.room hs h1.1
  have r2 := h.room ht h2.1
  have ls : ¬ l s < l t := fun e => by
    have : Af (cn l N) (l s + 1) ≤ Af (cn l N) (l t) := Af_mono e
    omega
  have lt : ¬ l t < l s := fun e => by
    have : Af (cn l N) (l t + 1) ≤ Af (cn l N) (l s) := Af_mono e
    omega
  have e : l s = l t := by omega
  have hv : vv l N s = vv l N t := by
    have b1 := (h.hd_iff hs h1.1 x).1 h1
    have b2 := (h.hd_iff ht h2.1 x).1 h2
    rw [← b1, ← b2, e]
  unfold vv at hv
  rw [e] at hv
  have hr : rk l s = rk l t := by omega
  unfold rk at hr
  rw [e] at hr
  exact ct_inj (p := fun u => l u = l t) e rfl hr
theorem Af_find {f : Nat → Nat} {y : Nat} : ∀ n, y < Af f n → ∃ m, 1 ≤ m ∧ m < n ∧ Af f m ≤ y ∧ y < Af f (m + 1) := by
  intro n
  induction n with
  | zero => intro h; simp [Af] at h
  | succ n ih =>
    intro h
    rcases Nat.lt_or_ge y (Af f n) with q | q
    · obtain ⟨m, m1, m2, m3⟩ := ih q; exact ⟨m, m1, by omega, m3⟩
    · refine ⟨n, ?_, by omega, q, h⟩
      rcases Nat.eq_zero_or_pos n with e | e
      · subst e; simp [Af] at h
      · exact e
/-- COMPLETE -/
theorem Ln.full {l : Nat → Nat} {N : Nat} (h : Ln l N) (hk : kk 10 l N = 1024) (x : Nat) : ∃ s, s < N ∧ hd l N s x := by
  have hA : Af (cn l N) 11 = 1024 := by rw [← kk_A h.le]; exact hk
  have hy := rv_lt x 10
  obtain ⟨n, n1, n2, n3, n4⟩ := Af_find (f := cn l N) (y := rv x 10) 11 (by rw [hA]; exact hy)
  have hp : 0 < 2 ^ (10 - n) := Nat.pow_pos (by omega)
  have hf := fc_A (l := l) (N := N) n n1 (by omega)
  rw [Af, if_neg (by omega)] at n4
  have hr : (rv x 10 - Af (cn l N) n) / 2 ^ (10 - n) < cn l N n := by
    rw [Nat.div_lt_iff_lt_mul hp]; omega
  obtain ⟨s, s1, s2, s3⟩ := ct_nth (p := fun t => l t = n) hr
  refine ⟨s, s1, (h.hd_iff s1 (by rw [s2]; omega) x).2 ?_⟩
  unfold vv rk
  rw [s2, s3, ← hf]
  have : rv x 10 = (rv x 10 - Af (cn l N) n) + fc l N n * 2 ^ (10 - n) := by omega
  conv => lhs; rw [this]
  rw [Nat.add_mul_div_right _ _ hp, ← hf]; omega
end Go.Huf
