import Derived.Test.Qxb6500404aGreatHf
set_option linter.unusedVariables false
set_option linter.unusedSimpArgs false
namespace Go.Huf
/-- the symbol whose code is the head of x -/
def own (l : Nat → Nat) (M x : Nat) : Nat → Option Nat
  | 0 => none
  | n + 1 => match own l M x n with
    | some s => some s
    | none => if hd l M n x then some n else none
theorem own_some {l : Nat → Nat} {M x s : Nat} : ∀ {n : Nat}, own l M x n = some s → s < n ∧ hd l M s x := by
  intro n
  induction n with
  | zero => intro h; cases h
  | succ n ih =>
    intro h
    rw [own] at h
    cases e : own l M x n with
    | some t => rw [e] at h; simp only [] at h; cases h; have := ih e; exact ⟨by omega, this.2⟩
    | none =>
      rw [e] at h; simp only [] at h
      split at h
      · cases h; exact ⟨by omega, by assumption⟩
      · cases h
theorem own_none {l : Nat → Nat} {M x : Nat} : ∀ {n : Nat}, own l M x n = none → ∀ s, s < n → ¬ hd l M s x := by
  intro n
  induction n with
  | zero => intro _ s hs; omega
  | succ n ih =>
    intro h s hs
    rw [own] at h
    cases e : own l M x n with
    | some t => rw [e] at h; cases h
    | none =>
      rw [e] at h; simp only [] at h
      split at h
      · cases h
      · by_cases q : s = n
        · rw [q]; assumption
        · exact ih e s (by omega)
theorem Ln.own {l : Nat → Nat} {N : Nat} (h : Ln l N) {s x : Nat} (hs : s < N) (hh : hd l N s x) : own l N x N = some s := by
  cases e : Huf.own l N x N with
  | none => exact absurd hh (own_none e s hs)
  | some t => obtain ⟨t1, t2⟩ := own_some e; rw [h.uniq t1 hs t2 hh]
/-- Find's answer: symbol, length, error -/
def fnd (l : Nat → Nat) (N x hv : Nat) : Nat × Nat × Nat := match own l N x N with
  | none => (0, 0, 8)
  | some s => if l s ≤ hv then (s, l s, 0) else (0, 0, 4)
/-- the sets that Build takes -/
structure Lw (l : Nat → Nat) (N : Nat) : Prop where
  ln : Ln l N
  f : kk 10 l N = 1024 ∨ (∀ s, s < N → l s = 0) ∨ ∃ s, s < N ∧ l s = 1 ∧ ∀ t, t < N → t ≠ s → l t = 0
theorem Lw.nil : Lw (fun _ => 0) 0 := ⟨⟨fun s hs => by omega, by simp [kk, sm]⟩, .inr (.inl fun s hs => by omega)⟩
theorem pow_low {x a b : Nat} (h : a ≤ b) : x % 2 ^ b % 2 ^ a = x % 2 ^ a := Nat.mod_mod_of_dvd x (Nat.pow_dvd_pow 2 h)
/-- one symbol of length 1: its code is 0 -/
theorem cd_one {l : Nat → Nat} {N s : Nat} (h1 : l s = 1) (h : ∀ t, t < N → t ≠ s → l t = 0) (hs : s < N) : cd l N s = 0 := by
  unfold cd vv
  rw [h1, fc, if_pos rfl]
  have : rk l s = 0 := sm_zero fun i hi => by have h9 := h i (by omega) (by omega); rw [if_neg (by simp only []; omega)]
  rw [this]; simp [rv]
/-- the model's way to find: the symbol whose whole code is there, else a longer one that begins so -/
theorem Lw.fnd_some {l : Nat → Nat} {N : Nat} (h : Lw l N) {x hv s : Nat} (hs : s < N) (hh : hd l N s x) (hl : l s ≤ hv) : fnd l N x hv = (s, l s, 0) := by
  unfold fnd; rw [h.ln.own hs hh]; simp only []; rw [if_pos hl]
theorem Lw.fnd_open {l : Nat → Nat} {N : Nat} (h : Lw l N) {x hv t : Nat} (hx : x < 2 ^ hv) (hn : ∀ s, s < N → l s ≤ hv → ¬ hd l N s x) (ht : t < N) (h1 : hv < l t) (h2 : cd l N t % 2 ^ hv = x) : fnd l N x hv = (0, 0, 4) := by
  have key : ∃ s, s < N ∧ hd l N s x := by
    rcases h.f with e | e | ⟨s, s1, s2, s3⟩
    · exact h.ln.full e x
    · have := e t ht; omega
    · have hts : t = s := by
        by_cases q : t = s
        · exact q
        · have := s3 t ht q; omega
      subst hts
      have h0 : hv = 0 := by omega
      subst h0
      exact ⟨t, ht, by omega, by rw [cd_one s2 s3 ht, show x = 0 by simpa using hx]; simp⟩
  obtain ⟨s, s1, s2⟩ := key
  unfold fnd; rw [h.ln.own s1 s2]; simp only []
  rw [if_neg (fun e => hn s s1 e s2)]
theorem Lw.fnd_none {l : Nat → Nat} {N : Nat} (h : Lw l N) {x hv : Nat} (hx : x < 2 ^ hv) (hn : ∀ s, s < N → l s ≤ hv → ¬ hd l N s x) (ho : ∀ t, t < N → hv < l t → cd l N t % 2 ^ hv ≠ x) : fnd l N x hv = (0, 0, 8) := by
  unfold fnd
  cases e : Huf.own l N x N with
  | none => rfl
  | some s =>
    exfalso
    obtain ⟨s1, s2⟩ := own_some e
    rcases Nat.lt_or_ge hv (l s) with q | q
    · refine ho s s1 q ?_
      rw [← s2.2, pow_low (by omega), Nat.mod_eq_of_lt hx]
    · exact hn s s1 q s2
/-! ### the tables of two levels -/
/-- how many more bits the longer codes have that begin with p -/
def mx (l : Nat → Nat) (N p : Nat) : Nat → Nat
  | 0 => 0
  | s + 1 => if 6 < l s ∧ cd l N s % 64 = p then max (mx l N p s) (l s - 6) else mx l N p s
theorem mx_le {l : Nat → Nat} {N p : Nat} : ∀ {n t : Nat}, t < n → 6 < l t → cd l N t % 64 = p → l t - 6 ≤ mx l N p n := by
  intro n
  induction n with
  | zero => intro t h; omega
  | succ n ih =>
    intro t h h1 h2
    rw [mx]
    by_cases e : t = n
    · rw [if_pos ⟨e ▸ h1, e ▸ h2⟩, e]; omega
    · have := ih (t := t) (by omega) h1 h2; split <;> omega
theorem mx_ex {l : Nat → Nat} {N p : Nat} : ∀ {n : Nat}, 0 < mx l N p n → ∃ t, t < n ∧ 6 < l t ∧ cd l N t % 64 = p ∧ l t - 6 = mx l N p n := by
  intro n
  induction n with
  | zero => intro h; simp [mx] at h
  | succ n ih =>
    intro h
    rw [mx] at h ⊢
    by_cases e : 6 < l n ∧ cd l N n % 64 = p
    · rw [if_pos e] at h ⊢
      rcases Nat.lt_or_ge (l n - 6) (mx l N p n) with q | q
      · obtain ⟨t, t1, t2, t3, t4⟩ := ih (by omega); exact ⟨t, by omega, t2, t3, by omega⟩
      · exact ⟨n, by omega, e.1, e.2, by omega⟩
    · rw [if_neg e] at h ⊢
      obtain ⟨t, t1, t2, t3, t4⟩ := ih h; exact ⟨t, by omega, t2, t3, t4⟩
theorem mx_mono {l : Nat → Nat} {N p : Nat} {n m : Nat} (h : n ≤ m) : mx l N p n ≤ mx l N p m := by
  induction m with
  | zero => rw [show n = 0 by omega]; exact Nat.le_refl _
  | succ m ih =>
    by_cases e : n = m + 1
    · rw [e]; exact Nat.le_refl _
    · have := ih (by omega); rw [mx]; split <;> omega
theorem Ln.mx4 {l : Nat → Nat} {N : Nat} (h : Ln l N) (p : Nat) : mx l N p N ≤ 4 := by
  rcases Nat.eq_zero_or_pos (mx l N p N) with e | e
  · omega
  · obtain ⟨t, t1, t2, t3, t4⟩ := mx_ex e; have := h.le t t1; omega
/-- a short code and a longer one never begin alike -/
theorem Ln.excl {l : Nat → Nat} {N : Nat} (h : Ln l N) {p t : Nat} (ht : t < N) (hl : l t ≤ 6) (hh : hd l N t p) : mx l N p N = 0 := by
  rcases Nat.eq_zero_or_pos (mx l N p N) with e | e
  · exact e
  · exfalso
    obtain ⟨u, u1, u2, u3, _⟩ := mx_ex e
    have h1 : hd l N t (cd l N u) := ⟨hh.1, by
      rw [← hh.2, ← u3, show (64 : Nat) = 2 ^ 6 from rfl, pow_low hl]⟩
    have := h.uniq ht u1 h1 (Ln.hd_cd (by omega))
    subst this; omega
def wsz (l : Nat → Nat) (N p : Nat) : Nat := if 0 < mx l N p N then 2 ^ mx l N p N else 0
def tp (l : Nat → Nat) (N p : Nat) : Nat := sm (wsz l N) p
theorem tp_mono {l : Nat → Nat} {N p q : Nat} (h : p ≤ q) : tp l N p ≤ tp l N q := by
  unfold tp
  induction q with
  | zero => rw [show p = 0 by omega]; exact Nat.le_refl _
  | succ q ih =>
    by_cases e : p = q + 1
    · rw [e]; exact Nat.le_refl _
    · have := ih (by omega); rw [sm]; omega
theorem tp_next {l : Nat → Nat} {N p : Nat} (h : 0 < mx l N p N) : tp l N (p + 1) = tp l N p + 2 ^ mx l N p N := by unfold tp; rw [sm, wsz, if_pos h]
theorem tp_same {l : Nat → Nat} {N p : Nat} (h : mx l N p N = 0) : tp l N (p + 1) = tp l N p := by unfold tp; rw [sm, wsz, if_neg (by omega), Nat.add_zero]
theorem Ln.tp_le {l : Nat → Nat} {N : Nat} (h : Ln l N) : ∀ p, tp l N p ≤ 16 * p
  | 0 => Nat.le_refl _
  | p + 1 => by
    have := h.tp_le p
    have h4 := h.mx4 p
    rcases Nat.eq_zero_or_pos (mx l N p N) with e | e
    · rw [tp_same e]; omega
    · rw [tp_next e]
      have : 2 ^ mx l N p N ≤ 2 ^ 4 := Nat.pow_le_pow_right (by omega) h4
      omega
/-- the second tables lie one behind the other -/
theorem tp_apart {l : Nat → Nat} {N p q i j : Nat} (hp : 0 < mx l N p N) (hi : i < 2 ^ mx l N p N) (h : tp l N p + i = tp l N q + j) (hq : 0 < mx l N q N) (hj : j < 2 ^ mx l N q N) : p = q ∧ i = j := by
  have key : ∀ a b, a < b → 0 < mx l N a N → tp l N a + 2 ^ mx l N a N ≤ tp l N b := fun a b hab ha => by
    have := tp_mono (l := l) (N := N) (show a + 1 ≤ b from hab)
    rw [tp_next ha] at this; exact this
  rcases Nat.lt_trichotomy p q with e | e | e
  · have := key p q e hp; omega
  · subst e; exact ⟨rfl, by omega⟩
  · have := key q p e hq; omega
theorem tp_find {l : Nat → Nat} {N j : Nat} : ∀ {n : Nat}, j < tp l N n → ∃ p i, p < n ∧ 0 < mx l N p N ∧ i < 2 ^ mx l N p N ∧ j = tp l N p + i := by
  intro n
  induction n with
  | zero => intro h; simp [tp, sm] at h
  | succ n ih =>
    intro h
    rcases Nat.lt_or_ge j (tp l N n) with q | q
    · obtain ⟨p, i, p1, p2⟩ := ih q; exact ⟨p, i, by omega, p2⟩
    · rcases Nat.eq_zero_or_pos (mx l N n N) with e | e
      · rw [tp_same e] at h; omega
      · rw [tp_next e] at h; exact ⟨n, j - tp l N n, by omega, e, by omega, by omega⟩
/-- the first table, behind the symbols below s -/
structure R1 (l : Nat → Nat) (N s : Nat) (root : Nat → Int) : Prop where
  a : ∀ p, p < 64 → ∀ t, t < s → l t ≤ 6 → hd l N t p → root p = (t * 16 + l t : Nat)
  b : ∀ p, p < 64 → (∀ t, t < s → l t ≤ 6 → ¬ hd l N t p) → root p = -(mx l N p s : Int)
theorem R1.z (l : Nat → Nat) (N : Nat) {root : Nat → Int} (h : ∀ p, p < 64 → root p = 0) : R1 l N 0 root := ⟨fun p hp t ht => by omega, fun p hp _ => by rw [h p hp]; simp [mx]⟩
theorem R1.idle {l : Nat → Nat} {N s : Nat} {root : Nat → Int} (h : R1 l N s root) (h0 : l s = 0) : R1 l N (s + 1) root := by
  refine ⟨fun p hp t ht h1 h2 => ?_, fun p hp hn => ?_⟩
  · by_cases e : t = s
    · subst e; have := h2.1; omega
    · exact h.a p hp t (by omega) h1 h2
  · rw [h.b p hp (fun t ht => hn t (by omega)), mx, if_neg (by omega)]
theorem R1.long {l : Nat → Nat} {N s : Nat} {root : Nat → Int} (hL : Ln l N) (hs : s < N) (h : R1 l N s root) (h0 : 6 < l s) : R1 l N (s + 1) (if -(root (cd l N s % 64)) < (l s : Int) - 6 then ups root (cd l N s % 64) (6 - (l s : Int)) else root) := by
  generalize hp0 : cd l N s % 64 = p0
  have hp64 : p0 < 64 := by omega
  have noshort : ∀ t, t < N → l t ≤ 6 → ¬ hd l N t p0 := fun t ht h1 h2 => by
    have := hL.excl ht h1 h2
    have := mx_le hs h0 hp0; omega
  have hr0 := h.b p0 hp64 (fun t ht => noshort t (by omega))
  have hval : ∀ p, (if -(root p0) < (l s : Int) - 6 then ups root p0 (6 - (l s : Int)) else root) p = if p = p0 then -((max (mx l N p0 s) (l s - 6) : Nat) : Int) else root p := fun p => by
    by_cases q : p = p0
    · rw [if_pos q, q]
      split
      · rw [ups_eq]; omega
      · rw [hr0]; omega
    · rw [if_neg q]; split
      · rw [ups_ne _ _ q]
      · rfl
  refine ⟨fun p hp t ht h1 h2 => ?_, fun p hp hn => ?_⟩
  · rw [hval]
    have hts : t ≠ s := fun e => by subst e; omega
    have hpp : p ≠ p0 := fun e => noshort t (by omega) h1 (by rw [← e]; exact h2)
    rw [if_neg hpp]
    exact h.a p hp t (by omega) h1 h2
  · rw [hval]
    by_cases q : p = p0
    · rw [if_pos q, mx, if_pos ⟨h0, by rw [hp0, q]⟩, q]
    · rw [if_neg q, h.b p hp (fun t ht => hn t (by omega)), mx, if_neg (fun e => q (by rw [← e.2, hp0]))]
theorem R1.short {l : Nat → Nat} {N s : Nat} {root root' : Nat → Int} (hL : Ln l N) (hs : s < N) (h : R1 l N s root) (h0 : 0 < l s) (h6 : l s ≤ 6) (hr : ∀ p, p < 64 → root' p = if p % 2 ^ l s = cd l N s then ((s * 16 + l s : Nat) : Int) else root p) : R1 l N (s + 1) root' := by
  refine ⟨fun p hp t ht h1 h2 => ?_, fun p hp hn => ?_⟩
  · rw [hr p hp]
    by_cases e : p % 2 ^ l s = cd l N s
    · rw [if_pos e]
      have := hL.uniq (show t < N by omega) hs h2 ⟨h0, e⟩
      rw [this]
    · rw [if_neg e]
      exact h.a p hp t (by have : t ≠ s := fun q => e (q ▸ h2.2); omega) h1 h2
  · rw [hr p hp]
    rw [if_neg (fun e => hn s (by omega) h6 ⟨h0, e⟩), h.b p hp (fun t ht => hn t (by omega)), mx, if_neg (by omega)]
/-- both tables, as they shall be -/
structure TB (l : Nat → Nat) (N : Nat) (root sub : Nat → Int) (top : Nat) : Prop where
  a : ∀ p, p < 64 → ∀ t, t < N → l t ≤ 6 → hd l N t p → root p = (t * 16 + l t : Nat)
  b : ∀ p, p < 64 → 0 < mx l N p N → root p = -((tp l N p * 16 + mx l N p N : Nat) : Int)
  c : ∀ p, p < 64 → mx l N p N = 0 → (∀ t, t < N → l t ≤ 6 → ¬ hd l N t p) → root p = 0
  d : ∀ p, p < 64 → 0 < mx l N p N → ∀ j, j < 2 ^ mx l N p N → ∀ t, t < N → 6 < l t → hd l N t (p + 64 * j) → sub (tp l N p + j) = (t * 16 + l t : Nat)
  e : ∀ p, p < 64 → 0 < mx l N p N → ∀ j, j < 2 ^ mx l N p N → (∀ t, t < N → 6 < l t → ¬ hd l N t (p + 64 * j)) → sub (tp l N p + j) = 0
  t : top = tp l N 64
theorem TB.nil {root sub : Nat → Int} {top : Nat} (h : ∀ p, p < 64 → root p = 0) (ht : top = 0) : TB (fun _ => 0) 0 root sub top := by
  have hm : ∀ p, mx (fun _ => 0) 0 p 0 = 0 := fun p => rfl
  refine ⟨fun p hp t ht => by omega, fun p hp h2 => by rw [hm] at h2; omega, fun p hp _ _ => h p hp, fun p hp h2 => by rw [hm] at h2; omega, fun p hp h2 => by rw [hm] at h2; omega, ?_⟩
  rw [ht]; symm
  exact sm_zero fun i hi => by unfold wsz; rw [hm]; rfl
/-- the two loads -/
theorem TB.short {l : Nat → Nat} {N : Nat} {root sub : Nat → Int} {top : Nat} (h : TB l N root sub top) (hL : Ln l N) {x : Nat} (hr : 0 < root (x % 64)) : ∃ s, s < N ∧ hd l N s x ∧ root (x % 64) = (s * 16 + l s : Nat) := by
  have hp : x % 64 < 64 := Nat.mod_lt _ (by omega)
  by_cases q : ∃ t, t < N ∧ l t ≤ 6 ∧ hd l N t (x % 64)
  · obtain ⟨t, t1, t2, t3⟩ := q
    refine ⟨t, t1, ⟨t3.1, ?_⟩, h.a _ hp t t1 t2 t3⟩
    rw [← t3.2, show (64 : Nat) = 2 ^ 6 from rfl, pow_low t2]
  · have hn : ∀ t, t < N → l t ≤ 6 → ¬ hd l N t (x % 64) := fun t h1 h2 h3 => q ⟨t, h1, h2, h3⟩
    rcases Nat.eq_zero_or_pos (mx l N (x % 64) N) with e | e
    · rw [h.c _ hp e hn] at hr; omega
    · rw [h.b _ hp e] at hr; omega
theorem TB.link {l : Nat → Nat} {N : Nat} {root sub : Nat → Int} {top : Nat} (h : TB l N root sub top) {p : Nat} (hp : p < 64) (hr : root p < 0) : 0 < mx l N p N ∧ root p = -((tp l N p * 16 + mx l N p N : Nat) : Int) ∧ ∀ t, t < N → l t ≤ 6 → ¬ hd l N t p := by
  have hn : ∀ t, t < N → l t ≤ 6 → ¬ hd l N t p := fun t h1 h2 h3 => by rw [h.a p hp t h1 h2 h3] at hr; omega
  rcases Nat.eq_zero_or_pos (mx l N p N) with e | e
  · rw [h.c p hp e hn] at hr; omega
  · exact ⟨e, h.b p hp e, hn⟩
theorem hd_more {l : Nat → Nat} {N s x w : Nat} (h6 : 6 < l s) (hw : l s - 6 ≤ w) : hd l N s (x % 64 + 64 * (x / 64 % 2 ^ w)) ↔ hd l N s x := by
  have : (x % 64 + 64 * (x / 64 % 2 ^ w)) % 2 ^ l s = x % 2 ^ l s := by
    have e : x % 64 + 64 * (x / 64 % 2 ^ w) = x % 2 ^ (6 + w) := by
      rw [Nat.pow_add, show (2 : Nat) ^ 6 = 64 from rfl, Nat.mod_mul]
    rw [e, pow_low (by omega)]
  unfold hd; rw [this]
theorem TB.far {l : Nat → Nat} {N : Nat} {root sub : Nat → Int} {top : Nat} (h : TB l N root sub top) {x : Nat} (hr : root (x % 64) < 0) :
    (∃ s, s < N ∧ hd l N s x ∧ sub (tp l N (x % 64) + x / 64 % 2 ^ mx l N (x % 64) N) = (s * 16 + l s : Nat)) ∨ ((∀ s, s < N → ¬ hd l N s x) ∧ sub (tp l N (x % 64) + x / 64 % 2 ^ mx l N (x % 64) N) = 0) := by
  have hp : x % 64 < 64 := Nat.mod_lt _ (by omega)
  obtain ⟨h1, h2, h3⟩ := h.link hp hr
  have hj : x / 64 % 2 ^ mx l N (x % 64) N < 2 ^ mx l N (x % 64) N := Nat.mod_lt _ (Nat.pow_pos (by omega))
  have hlong : ∀ t, t < N → hd l N t x → 6 < l t ∧ cd l N t % 64 = x % 64 := fun t ht hh => by
    rcases Nat.lt_or_ge 6 (l t) with q | q
    · refine ⟨q, ?_⟩
      rw [← hh.2, show (64 : Nat) = 2 ^ 6 from rfl, pow_low (by omega)]
    · exfalso
      refine h3 t ht q ⟨hh.1, ?_⟩
      rw [← hh.2, show (64 : Nat) = 2 ^ 6 from rfl, pow_low q]
  by_cases q : ∃ s, s < N ∧ hd l N s x
  · left
    obtain ⟨s, s1, s2⟩ := q
    obtain ⟨t1, t2⟩ := hlong s s1 s2
    refine ⟨s, s1, s2, h.d _ hp h1 _ hj s s1 t1 ?_⟩
    exact (hd_more t1 (mx_le s1 t1 t2)).2 s2
  · right
    refine ⟨fun s h1 h2 => q ⟨s, h1, h2⟩, h.e _ hp h1 _ hj (fun t ht t6 hh => ?_)⟩
    have hc : cd l N t % 64 = x % 64 := by
      rw [← hh.2, show (64 : Nat) = 2 ^ 6 from rfl, pow_low (by omega), show (2 : Nat) ^ 6 = 64 from rfl]; omega
    exact q ⟨t, ht, (hd_more t6 (mx_le ht t6 hc)).1 hh⟩
theorem TB.zero {l : Nat → Nat} {N : Nat} {root sub : Nat → Int} {top : Nat} (h : TB l N root sub top) {x : Nat} (hr : root (x % 64) = 0) : ∀ s, s < N → ¬ hd l N s x := fun s hs hh => by
  have hp : x % 64 < 64 := Nat.mod_lt _ (by omega)
  have h0 := hh.1
  rcases Nat.lt_or_ge 6 (l s) with q | q
  · have hc : cd l N s % 64 = x % 64 := by rw [← hh.2, show (64 : Nat) = 2 ^ 6 from rfl, pow_low (by omega)]
    have h1 := mx_le hs q hc
    have := h.b _ hp (by omega)
    rw [hr] at this; omega
  · have := h.a _ hp s hs q ⟨h0, by rw [← hh.2, show (64 : Nat) = 2 ^ 6 from rfl, pow_low q]⟩
    rw [hr] at this; omega
end Go.Huf
