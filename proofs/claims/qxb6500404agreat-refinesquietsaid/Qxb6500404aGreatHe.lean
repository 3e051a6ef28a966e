import Derived.Test.Qxb6500404aGreatHd
set_option linter.unusedVariables false
set_option linter.unusedSimpArgs false
namespace Go.Huf
/-! ### the repair -/
abbrev btr (c l : Nat → Nat) (rare : Bool) (i b : Nat) : Prop := l b < l i ∨ (l i = l b ∧ if rare = true then c i < c b else c b < c i)
def sk (c l : Nat → Nat) (lo hi : Nat) (rare : Bool) : Nat → Option Nat
  | 0 => none
  | n + 1 => match sk c l lo hi rare n with
    | none => if lo ≤ l n ∧ l n ≤ hi then some n else none
    | some b => if (lo ≤ l n ∧ l n ≤ hi) ∧ btr c l rare n b then some n else some b
theorem sk_none {c l : Nat → Nat} {lo hi : Nat} {rare : Bool} : ∀ {n : Nat}, sk c l lo hi rare n = none → ∀ g, g < n → ¬ (lo ≤ l g ∧ l g ≤ hi) := by
  intro n
  induction n with
  | zero => intro _ g hg; omega
  | succ n ih =>
    intro h g hg
    rw [sk] at h
    cases e : sk c l lo hi rare n with
    | none =>
      rw [e] at h; simp only [] at h
      split at h
      · cases h
      · rename_i q
        by_cases r : g = n
        · rw [r]; exact q
        · exact ih e g (by omega)
    | some b => rw [e] at h; simp only [] at h; split at h <;> cases h
theorem sk_some {c l : Nat → Nat} {lo hi : Nat} {rare : Bool} : ∀ {n b : Nat}, sk c l lo hi rare n = some b → b < n ∧ lo ≤ l b ∧ l b ≤ hi ∧ ∀ g, g < n → lo ≤ l g → l g ≤ hi → l g ≤ l b := by
  intro n
  induction n with
  | zero => intro b h; cases h
  | succ n ih =>
    intro b h
    rw [sk] at h
    cases e : sk c l lo hi rare n with
    | none =>
      rw [e] at h; simp only [] at h
      split at h
      · rename_i q; cases h
        refine ⟨by omega, q.1, q.2, fun g hg h1 h2 => ?_⟩
        by_cases r : g = n
        · rw [r]; exact Nat.le_refl _
        · exact absurd ⟨h1, h2⟩ (sk_none e g (by omega))
      · cases h
    | some b0 =>
      obtain ⟨h1, h2, h3, h4⟩ := ih e
      rw [e] at h; simp only [] at h
      split at h
      · rename_i q; cases h
        refine ⟨by omega, q.1.1, q.1.2, fun g hg t1 t2 => ?_⟩
        by_cases r : g = n
        · rw [r]; exact Nat.le_refl _
        · have := h4 g (by omega) t1 t2
          have hb := q.2; unfold btr at hb; omega
      · rename_i q; cases h
        refine ⟨by omega, h2, h3, fun g hg t1 t2 => ?_⟩
        by_cases r : g = n
        · rw [r] at t1 t2 ⊢
          rcases Nat.lt_or_ge (l b) (l n) with t | t
          · exact absurd ⟨⟨t1, t2⟩, by unfold btr; exact .inl t⟩ q
          · exact t
        · exact h4 g (by omega) t1 t2
/-- Kraft's sum of lengths, in units of 2^-L -/
def kk (L : Nat) (l : Nat → Nat) (N : Nat) : Nat := sm (fun i => if 0 < l i then 2 ^ (L - l i) else 0) N
def cut (L : Nat) (l : Nat → Nat) (i : Nat) : Nat := if L < l i then L else l i
def m1 (N : Nat) (c : Nat → Nat) (L : Nat) : Nat → (Nat → Nat) → (Nat → Nat)
  | 0, l => l
  | f + 1, l => if 2 ^ L < kk L l N then (match sk c l 1 (L - 1) true N with | some i => m1 N c L f (ups l i (l i + 1)) | none => l) else l
def m2 (N : Nat) (c : Nat → Nat) (L : Nat) : Nat → (Nat → Nat) → (Nat → Nat)
  | 0, l => l
  | f + 1, l => if kk L l N < 2 ^ L then (match sk c l 2 L false N with | some i => m2 N c L f (ups l i (l i - 1)) | none => l) else l
/-- what the repair keeps -/
structure MI (N : Nat) (c : Nat → Nat) (L : Nat) (l : Nat → Nat) : Prop where
  z : ∀ i, i < N → (l i = 0 ↔ c i = 0)
  le : ∀ i, l i ≤ L
theorem MI.cut {N : Nat} {c : Nat → Nat} {L : Nat} {l : Nat → Nat} (hL : 1 ≤ L) (h : ∀ i, i < N → (l i = 0 ↔ c i = 0)) : MI N c L (cut L l) := ⟨fun i hi => by
  have := h i hi
  unfold Huf.cut; split
  · omega
  · exact this, fun i => by unfold Huf.cut; split <;> omega⟩
theorem kk_used {N L : Nat} {c l : Nat → Nat} (h : MI N c L l) : kk L l N = kr L c l N := sm_congr fun i hi => by
  have := h.z i hi
  by_cases e : 0 < c i
  · rw [if_pos e, if_pos (by omega)]
  · rw [if_neg e, if_neg (by omega)]
theorem kk_up {N L : Nat} {l : Nat → Nat} {i : Nat} (hi : i < N) (h1 : 0 < l i) (h2 : l i < L) : kk L l N = kk L (ups l i (l i + 1)) N + 2 ^ (L - (l i + 1)) := by
  have := sm_one (f := fun j => if 0 < l j then 2 ^ (L - l j) else 0) (g := fun j => if 0 < ups l i (l i + 1) j then 2 ^ (L - ups l i (l i + 1) j) else 0) hi (fun j hj e => by simp only [ups_ne _ _ e])
  simp only [ups_eq, if_pos h1, if_pos (show 0 < l i + 1 by omega)] at this
  have hp : 2 ^ (L - l i) = 2 ^ (L - (l i + 1)) + 2 ^ (L - (l i + 1)) := by rw [show L - l i = (L - (l i + 1)) + 1 by omega, Nat.pow_succ]; omega
  unfold kk; omega
theorem kk_dn {N L : Nat} {l : Nat → Nat} {i : Nat} (hi : i < N) (h1 : 2 ≤ l i) (h2 : l i ≤ L) : kk L (ups l i (l i - 1)) N = kk L l N + 2 ^ (L - l i) := by
  have := sm_one (f := fun j => if 0 < l j then 2 ^ (L - l j) else 0) (g := fun j => if 0 < ups l i (l i - 1) j then 2 ^ (L - ups l i (l i - 1) j) else 0) hi (fun j hj e => by simp only [ups_ne _ _ e])
  simp only [ups_eq, if_pos (show 0 < l i by omega), if_pos (show 0 < l i - 1 by omega)] at this
  have hp : 2 ^ (L - (l i - 1)) = 2 ^ (L - l i) + 2 ^ (L - l i) := by rw [show L - (l i - 1) = (L - l i) + 1 by omega, Nat.pow_succ]; omega
  unfold kk; omega
theorem MI.find1 {N : Nat} {c : Nat → Nat} {L : Nat} {l : Nat → Nat} (h : MI N c L l) (hu : liv c N ≤ 2 ^ L) (hk : 2 ^ L < kk L l N) : ∃ i, sk c l 1 (L - 1) true N = some i := by
  cases e : sk c l 1 (L - 1) true N with
  | some i => exact ⟨i, rfl⟩
  | none =>
    exfalso
    have hn := sk_none e
    have : kk L l N ≤ liv c N := by
      rw [kk_used h]
      refine sm_le fun i hi => ?_
      by_cases q : 0 < c i
      · rw [if_pos q, if_pos q]
        have := hn i hi; have := h.z i hi; have := h.le i
        rw [show L - l i = 0 by omega]; exact Nat.le_refl _
      · rw [if_neg q, if_neg q]; exact Nat.le_refl _
    omega
theorem MI.step1 {N : Nat} {c : Nat → Nat} {L : Nat} {l : Nat → Nat} (h : MI N c L l) {i : Nat} (hs : sk c l 1 (L - 1) true N = some i) (hL : 1 ≤ L) : i < N ∧ 1 ≤ l i ∧ l i < L ∧ MI N c L (ups l i (l i + 1)) ∧ kk L l N = kk L (ups l i (l i + 1)) N + 2 ^ (L - (l i + 1)) := by
  obtain ⟨s1, s2, s3, _⟩ := sk_some hs
  refine ⟨s1, s2, by omega, ⟨fun j hj => ?_, fun j => ?_⟩, kk_up s1 (by omega) (by omega)⟩
  · by_cases e : j = i
    · rw [e, ups_eq]; have := h.z i s1; omega
    · rw [ups_ne _ _ e]; exact h.z j hj
  · by_cases e : j = i
    · rw [e, ups_eq]; omega
    · rw [ups_ne _ _ e]; exact h.le j
theorem MI.find2 {N : Nat} {c : Nat → Nat} {L : Nat} {l : Nat → Nat} (h : MI N c L l) (hL : 1 ≤ L) (hu : 2 ≤ liv c N) (hk : kk L l N < 2 ^ L) : ∃ i, sk c l 2 L false N = some i := by
  cases e : sk c l 2 L false N with
  | some i => exact ⟨i, rfl⟩
  | none =>
    exfalso
    have hn := sk_none e
    have : 2 ^ (L - 1) * liv c N ≤ kk L l N := by
      rw [kk_used h]; unfold liv ct kr
      rw [← sm_mul]
      refine sm_le fun i hi => ?_
      by_cases q : 0 < c i
      · rw [if_pos q, if_pos q]
        have := hn i hi; have := h.z i hi; have := h.le i
        rw [show l i = 1 by omega, Nat.mul_one]; exact Nat.le_refl _
      · rw [if_neg q, if_neg q]; exact Nat.le_refl _
    have h2 : 2 ^ (L - 1) * 2 ≤ 2 ^ (L - 1) * liv c N := Nat.mul_le_mul_left _ hu
    have h3 : 2 ^ L = 2 ^ (L - 1) * 2 := by rw [← Nat.pow_succ]; congr 1; omega
    omega
theorem MI.step2 {N : Nat} {c : Nat → Nat} {L : Nat} {l : Nat → Nat} (h : MI N c L l) {i : Nat} (hs : sk c l 2 L false N = some i) (hk : kk L l N < 2 ^ L) : i < N ∧ 2 ≤ l i ∧ l i ≤ L ∧ MI N c L (ups l i (l i - 1)) ∧ kk L (ups l i (l i - 1)) N = kk L l N + 2 ^ (L - l i) ∧ kk L (ups l i (l i - 1)) N ≤ 2 ^ L := by
  obtain ⟨s1, s2, s3, s4⟩ := sk_some hs
  have hk2 := kk_dn (l := l) s1 s2 s3
  refine ⟨s1, s2, s3, ⟨fun j hj => ?_, fun j => ?_⟩, hk2, ?_⟩
  · by_cases e : j = i
    · rw [e, ups_eq]; have := h.z i s1; omega
    · rw [ups_ne _ _ e]; exact h.z j hj
  · by_cases e : j = i
    · rw [e, ups_eq]; omega
    · rw [ups_ne _ _ e]; exact h.le j
  · rw [hk2]
    have hd : 2 ^ (L - l i) ∣ kk L l N := sm_dvd fun j hj => by
      split
      · refine Nat.pow_dvd_pow 2 ?_
        have := h.le j
        by_cases q : 2 ≤ l j
        · have := s4 j hj q (by omega); omega
        · omega
      · exact Nat.dvd_zero _
    obtain ⟨p, hp⟩ := hd
    obtain ⟨q, hq⟩ : 2 ^ (L - l i) ∣ 2 ^ L := Nat.pow_dvd_pow 2 (by omega)
    have hpq : p < q := by
      rcases Nat.lt_or_ge p q with t | t
      · exact t
      · have : 2 ^ (L - l i) * q ≤ 2 ^ (L - l i) * p := Nat.mul_le_mul_left _ t
        omega
    have : 2 ^ (L - l i) * (p + 1) ≤ 2 ^ (L - l i) * q := Nat.mul_le_mul_left _ hpq
    rw [Nat.mul_add] at this
    omega
/-- room below the limit: what the first loop has left -/
def rm (L : Nat) (l : Nat → Nat) (N : Nat) : Nat := sm (fun i => L - l i) N
theorem rm_up {N L : Nat} {l : Nat → Nat} {i : Nat} (hi : i < N) (h : l i < L) : rm L l N = rm L (ups l i (l i + 1)) N + 1 := by
  have := sm_one (f := fun j => L - l j) (g := fun j => L - ups l i (l i + 1) j) hi (fun j hj e => by simp only [ups_ne _ _ e])
  simp only [ups_eq] at this
  unfold rm; omega
theorem m1_end {N : Nat} {c : Nat → Nat} {L : Nat} {l : Nat → Nat} (h : ¬ 2 ^ L < kk L l N) : ∀ f, m1 N c L f l = l
  | 0 => rfl
  | f + 1 => by rw [m1, if_neg h]
theorem m1_go {N : Nat} {c : Nat → Nat} {L : Nat} {l : Nat → Nat} {i f : Nat} (h : 2 ^ L < kk L l N) (hs : sk c l 1 (L - 1) true N = some i) : m1 N c L (f + 1) l = m1 N c L f (ups l i (l i + 1)) := by rw [m1, if_pos h, hs]
theorem m2_end {N : Nat} {c : Nat → Nat} {L : Nat} {l : Nat → Nat} (h : ¬ kk L l N < 2 ^ L) : ∀ f, m2 N c L f l = l
  | 0 => rfl
  | f + 1 => by rw [m2, if_neg h]
theorem m2_go {N : Nat} {c : Nat → Nat} {L : Nat} {l : Nat → Nat} {i f : Nat} (h : kk L l N < 2 ^ L) (hs : sk c l 2 L false N = some i) : m2 N c L (f + 1) l = m2 N c L f (ups l i (l i - 1)) := by rw [m2, if_pos h, hs]
theorem m1_ok {N : Nat} {c : Nat → Nat} {L : Nat} (hL : 1 ≤ L) (hu : liv c N ≤ 2 ^ L) : ∀ (f : Nat) (l : Nat → Nat), MI N c L l → rm L l N ≤ f → MI N c L (m1 N c L f l) ∧ kk L (m1 N c L f l) N ≤ 2 ^ L := by
  intro f
  induction f with
  | zero =>
    intro l h hr
    refine ⟨h, ?_⟩
    rcases Nat.lt_or_ge (2 ^ L) (kk L l N) with q | q
    · obtain ⟨i, hs⟩ := h.find1 hu q
      obtain ⟨s1, s2, s3, _⟩ := h.step1 hs hL
      have := rm_up s1 s3; omega
    · exact q
  | succ f ih =>
    intro l h hr
    by_cases q : 2 ^ L < kk L l N
    · obtain ⟨i, hs⟩ := h.find1 hu q
      obtain ⟨s1, s2, s3, s4, _⟩ := h.step1 hs hL
      have := rm_up s1 s3
      rw [m1_go q hs]
      exact ih _ s4 (by omega)
    · rw [m1_end q]; exact ⟨h, by omega⟩
theorem m2_ok {N : Nat} {c : Nat → Nat} {L : Nat} (hL : 1 ≤ L) (hu : 2 ≤ liv c N) : ∀ (f : Nat) (l : Nat → Nat), MI N c L l → kk L l N ≤ 2 ^ L → 2 ^ L - kk L l N ≤ f → MI N c L (m2 N c L f l) ∧ kk L (m2 N c L f l) N = 2 ^ L := by
  intro f
  induction f with
  | zero => intro l h h1 h2; exact ⟨h, by rw [m2]; omega⟩
  | succ f ih =>
    intro l h h1 h2
    by_cases q : kk L l N < 2 ^ L
    · obtain ⟨i, hs⟩ := h.find2 hL hu q
      obtain ⟨s1, s2, s3, s4, s5, s6⟩ := h.step2 hs q
      rw [m2_go q hs]
      have : 0 < 2 ^ (L - l i) := Nat.pow_pos (by omega)
      exact ih _ s4 s6 (by omega)
    · rw [m2_end q]; exact ⟨h, by omega⟩
/-- THE REPAIR: fuel enough for both loops -/
def mend (N : Nat) (c : Nat → Nat) (L : Nat) (l : Nat → Nat) : Nat → Nat := m2 N c L (2 ^ L) (m1 N c L (L * N) (cut L l))
theorem rm_le {N L : Nat} (l : Nat → Nat) : rm L l N ≤ L * N := by
  unfold rm
  induction N with
  | zero => simp [sm]
  | succ N ih => rw [sm, Nat.mul_add, Nat.mul_one]; omega
theorem mend_ok {N : Nat} {c : Nat → Nat} {L : Nat} {l : Nat → Nat} (hL : 1 ≤ L) (hu : liv c N ≤ 2 ^ L) (h2 : 2 ≤ liv c N) (h : ∀ i, i < N → (l i = 0 ↔ c i = 0)) : MI N c L (mend N c L l) ∧ kk L (mend N c L l) N = 2 ^ L := by
  obtain ⟨a1, a2⟩ := m1_ok hL hu (L * N) _ (MI.cut hL h) (rm_le _)
  exact m2_ok hL h2 (2 ^ L) _ a1 a2 (Nat.sub_le _ _)
theorem kk_cong {N L : Nat} {l l' : Nat → Nat} (h : ∀ i, i < N → l i = l' i) : kk L l N = kk L l' N := sm_congr fun i hi => by simp only [h i hi]
theorem mend_fit {N : Nat} {c : Nat → Nat} {L : Nat} {l : Nat → Nat} (h : ∀ i, l i ≤ L) (hk : kk L l N = 2 ^ L) : mend N c L l = l := by
  have hc : cut L l = l := by funext i; unfold cut; have := h i; rw [if_neg (by omega)]
  unfold mend; rw [hc, m1_end (by omega), m2_end (by omega)]
end Go.Huf
