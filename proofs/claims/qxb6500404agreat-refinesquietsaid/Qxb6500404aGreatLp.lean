import Derived.Test.Qxb6500404aGreatEh
set_option linter.unusedVariables false
set_option linter.unusedSimpArgs false
namespace Go.Lz
open Go.Eng

theorem bAt_lt (s : ByteArray) (n : Nat) : bAt s n < 256 := by unfold bAt; exact UInt8.toNat_lt _

/-- the last six bits -/
def low6 (v : Int) : Int := IntKind.i64.wrap (BitVec.ofInt IntKind.i64.bits v &&& BitVec.ofInt IntKind.i64.bits 63).toNat
/-- the hash of three bytes, as Go's operators reckon it -/
def hx (x y z : Int) : Int :=
  low6 (IntKind.i64.wrap (BitVec.ofInt IntKind.i64.bits (IntKind.i64.wrap (BitVec.ofInt IntKind.i64.bits (IntKind.i64.wrap (x * 2 ^ min (Int.toNat 4) IntKind.i64.bits)) ^^^
    BitVec.ofInt IntKind.i64.bits (IntKind.i64.wrap (y * 2 ^ min (Int.toNat 2) IntKind.i64.bits))).toNat) ^^^ BitVec.ofInt IntKind.i64.bits z).toNat)
theorem low6_range (v : Int) : 0 ≤ low6 v ∧ low6 v < 64 := by
  unfold low6
  have h1 : (BitVec.ofInt IntKind.i64.bits v &&& BitVec.ofInt IntKind.i64.bits 63).toNat ≤ 63 := by
    rw [BitVec.toNat_and]
    refine Nat.le_trans Nat.and_le_right ?_
    decide
  rw [wrap_i64 (by omega) (by omega)]
  omega
theorem hx_range (x y z : Int) : 0 ≤ hx x y z ∧ hx x y z < 64 := low6_range _
def hashF (s : ByteArray) (p : Nat) : Int := hx (bAt s p) (bAt s (p + 1)) (bAt s (p + 2))
theorem hash_range (s : ByteArray) (p : Nat) : 0 ≤ hashF s p ∧ hashF s p < 64 := hx_range _ _ _
theorem hash_congr {s : ByteArray} {p q : Nat} (h : ∀ j, j < 3 → bAt s (p + j) = bAt s (q + j)) : hashF s p = hashF s q := by
  unfold hashF
  have h0 := h 0 (by omega); have h1 := h 1 (by omega); have h2 := h 2 (by omega)
  simp only [Nat.add_zero] at h0
  rw [h0, h1, h2]

/-! ### spans -/
def spanF (s : ByteArray) : Nat → Nat → Nat → Nat
  | _, _, 0 => 0
  | c, i, lim + 1 => if bAt s c = bAt s i then spanF s (c + 1) (i + 1) lim + 1 else 0
theorem span_le (s : ByteArray) : ∀ (lim c i : Nat), spanF s c i lim ≤ lim
  | 0, c, i => Nat.le_refl _
  | lim + 1, c, i => by
    simp only [spanF]
    have := span_le s lim (c + 1) (i + 1)
    split <;> omega
theorem span_eq (s : ByteArray) : ∀ (lim c i j : Nat), j < spanF s c i lim → bAt s (c + j) = bAt s (i + j)
  | 0, c, i, j, h => by simp [spanF] at h
  | lim + 1, c, i, j, h => by
    simp only [spanF] at h
    split at h
    · rename_i e
      cases j with
      | zero => exact e
      | succ j =>
        have := span_eq s lim (c + 1) (i + 1) j (by omega)
        rw [show c + (j + 1) = c + 1 + j by omega, show i + (j + 1) = i + 1 + j by omega]; exact this
    · omega
theorem span_stop (s : ByteArray) : ∀ (lim c i : Nat), spanF s c i lim < lim → bAt s (c + spanF s c i lim) ≠ bAt s (i + spanF s c i lim)
  | 0, c, i, h => by omega
  | lim + 1, c, i, h => by
    simp only [spanF] at h ⊢
    split at h
    · rename_i e
      rw [if_pos e]
      have := span_stop s lim (c + 1) (i + 1) (by omega)
      rw [show c + (spanF s (c + 1) (i + 1) lim + 1) = c + 1 + spanF s (c + 1) (i + 1) lim by omega, show i + (spanF s (c + 1) (i + 1) lim + 1) = i + 1 + spanF s (c + 1) (i + 1) lim by omega]
      exact this
    · rename_i e
      rw [if_neg e]; exact e
theorem span_uniq {s : ByteArray} {lim c i n : Nat} (h1 : n ≤ lim) (h2 : ∀ j, j < n → bAt s (c + j) = bAt s (i + j)) (h3 : n = lim ∨ bAt s (c + n) ≠ bAt s (i + n)) : spanF s c i lim = n := by
  have a1 := span_le s lim c i
  rcases Nat.lt_trichotomy (spanF s c i lim) n with h | h | h
  · exact absurd (h2 _ h) (span_stop s lim c i (by omega))
  · exact h
  · rcases h3 with h3 | h3
    · omega
    · exact absurd (span_eq s lim c i n h) h3

/-! ### the best match -/
def limF (s : ByteArray) (i : Nat) : Nat := min 10 (s.size - i)
def bestTo (s : ByteArray) (i : Nat) : Nat → Nat × Nat
  | 0 => (0, 0)
  | d + 1 => if (bestTo s i d).1 < spanF s (i - (d + 1)) i (limF s i) then (spanF s (i - (d + 1)) i (limF s i), d + 1) else bestTo s i d
def bestF (s : ByteArray) (i : Nat) : Nat × Nat := if (bestTo s i (min 16 i)).1 < 3 then (0, 0) else bestTo s i (min 16 i)

theorem bestTo_le (s : ByteArray) (i : Nat) : ∀ d, (bestTo s i d).1 ≤ limF s i
  | 0 => Nat.zero_le _
  | d + 1 => by
    simp only [bestTo]
    split
    · exact span_le _ _ _ _
    · exact bestTo_le s i d
/-- what the best is: a span at its distance -/
theorem bestTo_is (s : ByteArray) (i : Nat) : ∀ d, 0 < (bestTo s i d).1 → 1 ≤ (bestTo s i d).2 ∧ (bestTo s i d).2 ≤ d ∧ (bestTo s i d).1 = spanF s (i - (bestTo s i d).2) i (limF s i)
  | 0, h => by simp [bestTo] at h
  | d + 1, h => by
    simp only [bestTo] at h ⊢
    split
    · exact ⟨by simp, by simp, rfl⟩
    · rename_i hn
      rw [if_neg hn] at h
      obtain ⟨a, b, c⟩ := bestTo_is s i d h
      exact ⟨a, by omega, c⟩
theorem best_range {s : ByteArray} {i : Nat} (h : (bestF s i).1 ≠ 0) : 3 ≤ (bestF s i).1 ∧ (bestF s i).1 ≤ 10 ∧ 1 ≤ (bestF s i).2 ∧ (bestF s i).2 ≤ 16 ∧ (bestF s i).2 ≤ i ∧ i + (bestF s i).1 ≤ s.size ∧
    ∀ j, j < (bestF s i).1 → bAt s (i - (bestF s i).2 + j) = bAt s (i + j) := by
  unfold bestF at *
  split at h
  · simp at h
  · rename_i hn
    rw [if_neg hn]
    have h1 := bestTo_le s i (min 16 i)
    obtain ⟨a, b, c⟩ := bestTo_is s i (min 16 i) (by omega)
    have hl : limF s i ≤ 10 ∧ limF s i ≤ s.size - i := by unfold limF; omega
    refine ⟨by omega, by omega, a, by omega, by omega, by omega, fun j hj => ?_⟩
    rw [c] at hj
    exact span_eq s _ _ _ j hj
theorem best_zero {s : ByteArray} {i : Nat} (h : s.size < i + 3) : bestF s i = (0, 0) := by
  unfold bestF
  rw [if_pos]
  have := bestTo_le s i (min 16 i)
  unfold limF at this
  omega
theorem best_snd {s : ByteArray} {i : Nat} (h : (bestF s i).1 = 0) : bestF s i = (0, 0) := by
  unfold bestF at *
  split
  · rfl
  · rename_i hn; rw [if_neg hn] at h; omega

/-- the lead, as the chain's walk holds it -/
def norm (r : Nat × Nat) : Nat × Nat := if r.1 < 3 then (2, 0) else r
theorem norm_skip {s : ByteArray} {i d : Nat} (h : spanF s (i - (d + 1)) i (limF s i) < 3) : norm (bestTo s i (d + 1)) = norm (bestTo s i d) := by
  simp only [bestTo]
  split
  · unfold norm
    rw [if_pos h, if_pos (by omega)]
  · rfl
theorem norm_full {s : ByteArray} {i d d' : Nat} (h : limF s i ≤ (bestTo s i d).1) (hd : d ≤ d') : bestTo s i d' = bestTo s i d := by
  induction d' with
  | zero => have : d = 0 := by omega
            subst this; rfl
  | succ e ih =>
    by_cases he : d = e + 1
    · subst he; rfl
    · have ih' := ih (by omega)
      have := span_le s (limF s i) (i - (e + 1)) i
      simp only [bestTo]
      rw [if_neg (by rw [ih']; omega), ih']
theorem best_norm (s : ByteArray) (i : Nat) (p : Nat × Nat) (h : norm (bestTo s i (min 16 i)) = p) : bestF s i = if p.2 = 0 then (0, 0) else p := by
  subst h
  unfold norm bestF
  split
  · simp
  · rename_i hn
    have := bestTo_is s i (min 16 i) (by omega)
    rw [if_neg (by omega)]

/-! ### chains -/
def lastF (s : ByteArray) (k : Int) : Nat → Int
  | 0 => -1
  | i + 1 => if i + 3 ≤ s.size ∧ hashF s i = k then i else lastF s k i
theorem last_is (s : ByteArray) (k : Int) : ∀ i, lastF s k i = -1 ∨ ∃ p : Nat, lastF s k i = p ∧ p < i ∧ p + 3 ≤ s.size ∧ hashF s p = k
  | 0 => .inl rfl
  | i + 1 => by
    simp only [lastF]
    split
    · rename_i h; exact .inr ⟨i, rfl, by omega, h.1, h.2⟩
    · rcases last_is s k i with h | ⟨p, h1, h2, h3, h4⟩
      · exact .inl h
      · exact .inr ⟨p, h1, by omega, h3, h4⟩
theorem last_none (s : ByteArray) (k : Int) : ∀ (i q : Nat), lastF s k i < (q : Int) → q < i → q + 3 ≤ s.size → hashF s q ≠ k
  | 0, q, _, h, _ => by omega
  | i + 1, q, h, hq, h3 => by
    simp only [lastF] at h
    split at h
    · omega
    · rename_i hn
      by_cases e : q = i
      · subst e; exact fun hk => hn ⟨h3, hk⟩
      · exact last_none s k i q h (by omega) h3
theorem last_lt (s : ByteArray) (k : Int) (i : Nat) : -1 ≤ lastF s k i ∧ lastF s k i < i := by
  rcases last_is s k i with h | ⟨p, h1, h2, _⟩ <;> omega

structure MS where
  hd : Nat → Int
  pv : Nat → Int
  tk : Nat → Int
  n : Nat
  pr : Nat

def upd (f : Nat → Int) (i : Nat) (v : Int) : Nat → Int := fun j => if j = i then v else f j
def enterF (s : ByteArray) (p : Nat) (st : MS) : MS :=
  if p + 3 ≤ s.size then { st with pv := upd st.pv (p % 16) (st.hd (hashF s p).toNat), hd := upd st.hd (hashF s p).toNat p } else st
def enterTo (s : ByteArray) (p : Nat) : Nat → MS → MS
  | 0, st => st
  | k + 1, st => enterF s (p + k) (enterTo s p k st)
/-- just the places below i are entered -/
def Ch (s : ByteArray) (i : Nat) (st : MS) : Prop :=
  (∀ k : Nat, k < 64 → st.hd k = lastF s k i) ∧ ∀ p, p < i → i ≤ p + 16 → p + 3 ≤ s.size → st.pv (p % 16) = lastF s (hashF s p) p
theorem ch_zero (s : ByteArray) (st : MS) (h : ∀ k, k < 64 → st.hd k = -1) : Ch s 0 st := ⟨fun k hk => by rw [h k hk]; rfl, fun p hp => by omega⟩
theorem ch_enter {s : ByteArray} {p : Nat} {st : MS} (h : Ch s p st) : Ch s (p + 1) (enterF s p st) := by
  obtain ⟨h1, h2⟩ := h
  have hr := hash_range s p
  unfold enterF
  split
  · rename_i hp
    refine ⟨fun k hk => ?_, fun q hq hw h3 => ?_⟩
    · simp only [upd, lastF]
      by_cases e : k = (hashF s p).toNat
      · rw [if_pos e, if_pos ⟨hp, by omega⟩]
      · rw [if_neg e, if_neg (by omega), h1 k hk]
    · simp only [upd]
      by_cases e : q = p
      · subst e
        rw [if_pos rfl, h1 _ (by omega)]
        congr 1
        omega
      · rw [if_neg (by omega)]
        exact h2 q (by omega) (by omega) h3
  · rename_i hp
    refine ⟨fun k hk => ?_, fun q hq hw h3 => ?_⟩
    · rw [h1 k hk]; simp only [lastF]; rw [if_neg (by omega)]
    · have : q ≠ p := by omega
      exact h2 q (by omega) (by omega) h3
theorem ch_enterTo {s : ByteArray} {p : Nat} {st : MS} (h : Ch s p st) : ∀ k, Ch s (p + k) (enterTo s p k st)
  | 0 => h
  | k + 1 => ch_enter (ch_enterTo h k)
/-- what entering leaves alone -/
theorem enter_same (s : ByteArray) (p : Nat) (st : MS) : (enterF s p st).tk = st.tk ∧ (enterF s p st).n = st.n ∧ (enterF s p st).pr = st.pr := by
  unfold enterF; split <;> simp
theorem enterTo_same (s : ByteArray) (p : Nat) (st : MS) : ∀ k, (enterTo s p k st).tk = st.tk ∧ (enterTo s p k st).n = st.n ∧ (enterTo s p k st).pr = st.pr
  | 0 => ⟨rfl, rfl, rfl⟩
  | k + 1 => by
    have h1 := enter_same s (p + k) (enterTo s p k st)
    have h2 := enterTo_same s p st k
    simp only [enterTo]
    exact ⟨h1.1.trans h2.1, h1.2.1.trans h2.2.1, h1.2.2.trans h2.2.2⟩

/-- every number of the chains in its range -/
def RI (st : MS) : Prop := (∀ k, k < 64 → -1 ≤ st.hd k ∧ st.hd k < 256) ∧ ∀ k, k < 16 → -1 ≤ st.pv k ∧ st.pv k < 256
theorem ri_enter {s : ByteArray} {p : Nat} {st : MS} (h : RI st) (hs : s.size ≤ 256) : RI (enterF s p st) := by
  have hr := hash_range s p
  unfold enterF
  split
  · refine ⟨fun k hk => ?_, fun k hk => ?_⟩
    · simp only [upd]; split
      · omega
      · exact h.1 k hk
    · simp only [upd]; split
      · exact h.1 _ (by omega)
      · exact h.2 k hk
  · exact h
theorem ri_enterTo {s : ByteArray} {p : Nat} {st : MS} (h : RI st) (hs : s.size ≤ 256) : ∀ k, RI (enterTo s p k st)
  | 0 => h
  | k + 1 => ri_enter (ri_enterTo h hs k) hs
/-- the places of the window from lo on that bear i's hash -/
def cnt (s : ByteArray) (i : Nat) : Nat → Nat
  | 0 => 0
  | d + 1 => cnt s i d + (if d + 1 ≤ i ∧ hashF s (i - (d + 1)) = hashF s i then 1 else 0)
def roomF (s : ByteArray) (i : Nat) : Nat := if s.size < i + 3 then 0 else cnt s i 16
theorem cnt_mono (s : ByteArray) (i : Nat) {d d' : Nat} (h : d ≤ d') : cnt s i d ≤ cnt s i d' := by
  induction d' with
  | zero => have : d = 0 := by omega
            subst this; exact Nat.le_refl _
  | succ e ih =>
    by_cases he : d = e + 1
    · subst he; exact Nat.le_refl _
    · have := ih (by omega)
      simp only [cnt]; omega

/-- the chain's walk stands at candidate c, with the lead (best, dist), k probes made -/
structure SeekI (s : ByteArray) (i : Nat) (c : Int) (best dist k : Nat) : Prop where
  lo : -1 ≤ c
  hi : c < i
  lead : norm (bestTo s i (min 16 (i - 1 - c).toNat)) = (best, dist)
  probes : k = cnt s i (min 16 (i - 1 - c).toNat)
  on : c ≠ -1 → hashF s c.toNat = hashF s i ∧ c.toNat + 3 ≤ s.size

/-- from place e down to c (both excluded) nobody bears the hash -/
theorem skip_gap {s : ByteArray} {i : Nat} (h3 : i + 3 ≤ s.size) {d : Nat} : ∀ g, (∀ j, d < j → j ≤ d + g → j ≤ 16 → j ≤ i → hashF s (i - j) ≠ hashF s i) → d + g ≤ i →
    norm (bestTo s i (min 16 (d + g))) = norm (bestTo s i (min 16 d)) ∧ cnt s i (min 16 (d + g)) = cnt s i (min 16 d)
  | 0, _, _ => ⟨rfl, rfl⟩
  | g + 1, hn, hi => by
    obtain ⟨a, b⟩ := skip_gap h3 g (fun j h1 h2 => hn j h1 (by omega)) (by omega)
    by_cases hw : 16 ≤ d + g
    · rw [show min 16 (d + (g + 1)) = min 16 (d + g) by omega]; exact ⟨a, b⟩
    · have e : min 16 (d + (g + 1)) = min 16 (d + g) + 1 := by omega
      have e2 : min 16 (d + g) = d + g := by omega
      have hne := hn (d + g + 1) (by omega) (by omega) (by omega) (by omega)
      rw [e, e2]
      rw [e2] at a b
      refine ⟨?_, ?_⟩
      · rw [← a]
        apply norm_skip
        rcases Nat.lt_or_ge (spanF s (i - (d + g + 1)) i (limF s i)) 3 with h | h
        · exact h
        · exfalso
          apply hne
          apply hash_congr
          intro j hj
          exact span_eq s (limF s i) _ _ j (by omega)
      · rw [← b]
        simp only [cnt]
        rw [if_neg (fun h => hne h.2)]
        omega

theorem seek_start {s : ByteArray} {i : Nat} {st : MS} (hc : Ch s i st) (h3 : i + 3 ≤ s.size) : SeekI s i (st.hd (hashF s i).toNat) 2 0 0 := by
  have hr := hash_range s i
  rw [hc.1 _ (by omega), show (((hashF s i).toNat : Nat) : Int) = hashF s i by omega]
  have hl := last_lt s (hashF s i) i
  have hn := last_none s (hashF s i) i
  have hg := skip_gap (d := 0) h3 (i - 1 - lastF s (hashF s i) i).toNat (fun j h1 h2 h4 h5 => hn (i - j) (by omega) (by omega) (by omega)) (by omega)
  rw [Nat.zero_add] at hg
  refine ⟨hl.1, hl.2, ?_, ?_, fun hne => ?_⟩
  · rw [hg.1]; rfl
  · rw [hg.2]; rfl
  · rcases last_is s (hashF s i) i with h | ⟨p, h1, h2, h5, h4⟩
    · exact absurd h hne
    · rw [h1]; exact ⟨by simpa using h4, by simpa using h5⟩

/-- one candidate is judged: the lead behind it -/
theorem seek_step {s : ByteArray} {i : Nat} {st : MS} {c : Int} {best dist k b' d' : Nat} (hc : Ch s i st) (h3 : i + 3 ≤ s.size) (hs : SeekI s i c best dist k) (hne : c ≠ -1) (hw : (i : Int) - c ≤ 16)
    (hlead : (best < spanF s c.toNat i (limF s i) ∧ b' = spanF s c.toNat i (limF s i) ∧ d' = i - c.toNat) ∨ (spanF s c.toNat i (limF s i) ≤ best ∧ b' = best ∧ d' = dist)) :
    SeekI s i (st.pv (c.toNat % 16)) b' d' (k + 1) := by
  obtain ⟨lo, hi, lead, probes, on⟩ := hs
  obtain ⟨on1, on2⟩ := on hne
  obtain ⟨p, rfl⟩ := Int.eq_ofNat_of_zero_le (show 0 ≤ c by omega)
  simp only [Int.toNat_natCast] at *
  have hp : p < i := by omega
  rw [hc.2 p hp (by omega) on2, on1]
  have hl := last_lt s (hashF s i) p
  have hn := last_none s (hashF s i) p
  -- behind p itself
  have e0 : ((i : Int) - 1 - (p : Int)).toNat = i - 1 - p := by omega
  rw [e0] at lead probes
  have e1 : min 16 (i - 1 - p) = i - 1 - p := by omega
  rw [e1] at lead probes
  have e2 : i - 1 - p + 1 = i - p := by omega
  have e3 : i - (i - 1 - p + 1) = p := by omega
  have lead1 : norm (bestTo s i (i - p)) = (b', d') := by
    rw [← e2]
    have hb2 : 2 ≤ best := by
      simp only [norm] at lead
      split at lead
      · simp at lead; omega
      · rename_i hn; rw [lead] at hn; simp at hn; omega
    simp only [bestTo, e3]
    by_cases hlt : (bestTo s i (i - 1 - p)).1 < 3
    · have hbd : best = 2 ∧ dist = 0 := by
        simp only [norm, hlt, if_true, Prod.mk.injEq] at lead; exact ⟨lead.1.symm, lead.2.symm⟩
      rcases hlead with ⟨a1, a2, a3⟩ | ⟨a1, a2, a3⟩
      · rw [if_pos (by omega)]
        simp only [norm]
        rw [if_neg (by omega), a2, a3, e2]
      · have : norm (if (bestTo s i (i - 1 - p)).1 < spanF s p i (limF s i) then (spanF s p i (limF s i), i - 1 - p + 1) else bestTo s i (i - 1 - p)) = (2, 0) := by
          split
          · unfold norm; rw [if_pos (by show spanF s p i (limF s i) < 3; omega)]
          · unfold norm; rw [if_pos hlt]
        rw [this, a2, a3, hbd.1, hbd.2]
    · have hbd : bestTo s i (i - 1 - p) = (best, dist) := by
        simpa only [norm, hlt, if_false] using lead
      rw [hbd]
      rcases hlead with ⟨a1, a2, a3⟩ | ⟨a1, a2, a3⟩
      · rw [if_pos (by simpa using a1)]
        simp only [norm]
        rw [if_neg (by omega), a2, a3, e2]
      · rw [if_neg (by simp; omega)]
        rw [hbd] at hlt
        simp only at hlt
        unfold norm
        rw [if_neg (by simpa using hlt), a2, a3]
  have probes1 : cnt s i (i - p) = k + 1 := by
    rw [← e2]
    simp only [cnt, e3]
    rw [if_pos ⟨by omega, on1⟩, probes]
  -- down to the next
  have hg := skip_gap (d := i - p) h3 ((p : Int) - 1 - lastF s (hashF s i) p).toNat (fun j h1 h2 h4 h5 => hn (i - j) (by omega) (by omega) (by omega)) (by omega)
  have e4 : i - p + ((p : Int) - 1 - lastF s (hashF s i) p).toNat = ((i : Int) - 1 - lastF s (hashF s i) p).toNat := by omega
  have e5 : min 16 (i - p) = i - p := by omega
  rw [e4, e5, lead1, probes1] at hg
  refine ⟨hl.1, by omega, hg.1, hg.2.symm, fun hne => ?_⟩
  rcases last_is s (hashF s i) p with h | ⟨q, h1, h2, h5, h4⟩
  · exact absurd h hne
  · rw [h1]; exact ⟨by simpa using h4, by simpa using h5⟩

/-- the walk ends -/
theorem seek_end {s : ByteArray} {i : Nat} {c : Int} {best dist k : Nat} (h3 : i + 3 ≤ s.size) (hs : SeekI s i c best dist k) (he : c = -1 ∨ 16 < (i : Int) - c ∨ limF s i ≤ best) :
    bestF s i = (if dist = 0 then (0, 0) else (best, dist)) ∧ k ≤ roomF s i := by
  obtain ⟨lo, hi, lead, probes, on⟩ := hs
  have hroom : k ≤ roomF s i := by
    unfold roomF
    rw [if_neg (by omega), probes]
    exact cnt_mono s i (by omega)
  refine ⟨?_, hroom⟩
  have hl3 : 3 ≤ limF s i := by unfold limF; omega
  have : norm (bestTo s i (min 16 i)) = (best, dist) := by
    rcases he with he | he | he
    · subst he
      rw [← lead]
      congr 2
      omega
    · rw [← lead]
      have : min 16 i = min 16 ((i : Int) - 1 - c).toNat := by omega
      rw [this]
    · have hb : limF s i ≤ (bestTo s i (min 16 ((i : Int) - 1 - c).toNat)).1 := by
        simp only [norm] at lead
        split at lead
        · simp at lead; omega
        · rw [lead]; exact he
      rw [norm_full hb (by omega)]; exact lead
  exact best_norm s i (best, dist) this

theorem seek_desc {s : ByteArray} {i : Nat} {st : MS} {c : Int} {best dist k : Nat} (hc : Ch s i st) (h3 : i + 3 ≤ s.size) (hs : SeekI s i c best dist k) (hne : c ≠ -1) (hw : (i : Int) - c ≤ 16) : st.pv (c.toNat % 16) < c := by
  have h1 := hs.lo; have h2 := hs.hi
  rw [hc.2 c.toNat (by omega) (by omega) (hs.on hne).2]
  have := last_lt s (hashF s c.toNat) c.toNat
  omega

theorem seek_best {s : ByteArray} {i : Nat} {c : Int} {best dist k : Nat} (hs : SeekI s i c best dist k) : 2 ≤ best ∧ dist ≤ 16 ∧ (best ≤ limF s i ∨ best = 2) ∧ k ≤ 16 := by
  have hk : ∀ d, cnt s i d ≤ d := by
    intro d
    induction d with
    | zero => exact Nat.le_refl _
    | succ d ih => simp only [cnt]; split <;> omega
  have h1 := hs.lead
  have h2 := bestTo_le s i (min 16 ((i : Int) - 1 - c).toNat)
  have h3 := hk (min 16 ((i : Int) - 1 - c).toNat)
  have h4 := hs.probes
  unfold norm at h1
  split at h1
  · simp at h1; omega
  · rename_i hn
    have := bestTo_is s i (min 16 ((i : Int) - 1 - c).toNat) (by omega)
    rw [h1] at this hn h2
    simp at this hn h2
    omega
/-- a longer match agrees at the byte behind the lead -/
theorem quick {s : ByteArray} {c i best lim : Nat} (hb : best < lim) (h : bAt s (c + best) ≠ bAt s (i + best)) : spanF s c i lim ≤ best := by
  rcases Nat.lt_or_ge best (spanF s c i lim) with h' | h'
  · exact absurd (span_eq s lim c i best h') h
  · exact h'

end Go.Lz
