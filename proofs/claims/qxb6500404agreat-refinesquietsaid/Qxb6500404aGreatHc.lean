import Derived.Test.Qxb6500404aGreatHb
set_option linter.unusedVariables false
set_option linter.unusedSimpArgs false
namespace Go.Huf
/-! ### the least place -/
def lst (key : Nat → Nat) (P : Nat → Bool) : Nat → Option Nat
  | 0 => none
  | n + 1 => match lst key P n with
    | none => if P n = true then some n else none
    | some b => if P n = true ∧ key n < key b then some n else some b
theorem lst_none {key : Nat → Nat} {P : Nat → Bool} : ∀ {n : Nat}, lst key P n = none → ∀ g, g < n → P g = false := by
  intro n
  induction n with
  | zero => intro _ g hg; omega
  | succ n ih =>
    intro h g hg
    rw [lst] at h
    cases e : lst key P n with
    | none =>
      rw [e] at h; simp only [] at h
      split at h
      · cases h
      · rename_i q
        by_cases r : g = n
        · rw [r]; simpa using q
        · exact ih e g (by omega)
    | some b =>
      rw [e] at h; simp only [] at h
      split at h <;> cases h
theorem lst_some {key : Nat → Nat} {P : Nat → Bool} : ∀ {n b : Nat}, lst key P n = some b → b < n ∧ P b = true ∧ ∀ g, g < n → P g = true → key b < key g ∨ (key b = key g ∧ b ≤ g) := by
  intro n
  induction n with
  | zero => intro b h; cases h
  | succ n ih =>
    intro b h
    rw [lst] at h
    cases e : lst key P n with
    | none =>
      rw [e] at h; simp only [] at h
      split at h
      · rename_i q; cases h
        refine ⟨by omega, q, fun g hg pg => ?_⟩
        by_cases r : g = n
        · rw [r]; exact .inr ⟨rfl, Nat.le_refl _⟩
        · rw [lst_none e g (by omega)] at pg; cases pg
      · cases h
    | some b0 =>
      obtain ⟨h1, h2, h3⟩ := ih e
      rw [e] at h; simp only [] at h
      split at h
      · rename_i q; cases h
        refine ⟨by omega, q.1, fun g hg pg => ?_⟩
        by_cases r : g = n
        · rw [r]; exact .inr ⟨rfl, Nat.le_refl _⟩
        · rcases h3 g (by omega) pg with t | t
          · left; omega
          · left; omega
      · rename_i q; cases h
        refine ⟨by omega, h2, fun g hg pg => ?_⟩
        by_cases r : g = n
        · rw [r] at pg ⊢
          have : ¬ key n < key b := fun z => q ⟨pg, z⟩
          rcases Nat.lt_or_ge (key b) (key n) with t | t
          · exact .inl t
          · exact .inr ⟨by omega, by omega⟩
        · exact h3 g (by omega) pg
theorem lst_is {key : Nat → Nat} {P : Nat → Bool} {n b : Nat} (hb : b < n) (pb : P b = true) (h : ∀ g, g < n → P g = true → key b < key g ∨ (key b = key g ∧ b ≤ g)) : lst key P n = some b := by
  cases e : lst key P n with
  | none => rw [lst_none e b hb] at pb; cases pb
  | some c =>
    obtain ⟨h1, h2, h3⟩ := lst_some e
    rcases h c h1 h2 with t | t
    · rcases h3 b hb pb with u | u <;> omega
    · rcases h3 b hb pb with u | u
      · omega
      · rw [show c = b by omega]
/-- the least group by weight and height, but for one -/
def least (N : Nat) (w h : Nat → Nat) (no : Int) : Option Nat := lst (fun g => w g * 1024 + h g) (fun g => decide (0 < w g ∧ (g : Int) ≠ no)) N
/-! ### the state of a run -/
structure HS where
  w : Nat → Nat
  h : Nat → Nat
  grp : Nat → Nat
  ln : Nat → Nat
def HS.z (c : Nat → Nat) : HS := ⟨c, fun _ => 0, fun i => i, fun _ => 0⟩
abbrev In2 (c : Nat → Nat) (s : HS) (a b i : Nat) : Prop := 0 < c i ∧ (s.grp i = a ∨ s.grp i = b)
def joinS (c : Nat → Nat) (s : HS) (a b : Nat) : HS := ⟨jw s.w a b, ups s.h a (max (s.h a) (s.h b) + 1), fun i => if In2 c s a b i then a else s.grp i, fun i => if In2 c s a b i then s.ln i + 1 else s.ln i⟩
theorem js_snoc : ∀ (r : List (Nat × Nat)) (p : Nat × Nat) (w : Nat → Nat), js (r ++ [p]) w = js r w + (ws r w p.1 + ws r w p.2)
  | [], p, w => by simp [js, ws]
  | q :: r, p, w => by rw [List.cons_append, js, js_snoc r p, js, ws]; omega
theorem Gr_snoc {N : Nat} : ∀ {r : List (Nat × Nat)} {p : Nat × Nat} {w : Nat → Nat}, Gr N r w → Gd N (ws r w) p.1 p.2 → Gr N (r ++ [p]) w
  | [], p, w, _, h => ⟨h, trivial⟩
  | q :: r, p, w, h, hp => ⟨h.1, Gr_snoc h.2 hp⟩
theorem ws_snoc : ∀ (r : List (Nat × Nat)) (p : Nat × Nat) (w : Nat → Nat), ws (r ++ [p]) w = jw (ws r w) p.1 p.2
  | [], p, w => rfl
  | q :: r, p, w => by rw [List.cons_append, ws, ws_snoc r p, ws]
theorem least_gd {N : Nat} {w h : Nat → Nat} (hh : ∀ g, h g < 1024) {a b : Nat} (ha : least N w h (-1) = some a) (hb : least N w h (a : Int) = some b) : Gd N w a b := by
  obtain ⟨a1, a2, a3⟩ := lst_some ha
  obtain ⟨b1, b2, b3⟩ := lst_some hb
  simp only [decide_eq_true_eq] at a2 a3 b2 b3
  refine ⟨a1, b1, fun e => b2.2 (by rw [e]), a2.1, b2.1, fun g hg wg => ?_, fun g hg wg ga => ?_⟩
  · have := a3 g hg ⟨wg, by omega⟩
    have := hh a; have := hh g; omega
  · have := b3 g hg ⟨wg, by omega⟩
    have := hh b; have := hh g; omega
theorem least_a {N : Nat} {w h : Nat → Nat} (hl : 0 < liv w N) : ∃ a, least N w h (-1) = some a := by
  cases e : least N w h (-1) with
  | none =>
    obtain ⟨g, g1, g2⟩ := ct_pos hl
    have := lst_none e g g1
    simp only [decide_eq_false_iff_not] at this
    exact absurd ⟨g2, by omega⟩ this
  | some a => exact ⟨a, rfl⟩
theorem least_b {N : Nat} {w h : Nat → Nat} (hl : 2 ≤ liv w N) {a : Nat} : ∃ b, least N w h (a : Int) = some b := by
  cases e : least N w h (a : Int) with
  | none =>
    exfalso
    have hz := lst_none e
    simp only [decide_eq_false_iff_not] at hz
    have : liv w N ≤ 1 := by
      by_cases q : a < N ∧ 0 < w a
      · have := ct_one (p := fun g => 0 < w g) (q := fun g => 0 < w g ∧ g ≠ a) q.1 (fun i hi e => by simp [e]) q.2 (by simp)
        have h0 : ct (fun g => 0 < w g ∧ g ≠ a) N = 0 := sm_zero fun i hi => by
          rw [if_neg (fun z => hz i hi ⟨z.1, by omega⟩)]
        unfold liv; omega
      · have h0 : liv w N = 0 := sm_zero fun i hi => by
          rw [if_neg (fun z => ?_)]
          by_cases r : i = a
          · exact q ⟨r ▸ hi, r ▸ z⟩
          · exact hz i hi ⟨z, by omega⟩
        omega
    omega
  | some b => exact ⟨b, rfl⟩
/-- what a run of joins holds -/
structure HI (U N : Nat) (c : Nat → Nat) (s : HS) (r : List (Nat × Nat)) : Prop where
  gr : Gr N r c
  w : s.w = ws r c
  h : ∀ g, s.h g ≤ r.length
  le : ∀ i, s.ln i ≤ r.length
  z : ∀ i, c i = 0 → s.ln i = 0
  g : ∀ i, i < N → 0 < c i → s.grp i < N ∧ 0 < s.w (s.grp i)
  kr : ∀ g, g < N → 0 < s.w g → sm (fun i => if 0 < c i ∧ s.grp i = g then 2 ^ (U - s.ln i) else 0) N = 2 ^ U
  sw : ∀ g, g < N → 0 < s.w g → sm (fun i => if 0 < c i ∧ s.grp i = g then c i else 0) N = s.w g
  cs : sm (fun i => c i * s.ln i) N = js r c
theorem sm_only {f : Nat → Nat} {n a : Nat} (ha : a < n) (h : ∀ i, i < n → i ≠ a → f i = 0) : sm f n = f a := by
  have := sm_one (f := f) (g := fun _ => 0) ha h
  have z : sm (fun _ => 0) n = 0 := sm_zero fun _ _ => rfl
  omega
theorem HI.z0 (U N : Nat) (c : Nat → Nat) : HI U N c (HS.z c) [] := by
  refine ⟨trivial, rfl, fun _ => Nat.le_refl _, fun _ => Nat.le_refl _, fun _ _ => rfl, fun i hi h => ⟨hi, h⟩, fun g hg h => ?_, fun g hg h => ?_, sm_zero fun i _ => Nat.mul_zero _⟩
  · rw [sm_only hg (fun i hi e => by rw [if_neg (fun z => e z.2)])]
    rw [if_pos ⟨h, rfl⟩]; rfl
  · rw [sm_only hg (fun i hi e => by rw [if_neg (fun z => e z.2)])]
    rw [if_pos ⟨h, rfl⟩]; rfl
theorem HI.liv {U N : Nat} {c : Nat → Nat} {s : HS} {r : List (Nat × Nat)} (h : HI U N c s r) : liv c N = liv s.w N + r.length := by rw [h.w]; exact h.gr.liv
theorem HI.step {U N : Nat} {c : Nat → Nat} {s : HS} {r : List (Nat × Nat)} (h : HI U N c s r) (hU : r.length + 1 ≤ U) (hr : r.length < 1024) {a b : Nat} (ha : least N s.w s.h (-1) = some a) (hb : least N s.w s.h (a : Int) = some b) : HI U N c (joinS c s a b) (r ++ [(a, b)]) := by
  have gd : Gd N s.w a b := least_gd (fun g => Nat.lt_of_le_of_lt (h.h g) hr) ha hb
  have hin : ∀ i, In2 c s a b i ↔ 0 < c i ∧ (s.grp i = a ∨ s.grp i = b) := fun i => Iff.rfl
  have nin : ∀ i g, g ≠ a → g ≠ b → ((0 < c i ∧ (joinS c s a b).grp i = g) ↔ (0 < c i ∧ s.grp i = g)) := fun i g h1 h2 => by
    simp only [joinS]
    by_cases e : In2 c s a b i
    · rw [if_pos e]; rw [hin] at e
      constructor
      · intro z; exact absurd z.2.symm h1
      · intro z; rcases e.2 with q | q
        · exact absurd (z.2.symm.trans q) h1
        · exact absurd (z.2.symm.trans q) h2
    · rw [if_neg e]
  have ain : ∀ i, ((0 < c i ∧ (joinS c s a b).grp i = a) ↔ In2 c s a b i) := fun i => by
    simp only [joinS]
    by_cases e : In2 c s a b i
    · rw [if_pos e]; exact ⟨fun _ => e, fun _ => ⟨((hin i).1 e).1, rfl⟩⟩
    · rw [if_neg e]; exact ⟨fun z => (hin i).2 ⟨z.1, .inl z.2⟩, fun z => absurd z e⟩
  have wj : (joinS c s a b).w = jw s.w a b := rfl
  refine ⟨Gr_snoc h.gr (by rw [← h.w]; exact gd), by rw [wj, ws_snoc, h.w], fun g => ?_, fun i => ?_, fun i hi => ?_, fun i hi hc => ?_, fun g hg hw => ?_, fun g hg hw => ?_, ?_⟩
  · simp only [joinS, List.length_append, List.length_cons, List.length_nil]
    by_cases e : g = a
    · rw [e, ups_eq]; have := h.h a; have := h.h b; omega
    · rw [ups_ne _ _ e]; have := h.h g; omega
  · simp only [joinS, List.length_append, List.length_cons, List.length_nil]
    have := h.le i; split <;> omega
  · simp only [joinS]
    rw [if_neg (fun e => by have := ((hin i).1 e).1; omega)]; exact h.z i hi
  · rw [wj]
    simp only [joinS]
    by_cases e : In2 c s a b i
    · rw [if_pos e]; exact ⟨gd.xa, by rw [jw_a gd.ne]; have := gd.wa; omega⟩
    · rw [if_neg e]
      have := h.g i hi hc
      refine ⟨this.1, ?_⟩
      rw [jw_o (fun z => e ((hin i).2 ⟨hc, .inl z⟩)) (fun z => e ((hin i).2 ⟨hc, .inr z⟩))]; exact this.2
  · rw [wj] at hw
    by_cases e1 : g = a
    · subst e1
      have k1 := h.kr g hg gd.wa
      have k2 := h.kr b gd.xb gd.wb
      have key : 2 * sm (fun i => if 0 < c i ∧ (joinS c s g b).grp i = g then 2 ^ (U - (joinS c s g b).ln i) else 0) N = sm (fun i => if 0 < c i ∧ s.grp i = g then 2 ^ (U - s.ln i) else 0) N + sm (fun i => if 0 < c i ∧ s.grp i = b then 2 ^ (U - s.ln i) else 0) N := by
        rw [← sm_mul, ← sm_add]
        refine sm_congr fun i hi => ?_
        by_cases e : In2 c s g b i
        · rw [if_pos ((ain i).2 e)]
          have hl : (joinS c s g b).ln i = s.ln i + 1 := by simp only [joinS]; rw [if_pos e]
          have hle := h.le i
          rw [hl]
          have hp : 2 ^ (U - s.ln i) = 2 * 2 ^ (U - (s.ln i + 1)) := by rw [show U - s.ln i = (U - (s.ln i + 1)) + 1 by omega, Nat.pow_succ]; omega
          rcases ((hin i).1 e).2 with q | q
          · rw [if_pos ⟨((hin i).1 e).1, q⟩, if_neg (fun z => gd.ne (q.symm.trans z.2)), hp]; omega
          · rw [if_neg (fun z => gd.ne (z.2.symm.trans q)), if_pos ⟨((hin i).1 e).1, q⟩, hp]; omega
        · rw [if_neg (fun z => e ((ain i).1 z)), if_neg (fun z => e ((hin i).2 ⟨z.1, .inl z.2⟩)), if_neg (fun z => e ((hin i).2 ⟨z.1, .inr z.2⟩))]
      omega
    · by_cases e2 : g = b
      · rw [e2, jw_b] at hw; omega
      · rw [jw_o e1 e2] at hw
        rw [← h.kr g hg hw]
        refine sm_congr fun i hi => ?_
        by_cases e : 0 < c i ∧ s.grp i = g
        · rw [if_pos ((nin i g e1 e2).2 e), if_pos e]
          have : (joinS c s a b).ln i = s.ln i := by
            simp only [joinS]; rw [if_neg (fun z => ?_)]
            rcases ((hin i).1 z).2 with q | q
            · exact e1 (e.2.symm.trans q)
            · exact e2 (e.2.symm.trans q)
          rw [this]
        · rw [if_neg (fun z => e ((nin i g e1 e2).1 z)), if_neg e]
  · rw [wj] at hw ⊢
    by_cases e1 : g = a
    · subst e1
      have k1 := h.sw g hg gd.wa
      have k2 := h.sw b gd.xb gd.wb
      rw [jw_a gd.ne, ← k1, ← k2, ← sm_add]
      refine sm_congr fun i hi => ?_
      by_cases e : In2 c s g b i
      · rw [if_pos ((ain i).2 e)]
        rcases ((hin i).1 e).2 with q | q
        · rw [if_pos ⟨((hin i).1 e).1, q⟩, if_neg (fun z => gd.ne (q.symm.trans z.2))]; omega
        · rw [if_neg (fun z => gd.ne (z.2.symm.trans q)), if_pos ⟨((hin i).1 e).1, q⟩]; omega
      · rw [if_neg (fun z => e ((ain i).1 z)), if_neg (fun z => e ((hin i).2 ⟨z.1, .inl z.2⟩)), if_neg (fun z => e ((hin i).2 ⟨z.1, .inr z.2⟩))]
    · by_cases e2 : g = b
      · rw [e2, jw_b] at hw; omega
      · rw [jw_o e1 e2] at hw ⊢
        rw [← h.sw g hg hw]
        refine sm_congr fun i hi => ?_
        by_cases e : 0 < c i ∧ s.grp i = g
        · rw [if_pos ((nin i g e1 e2).2 e), if_pos e]
        · rw [if_neg (fun z => e ((nin i g e1 e2).1 z)), if_neg e]
  · rw [js_snoc, ← h.w, ← h.cs, ← h.sw a gd.xa gd.wa, ← h.sw b gd.xb gd.wb, ← sm_add, ← sm_add]
    refine sm_congr fun i hi => ?_
    simp only [joinS]
    by_cases e : In2 c s a b i
    · rw [if_pos e, Nat.mul_add]
      rcases ((hin i).1 e).2 with q | q
      · rw [if_pos ⟨((hin i).1 e).1, q⟩, if_neg (fun z => gd.ne (q.symm.trans z.2))]; omega
      · rw [if_neg (fun z => gd.ne (z.2.symm.trans q)), if_pos ⟨((hin i).1 e).1, q⟩]; omega
    · rw [if_neg e, if_neg (fun z => e ((hin i).2 ⟨z.1, .inl z.2⟩)), if_neg (fun z => e ((hin i).2 ⟨z.1, .inr z.2⟩))]; omega
/-- down to one group -/
theorem HI.root {U N : Nat} {c : Nat → Nat} {s : HS} {r : List (Nat × Nat)} (h : HI U N c s r) (h1 : Huf.liv s.w N = 1) {g : Nat} (hg : g < N) (wg : 0 < s.w g) {i : Nat} (hi : i < N) (hc : 0 < c i) : s.grp i = g := ct_uniq h1 (h.g i hi hc).1 hg (h.g i hi hc).2 wg
theorem HI.full {U N : Nat} {c : Nat → Nat} {s : HS} {r : List (Nat × Nat)} (h : HI U N c s r) (h1 : Huf.liv s.w N = 1) : Huf.kr U c s.ln N = 2 ^ U := by
  obtain ⟨g, g1, g2⟩ := ct_pos (p := fun g => 0 < s.w g) (n := N) (by unfold Huf.liv at h1; omega)
  rw [← h.kr g g1 g2]
  refine sm_congr fun i hi => ?_
  by_cases e : 0 < c i
  · rw [if_pos e, if_pos ⟨e, h.root h1 g1 g2 hi e⟩]
  · rw [if_neg e, if_neg (fun z => e z.1)]
theorem kr_lim {U L N : Nat} {c l : Nat → Nat} (hL : L ≤ U) (hl : ∀ i, i < N → 0 < c i → l i ≤ L) : kr U c l N = 2 ^ (U - L) * kr L c l N := by
  unfold kr
  rw [← sm_mul]
  refine sm_congr fun i hi => ?_
  by_cases e : 0 < c i
  · have := hl i hi e
    rw [if_pos e, if_pos e, ← Nat.pow_add]; congr 1; omega
  · rw [if_neg e, if_neg e]; rfl
/-- where the tree fits a limit, Kraft's sum is one -/
theorem kr_fit {U L N : Nat} {c l : Nat → Nat} (hL : L ≤ U) (hl : ∀ i, i < N → 0 < c i → l i ≤ L) (h : kr U c l N = 2 ^ U) : kr L c l N = 2 ^ L := by
  have h1 := kr_lim hL hl
  have h2 : 2 ^ U = 2 ^ (U - L) * 2 ^ L := by rw [← Nat.pow_add]; congr 1; omega
  have h3 : 0 < 2 ^ (U - L) := Nat.pow_pos (by omega)
  exact Nat.eq_of_mul_eq_mul_left h3 (by omega)
theorem kr_pos {U N : Nat} {c l : Nat → Nat} (h : kr U c l N ≤ 2 ^ U) (h2 : 2 ≤ liv c N) {i : Nat} (hi : i < N) (hc : 0 < c i) : 1 ≤ l i := by
  rcases Nat.eq_zero_or_pos (l i) with e | e
  · exfalso
    have h3 := ct_one (p := fun g => 0 < c g) (q := fun g => 0 < c g ∧ g ≠ i) hi (fun j hj e => by simp [e]) hc (by simp)
    obtain ⟨j, j1, j2⟩ := ct_pos (p := fun g => 0 < c g ∧ g ≠ i) (n := N) (by unfold liv at h2; omega)
    have h4 := sm_one (f := fun g => if 0 < c g then 2 ^ (U - l g) else 0) (g := fun g => if 0 < c g ∧ g ≠ i then 2 ^ (U - l g) else 0) hi (fun k hk e => by simp [e])
    simp only [if_pos hc, e, Nat.sub_zero, ne_eq, not_true_eq_false, and_false, if_false] at h4
    have h5 := sm_at (f := fun g => if 0 < c g ∧ ¬ g = i then 2 ^ (U - l g) else 0) j1
    simp only [if_pos (show 0 < c j ∧ ¬ j = i from j2)] at h5
    have h6 : 0 < 2 ^ (U - l j) := Nat.pow_pos (by omega)
    unfold kr at h; omega
  · exact e
end Go.Huf
