import Derived.Test.Qxb6500404aGreatHc
set_option linter.unusedVariables false
set_option linter.unusedSimpArgs false
namespace Go.Huf
/-- the way ups from a node -/
def itp (par : Nat → Nat) : Nat → Nat → Nat
  | 0, x => x
  | k + 1, x => par (itp par k x)
theorem itp_congr {par par' : Nat → Nat} {x : Nat} : ∀ {k : Nat}, (∀ e, e < k → par' (itp par e x) = par (itp par e x)) → itp par' k x = itp par k x
  | 0, _ => rfl
  | k + 1, h => by rw [itp, itp, itp_congr (fun e he => h e (by omega)), h k (by omega)]
/-- the node's key -/
def nk (wt ht num : Nat → Nat) (x : Nat) : Nat := (wt x * 1024 + ht x) * 1024 + num x
structure ND where
  wt : Nat → Nat
  ht : Nat → Nat
  num : Nat → Nat
  par : Nat → Nat
def ND.k (d : ND) : Nat → Nat := nk d.wt d.ht d.num
/-- the nodes and the living ones among them stand for the groups -/
structure RT (N : Nat) (c : Nat → Nat) (s : HS) (lv m : Nat) (d : ND) (L : Nat → Prop) : Prop where
  lt : ∀ x, L x → x < m
  w : ∀ x, L x → s.w (d.num x) = d.wt x ∧ s.h (d.num x) = d.ht x ∧ d.num x < N ∧ 0 < d.wt x
  ex : ∀ g, g < N → 0 < s.w g → ∃ x, L x ∧ d.num x = g
  inj : ∀ x y, L x → L y → d.num x = d.num y → x = y
  lm : lv ≤ m
  lf : ∀ x, x < lv → d.num x < N ∧ 0 < c (d.num x)
  lx : ∀ i, i < N → 0 < c i → ∃ x, x < lv ∧ d.num x = i
  upw : ∀ x, x < m → ¬ L x → x < d.par x ∧ d.par x < m
  pt : ∀ x, x < lv → L (itp d.par (s.ln (d.num x)) x) ∧ d.num (itp d.par (s.ln (d.num x)) x) = s.grp (d.num x) ∧ ∀ e, e < s.ln (d.num x) → itp d.par e x < m ∧ ¬ L (itp d.par e x)
/-- the least living node is the least group -/
theorem RT.lea {N lv m : Nat} {c : Nat → Nat} {s : HS} {d : ND} {L : Nat → Prop} (h : RT N c s lv m d L) (hh : ∀ g, s.h g < 1024) (hN : N ≤ 1024) {x : Nat} (hx : L x) (hm : ∀ y, L y → d.k x ≤ d.k y) : least N s.w s.h (-1) = some (d.num x) := by
  obtain ⟨w1, w2, w3, w4⟩ := h.w x hx
  refine lst_is w3 (by simp only [decide_eq_true_eq]; exact ⟨by omega, by omega⟩) fun g hg pg => ?_
  simp only [decide_eq_true_eq] at pg
  obtain ⟨y, y1, y2⟩ := h.ex g hg pg.1
  obtain ⟨v1, v2, v3, v4⟩ := h.w y y1
  have hk := hm y y1
  have := hh g; have := hh (d.num x)
  subst y2
  unfold ND.k nk at hk
  rw [w1, w2, v1, v2]; omega
theorem RT.nxt {N lv m : Nat} {c : Nat → Nat} {s : HS} {d : ND} {L : Nat → Prop} (h : RT N c s lv m d L) (hh : ∀ g, s.h g < 1024) (hN : N ≤ 1024) {a x : Nat} (ha : L a) (hx : L x) (hxa : x ≠ a) (hm : ∀ y, L y → y ≠ a → d.k x ≤ d.k y) : least N s.w s.h (d.num a : Int) = some (d.num x) := by
  obtain ⟨w1, w2, w3, w4⟩ := h.w x hx
  refine lst_is w3 (by simp only [decide_eq_true_eq]; exact ⟨by omega, fun e => hxa (h.inj x a hx ha (by omega))⟩) fun g hg pg => ?_
  simp only [decide_eq_true_eq] at pg
  obtain ⟨y, y1, y2⟩ := h.ex g hg pg.1
  obtain ⟨v1, v2, v3, v4⟩ := h.w y y1
  have hk := hm y y1 (fun e => pg.2 (by rw [← y2, e]))
  have := hh g; have := hh (d.num x)
  subst y2
  unfold ND.k nk at hk
  rw [w1, w2, v1, v2]; omega
/-- the join -/
theorem RT.join {N lv m : Nat} {c : Nat → Nat} {s : HS} {d : ND} {L L' : Nat → Prop} (h : RT N c s lv m d L) {a b : Nat} (ha : L a) (hb : L b) (hab : a ≠ b) (hL : ∀ y, L' y ↔ (L y ∧ y ≠ a ∧ y ≠ b) ∨ y = m) : RT N c (joinS c s (d.num a) (d.num b)) lv (m + 1) ⟨ups d.wt m (d.wt a + d.wt b), ups d.ht m (max (d.ht a) (d.ht b) + 1), ups d.num m (d.num a), ups (ups d.par a m) b m⟩ L' := by
  have ham := h.lt a ha
  have hbm := h.lt b hb
  have hnm : ¬ L m := fun e => by have := h.lt m e; omega
  obtain ⟨a1, a2, a3, a4⟩ := h.w a ha
  obtain ⟨b1, b2, b3, b4⟩ := h.w b hb
  have hn : d.num a ≠ d.num b := fun e => hab (h.inj a b ha hb e)
  have par_o : ∀ y, ¬ L y → ups (ups d.par a m) b m y = d.par y := fun y hy => by
    have n1 : y ≠ b := fun e => hy (by rw [e]; exact hb)
    have n2 : y ≠ a := fun e => hy (by rw [e]; exact ha)
    rw [ups_ne _ _ n1, ups_ne _ _ n2]
  refine ⟨fun x hx => ?_, fun x hx => ?_, fun g hg hw => ?_, fun x y hx hy e => ?_, by have := h.lm; omega, fun x hx => ?_, fun i hi hc => ?_, fun x hx hn2 => ?_, fun x hx => ?_⟩
  · rcases (hL x).1 hx with q | q
    · have := h.lt x q.1; omega
    · omega
  · simp only [joinS]
    rcases (hL x).1 hx with ⟨q1, q2, q3⟩ | q
    · have xm := h.lt x q1
      obtain ⟨w1, w2, w3, w4⟩ := h.w x q1
      have n1 : d.num x ≠ d.num a := fun e => q2 (h.inj x a q1 ha e)
      have n2 : d.num x ≠ d.num b := fun e => q3 (h.inj x b q1 hb e)
      have xn : x ≠ m := by omega
      rw [ups_ne d.num _ xn, ups_ne d.wt _ xn, ups_ne d.ht _ xn, jw_o n1 n2, ups_ne _ _ n1]
      exact ⟨w1, w2, w3, w4⟩
    · rw [q, ups_eq, ups_eq, ups_eq, ups_eq, jw_a hn, a1, b1, a2, b2]
      exact ⟨rfl, rfl, a3, by omega⟩
  · simp only [joinS] at hw ⊢
    by_cases e1 : g = d.num a
    · exact ⟨m, (hL m).2 (.inr rfl), by rw [ups_eq, e1]⟩
    · by_cases e2 : g = d.num b
      · rw [e2, jw_b] at hw; omega
      · rw [jw_o e1 e2] at hw
        obtain ⟨x, x1, x2⟩ := h.ex g hg hw
        have := h.lt x x1
        exact ⟨x, (hL x).2 (.inl ⟨x1, fun e => e1 (by rw [← x2, e]), fun e => e2 (by rw [← x2, e])⟩), by rw [ups_ne _ _ (by omega)]; exact x2⟩
  · simp only [] at e
    rcases (hL x).1 hx with ⟨q1, q2, q3⟩ | q
    · have xm := h.lt x q1
      rw [ups_ne _ _ (by omega)] at e
      rcases (hL y).1 hy with ⟨r1, r2, r3⟩ | r
      · have ym := h.lt y r1
        rw [ups_ne _ _ (by omega)] at e
        exact h.inj x y q1 r1 e
      · rw [r, ups_eq] at e; exact absurd (h.inj x a q1 ha e) q2
    · rw [q, ups_eq] at e
      rcases (hL y).1 hy with ⟨r1, r2, r3⟩ | r
      · have ym := h.lt y r1
        rw [ups_ne _ _ (by omega)] at e
        exact absurd (h.inj a y ha r1 e).symm r2
      · omega
  · have := h.lm
    simp only []; rw [ups_ne _ _ (by omega)]; exact h.lf x hx
  · obtain ⟨x, x1, x2⟩ := h.lx i hi hc
    have := h.lm
    exact ⟨x, x1, by simp only []; rw [ups_ne _ _ (by omega)]; exact x2⟩
  · simp only []
    have hxm : x < m := by
      by_cases e : x = m
      · exact absurd ((hL x).2 (.inr e)) hn2
      · omega
    by_cases e : L x
    · have : x = a ∨ x = b := by
        by_cases e1 : x = a
        · exact .inl e1
        · by_cases e2 : x = b
          · exact .inr e2
          · exact absurd ((hL x).2 (.inl ⟨e, e1, e2⟩)) hn2
      rcases this with q | q
      · rw [q, ups_ne _ _ hab, ups_eq]; omega
      · rw [q, ups_eq]; omega
    · rw [par_o x e]; have := h.upw x hxm e; omega
  · have hlm := h.lm
    obtain ⟨p1, p2, p3⟩ := h.pt x hx
    simp only []
    rw [ups_ne _ _ (by omega)]
    generalize hq : d.num x = q at *
    generalize hP : ups (ups d.par a m) b m = P at *
    have same : ∀ k, k ≤ s.ln q → itp P k x = itp d.par k x := fun k hk => itp_congr fun e he => par_o _ (p3 e (by omega)).2
    have hc : 0 < c q := by have := h.lf x hx; rw [hq] at this; exact this.2
    have hNm : ∀ y, L y → y ≠ m := fun y hy => by have := h.lt y hy; omega
    generalize hy : itp d.par (s.ln q) x = y at *
    by_cases e : In2 c s (d.num a) (d.num b) q
    · have e' := e
      unfold In2 at e'
      have hya : y = a ∨ y = b := by
        rcases e'.2 with t | t
        · left; exact h.inj y a p1 ha (by rw [p2, t])
        · right; exact h.inj y b p1 hb (by rw [p2, t])
      have hl : (joinS c s (d.num a) (d.num b)).ln q = s.ln q + 1 := by simp only [joinS]; rw [if_pos e]
      have hg : (joinS c s (d.num a) (d.num b)).grp q = d.num a := by simp only [joinS]; rw [if_pos e]
      rw [hl, hg]
      have hPy : P y = m := by
        rw [← hP]
        rcases hya with t | t
        · rw [t, ups_ne _ _ hab, ups_eq]
        · rw [t, ups_eq]
      rw [itp, same _ (Nat.le_refl _), hy, hPy]
      refine ⟨(hL m).2 (.inr rfl), ups_eq _ _ _, fun k hk => ?_⟩
      rw [same k (by omega)]
      by_cases t : k = s.ln q
      · rw [t, hy]
        refine ⟨by have := h.lt y p1; omega, fun z => ?_⟩
        rcases (hL y).1 z with u | u
        · rcases hya with v | v
          · exact u.2.1 v
          · exact u.2.2 v
        · exact hNm y p1 u
      · obtain ⟨v1, v2⟩ := p3 k (by omega)
        refine ⟨by omega, fun z => ?_⟩
        rcases (hL _).1 z with u | u
        · exact v2 u.1
        · omega
    · have hl : (joinS c s (d.num a) (d.num b)).ln q = s.ln q := by simp only [joinS]; rw [if_neg e]
      have hg : (joinS c s (d.num a) (d.num b)).grp q = s.grp q := by simp only [joinS]; rw [if_neg e]
      rw [hl, hg, same _ (Nat.le_refl _), hy]
      have n1 : y ≠ a := fun t => e (by unfold In2; exact ⟨hc, .inl (by rw [← p2, t])⟩)
      have n2 : y ≠ b := fun t => e (by unfold In2; exact ⟨hc, .inr (by rw [← p2, t])⟩)
      refine ⟨(hL y).2 (.inl ⟨p1, n1, n2⟩), by rw [ups_ne _ _ (hNm y p1)]; exact p2, fun k hk => ?_⟩
      rw [same k (by omega)]
      obtain ⟨v1, v2⟩ := p3 k hk
      refine ⟨by omega, fun z => ?_⟩
      rcases (hL _).1 z with u | u
      · exact v2 u.1
      · omega
/-- the leaves -/
theorem RT.leaf {N lv : Nat} {c : Nat → Nat} {d : ND} (hn : ∀ x, x < lv → d.num x < N ∧ 0 < c (d.num x) ∧ d.wt x = c (d.num x) ∧ d.ht x = 0) (hi : ∀ x y, x < lv → y < lv → d.num x = d.num y → x = y) (hx : ∀ i, i < N → 0 < c i → ∃ x, x < lv ∧ d.num x = i) : RT N c (HS.z c) lv lv d (fun x => x < lv) := by
  refine ⟨fun x h => h, fun x h => ?_, fun g hg hw => hx g hg hw, hi, Nat.le_refl _, fun x h => ⟨(hn x h).1, (hn x h).2.1⟩, hx, fun x h h2 => absurd h h2, fun x h => ⟨h, rfl, fun e he => by simp only [HS.z] at he; omega⟩⟩
  obtain ⟨h1, h2, h3, h4⟩ := hn x h
  exact ⟨h3.symm, h4.symm, h1, by omega⟩
/-- the depths: read from the top down they are the lengths -/
theorem RT.dep {N lv m : Nat} {c : Nat → Nat} {s : HS} {d : ND} {L : Nat → Prop} (h : RT N c s lv (m + 1) d L) (hL : ∀ y, L y ↔ y = m) {dep : Nat → Nat} {x : Nat} (hx : x < lv) (h0 : dep m = 0) (hd : ∀ y, x ≤ y → y < m → dep y = dep (d.par y) + 1) : dep x = s.ln (d.num x) := by
  obtain ⟨p1, p2, p3⟩ := h.pt x hx
  have hr : itp d.par (s.ln (d.num x)) x = m := (hL _).1 p1
  have key : ∀ k, k ≤ s.ln (d.num x) → x ≤ itp d.par k x ∧ dep x = k + dep (itp d.par k x) := by
    intro k
    induction k with
    | zero => intro _; exact ⟨Nat.le_refl _, by simp [itp]⟩
    | succ k ih =>
      intro hk
      obtain ⟨i1, i2⟩ := ih (by omega)
      obtain ⟨v1, v2⟩ := p3 k (by omega)
      have v3 : itp d.par k x ≠ m := fun e => v2 ((hL _).2 e)
      have v4 := h.upw _ v1 v2
      rw [itp]
      exact ⟨by omega, by rw [i2, hd _ i1 (by omega)]; omega⟩
  have := (key _ (Nat.le_refl _)).2
  rw [hr, h0] at this; omega
end Go.Huf
