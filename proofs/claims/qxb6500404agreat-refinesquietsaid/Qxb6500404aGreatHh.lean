import Derived.Test.Qxb6500404aGreatHg
set_option linter.unusedVariables false
set_option linter.unusedSimpArgs false
namespace Go.Huf
/-- one join of the least two -/
def stp (N : Nat) (c : Nat → Nat) (s : HS) : HS := match least N s.w s.h (-1) with
  | none => s
  | some a => match least N s.w s.h (a : Int) with
    | none => s
    | some b => joinS c s a b
def itS (N : Nat) (c : Nat → Nat) : Nat → HS
  | 0 => HS.z c
  | j + 1 => stp N c (itS N c j)
theorem stp_is {N : Nat} {c : Nat → Nat} {s : HS} {a b : Nat} (ha : least N s.w s.h (-1) = some a) (hb : least N s.w s.h (a : Int) = some b) : stp N c s = joinS c s a b := by
  unfold stp; rw [ha]; simp only []; rw [hb]
theorem itS_HI {U N : Nat} {c : Nat → Nat} (hU : 265 ≤ U) (hN : N ≤ 265) : ∀ {j : Nat}, j + 1 ≤ liv c N → ∃ r, r.length = j ∧ HI U N c (itS N c j) r := by
  have hlN : liv c N ≤ N := ct_le _ _
  intro j
  induction j with
  | zero => intro _; exact ⟨[], rfl, HI.z0 _ _ _⟩
  | succ j ih =>
    intro h
    obtain ⟨r, r1, r2⟩ := ih (by omega)
    have hl := r2.liv
    obtain ⟨a, ha⟩ := least_a (N := N) (w := (itS N c j).w) (h := (itS N c j).h) (by omega)
    obtain ⟨b, hb⟩ := least_b (N := N) (w := (itS N c j).w) (h := (itS N c j).h) (by omega) (a := a)
    refine ⟨r ++ [(a, b)], by simp [r1], ?_⟩
    rw [itS, stp_is ha hb]
    exact r2.step (by omega) (by omega) ha hb
theorem itS_h {N : Nat} {c : Nat → Nat} (hN : N ≤ 265) {j : Nat} (hj : j + 1 ≤ liv c N) (g : Nat) : (itS N c j).h g ≤ j := by
  obtain ⟨r, r1, r2⟩ := itS_HI (Nat.le_refl 265) hN hj
  have := r2.h g; omega
/-- Huffman's lengths -/
def pln (N : Nat) (c : Nat → Nat) : Nat → Nat := (itS N c (liv c N - 1)).ln
structure PL (N : Nat) (c l : Nat → Nat) : Prop where
  le : ∀ i, l i ≤ 264
  z : ∀ i, i < N → (l i = 0 ↔ c i = 0)
  zz : ∀ i, c i = 0 → l i = 0
  k : ∀ U, 265 ≤ U → kr U c l N = 2 ^ U
  cs : ∃ r, Gr N r c ∧ liv c N = r.length + 1 ∧ cs c l N = js r c
theorem pln_ok {N : Nat} {c : Nat → Nat} (hN : N ≤ 265) (h2 : 2 ≤ liv c N) : PL N c (pln N c) := by
  have hlN : liv c N ≤ N := ct_le _ _
  obtain ⟨r, r1, r2⟩ := itS_HI (Nat.le_refl 265) hN (show liv c N - 1 + 1 ≤ liv c N by omega)
  have hl := r2.liv
  have h1 : liv (itS N c (liv c N - 1)).w N = 1 := by omega
  have hk : ∀ U, 265 ≤ U → kr U c (pln N c) N = 2 ^ U := fun U hU => by
    obtain ⟨r', _, r3⟩ := itS_HI hU hN (show liv c N - 1 + 1 ≤ liv c N by omega)
    exact r3.full h1
  refine ⟨fun i => by have := r2.le i; unfold pln; omega, fun i hi => ?_, r2.z, hk, r, r2.gr, by omega, r2.cs⟩
  constructor
  · intro e
    rcases Nat.eq_zero_or_pos (c i) with q | q
    · exact q
    · have := kr_pos (l := pln N c) (Nat.le_of_eq (hk (N + 265) (by omega))) h2 hi q; omega
  · intro e; exact r2.z i e
/-- the leaves' numbers -/
structure Lf (c : Nat → Nat) (s m : Nat) (d : ND) : Prop where
  me : m = ct (fun i => 0 < c i) s
  nx : ∀ x, x < m → d.num x < s ∧ 0 < c (d.num x) ∧ d.wt x = c (d.num x) ∧ d.ht x = 0 ∧ ct (fun i => 0 < c i) (d.num x) = x
theorem Lf.z (c : Nat → Nat) (d : ND) : Lf c 0 0 d := ⟨rfl, fun x hx => by omega⟩
theorem Lf.skip {c : Nat → Nat} {s m : Nat} {d : ND} (h : Lf c s m d) (h0 : c s = 0) : Lf c (s + 1) m d := ⟨by rw [ct_succ, if_neg (by omega)]; exact h.me, fun x hx => by have := h.nx x hx; exact ⟨by omega, this.2⟩⟩
theorem Lf.add {c : Nat → Nat} {s m : Nat} {d d' : ND} (h : Lf c s m d) (h0 : 0 < c s) (h1 : d'.wt = ups d.wt m (c s)) (h2 : d'.ht = ups d.ht m 0) (h3 : d'.num = ups d.num m s) : Lf c (s + 1) (m + 1) d' := by
  refine ⟨by rw [ct_succ, if_pos h0, ← h.me], fun x hx => ?_⟩
  rw [h1, h2, h3]
  by_cases e : x = m
  · subst e; simp only [ups_eq]; exact ⟨by omega, h0, trivial, trivial, h.me.symm⟩
  · simp only [ups_ne _ _ e]
    have := h.nx x (by omega)
    exact ⟨by omega, this.2⟩
theorem Lf.rt {c : Nat → Nat} {N m : Nat} {d : ND} (h : Lf c N m d) : RT N c (HS.z c) m m d (fun x => x < m) := by
  refine RT.leaf (fun x hx => ?_) (fun x y hx hy e => ?_) (fun i hi hc => ?_)
  · obtain ⟨a, b, e, f, _⟩ := h.nx x hx; exact ⟨a, b, e, f⟩
  · have h1 := (h.nx x hx).2.2.2.2; have h2 := (h.nx y hy).2.2.2.2
    rw [← h1, ← h2, e]
  · have hlt : ct (fun i => 0 < c i) i < m := by rw [h.me]; exact ct_lt hi hc
    refine ⟨_, hlt, ?_⟩
    obtain ⟨a, b, _, _, f⟩ := h.nx _ hlt
    exact ct_inj (p := fun i => 0 < c i) b hc f
theorem RT.congr {N lv m : Nat} {c : Nat → Nat} {s : HS} {d : ND} {L L' : Nat → Prop} (h : RT N c s lv m d L) (hL : ∀ y, L' y ↔ L y) : RT N c s lv m d L' := by
  have e : L' = L := funext fun y => propext (hL y)
  rw [e]; exact h
/-- the last node is the root -/
theorem RT.top {N lv m : Nat} {c : Nat → Nat} {s : HS} {d : ND} {L : Nat → Prop} (h : RT N c s lv (m + 1) d L) (h1 : ∀ x y, L x → L y → x = y) : ∀ y, L y ↔ y = m := by
  have hm : L m := by
    by_cases e : L m
    · exact e
    · have := h.upw m (by omega) e; omega
  exact fun y => ⟨fun e => h1 y m e hm, fun e => e ▸ hm⟩
theorem Hp.congr {k k' H : Nat → Nat} {n : Nat} (h : Hp k H n) (e : ∀ j, j < n → k' (H j) = k (H j)) : Hp k' H n := fun j h0 hj => by
  rw [e _ (by omega), e _ hj]; exact h j h0 hj
theorem In.zero {H : Nat → Nat} (y : Nat) : ¬ In H 0 y := fun ⟨j, hj, _⟩ => by omega
/-- a tree that fits the limit is left as it is -/
theorem mend_pln {N L : Nat} {c : Nat → Nat} (hN : N ≤ 265) (h2 : 2 ≤ liv c N) (hc : ∀ i, N ≤ i → c i = 0) (hL : L ≤ 265) (hf : ∀ i, i < N → pln N c i ≤ L) : mend N c L (pln N c) = pln N c := by
  have pl := pln_ok hN h2
  have hle : ∀ i, pln N c i ≤ L := fun i => by
    rcases Nat.lt_or_ge i N with q | q
    · exact hf i q
    · rw [pl.zz i (hc i q)]; omega
  refine mend_fit hle ?_
  have hk := kr_fit (U := N + 265) (by omega) (fun i hi _ => hf i hi) (pl.k (N + 265) (by omega))
  have : MI N c L (pln N c) := ⟨pl.z, hle⟩
  rw [kk_used this]; exact hk
/-! ### what Plan answers -/
def cf (cl : List Int) (i : Nat) : Nat := (cl.getD i 0).toNat
def okC (cl : List Int) : Prop := ∀ j, j < cl.length → 0 ≤ cl.getD j 0 ∧ cl.getD j 0 ≤ 1048576
def okCD (cl : List Int) : Decidable (okC cl) := by unfold okC; infer_instance
theorem cf_out {cl : List Int} {i : Nat} (h : cl.length ≤ i) : cf cl i = 0 := by
  unfold cf; rw [List.getD_eq_getElem?_getD, List.getElem?_eq_none h]; rfl
def planE (cl : List Int) (lim : Int) : Nat := if 265 < cl.length then 1 else if lim < 1 ∨ 10 < lim then 2 else @ite Nat (¬ okC cl) (@instDecidableNot (okC cl) (okCD cl)) 2 (if 2 ^ lim.toNat < liv (cf cl) cl.length then 2 else 0)
def planL (cl : List Int) (L : Nat) : Nat → Nat := if liv (cf cl) cl.length < 2 then fun i => if 0 < cf cl i then 1 else 0 else mend cl.length (cf cl) L (pln cl.length (cf cl))
def il (N : Nat) (c : Nat → Nat) : List Int := (List.range N).map fun i => (c i : Int)
theorem il_len (N : Nat) (c : Nat → Nat) : (il N c).length = N := by simp [il]
theorem il_at {N : Nat} {c : Nat → Nat} {j : Nat} (h : j < N) : (il N c).getD j 0 = (c j : Int) := by simp [il, h]
theorem il_cong {N : Nat} {c c' : Nat → Nat} (h : ∀ j, j < N → c j = c' j) : il N c = il N c' := by
  unfold il; exact List.map_congr_left fun j hj => by rw [h j (List.mem_range.1 hj)]
theorem list_ext {a b : List Int} (h1 : a.length = b.length) (h2 : ∀ j, j < a.length → a.getD j 0 = b.getD j 0) : a = b := by
  refine List.ext_getElem h1 fun j h3 h4 => ?_
  have := h2 j h3
  rw [List.getD_eq_getElem?_getD, List.getD_eq_getElem?_getD, List.getElem?_eq_getElem h3, List.getElem?_eq_getElem h4] at this
  exact this
theorem okC_il {cl : List Int} (h : okC cl) : cl = il cl.length (cf cl) := list_ext (by rw [il_len]) fun j hj => by
  rw [il_at hj]; have := h j hj; unfold cf; omega
def planR (cl : List Int) (lim : Int) : List Int := if planE cl lim = 0 then il cl.length (planL cl lim.toNat) else []
end Go.Huf
