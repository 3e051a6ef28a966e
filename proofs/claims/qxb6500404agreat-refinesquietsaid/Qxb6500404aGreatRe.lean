import Derived.Test.Qxb6500404aGreatRd
set_option linter.unusedVariables false
set_option linter.unusedSimpArgs false
set_option linter.unusedSectionVars false
namespace Go.Proofs.Qxb6500404aGreat
open Go.Eng Go.Bits Go.Blk HufW
/-! ### what a look at eleven bits shows -/
theorem got11 (s : TS) : gotF s 11 = min 11 (s.n - s.p) := by unfold gotF; rw [if_neg (by omega)]; rfl
theorem pk_lt (s : TS) : peekV s 11 < 2048 := by
  have := peekN_lt s.N s.p (gotF s 11)
  have h2 : 2 ^ gotF s 11 ≤ 2 ^ 11 := Nat.pow_le_pow_right (by omega) (by rw [got11]; omega)
  unfold peekV; omega
theorem look4 {s : TS} (h : 4 ≤ gotF s 11) : skipE s 4 = 0 ∧ peekV s 11 % 16 = takeV s 4 := by
  rw [got11] at h
  have e : skipE s 4 = 0 := by unfold skipE; rw [if_neg (by omega), if_neg (by omega)]
  refine ⟨e, ?_⟩
  unfold takeV peekV peekN; rw [if_pos e, got11, show (4 : Int).toNat = 4 from rfl, show (16 : Nat) = 2 ^ 4 from rfl, Nat.mod_mod_of_dvd _ (Nat.pow_dvd_pow 2 (by omega))]
theorem look_no {s : TS} (h : gotF s 11 < 4) : skipE s 4 = 4 := by
  rw [got11] at h
  unfold skipE; rw [if_neg (by omega), if_pos (by omega)]
theorem lookw {s : TS} {w : Nat} (hw : w ≤ 7) (h : 4 + w ≤ gotF s 11) : skipE (skipS s 4) (w : Int) = 0 ∧ peekV s 11 / 16 % 2 ^ w = takeV (skipS s 4) (w : Int) ∧ skipE s ((4 + w : Nat) : Int) = 0 ∧ skipS s ((4 + w : Nat) : Int) = skipS (skipS s 4) (w : Int) := by
  obtain ⟨e4, _⟩ := look4 (s := s) (by omega)
  rw [got11] at h
  have es : skipS s 4 = ⟨s.N, s.n, s.p + 4⟩ := by unfold skipS; rw [if_pos e4]; rfl
  have ew : skipE (skipS s 4) (w : Int) = 0 := by rw [es]; unfold skipE; rw [if_neg (by omega), if_neg (by simp only []; omega)]
  have e5 : skipE s ((4 + w : Nat) : Int) = 0 := by unfold skipE; rw [if_neg (by omega), if_neg (by omega)]
  refine ⟨ew, ?_, e5, ?_⟩
  · unfold takeV; rw [if_pos ew, es, Int.toNat_natCast]; unfold peekV peekN; rw [got11]; simp only []
    refine Nat.eq_of_testBit_eq fun j => ?_
    rw [Nat.testBit_mod_two_pow, Nat.testBit_mod_two_pow, show (16 : Nat) = 2 ^ 4 from rfl, Go.Bits.div_bit, Nat.testBit_mod_two_pow, Go.Bits.div_bit, Go.Bits.div_bit]
    by_cases hj : j < w
    · simp [hj, show 4 + j < min 11 (s.n - s.p) by omega, Nat.add_assoc]
    · simp [hj]
  · rw [es]
    have : skipE ⟨s.N, s.n, s.p + 4⟩ (w : Int) = 0 := by rw [← es]; exact ew
    unfold skipS; rw [if_pos e5, if_pos this, Int.toNat_natCast, Int.toNat_natCast, Nat.add_assoc]
theorem lookw_no {s : TS} {w : Nat} (hw : w ≤ 7) (h4 : 4 ≤ gotF s 11) (h : gotF s 11 < 4 + w) : skipE (skipS s 4) (w : Int) = 4 := by
  obtain ⟨e4, _⟩ := look4 (s := s) h4
  rw [got11] at h h4
  have es : skipS s 4 = ⟨s.N, s.n, s.p + 4⟩ := by unfold skipS; rw [if_pos e4]; rfl
  rw [es]; unfold skipE; rw [if_neg (by omega), if_pos (by simp only []; omega)]
theorem mr_le (i : Nat) : mr i ≤ 7 := by unfold mr; split <;> omega
theorem ra_ups (f : Nat → Nat) (n x : Nat) : ra (n + 1) (Huf.ups f n x) = ra n f ++ [x] := by
  apply List.ext_getElem
  · simp [ra]
  · intro i h1 h2
    simp only [ra, List.length_map, List.length_range] at h1
    rcases Nat.lt_or_ge i n with q | q
    · rw [List.getElem_append_left (by simpa [ra] using q)]
      simp [ra, Huf.ups, show i ≠ n by omega]
    · have hi : i = n := by omega
      subst hi
      rw [List.getElem_append_right (by simp [ra])]
      simp [ra, Huf.ups]
theorem ra_cong {n : Nat} {f g : Nat → Nat} (h : ∀ i, i < n → f i = g i) : ra n f = ra n g := by
  unfold ra; exact List.map_congr_left fun i hi => h i (List.mem_range.1 hi)
section mi
variable {raw : ByteArray} {r : SR} {out : List Int} {sent : Nat} {s : TS} {ua ub : HC} {fa fb : Nat → Nat}
/-! list: an item was taken; the list is not full yet -/
theorem MI.item (m : MI raw r out sent s ua ub fa fb) {s1 : TS} {r1 : SR} (hp : r.ph = 4) (had : Ad s s1) (ho : OK s1) (hlt : s.p < s1.p) (h1 : r1.tt = r.tt) (h2 : r1.w = r.w) (h3 : r1.fl = r.fl) (h4 : r1.n = r.n) (h5 : r1.rg = r.rg) (h6 : r1.bf = r.bf) (h7 : r1.fed = r.fed) (h8 : ∀ j, j < 273 → r1.ls j ≤ 10) (h9 : r1.at_ = s.p) (h10 : r1.hd = r.hd) (h11 : r1.fi = r.fi) (h12 : r1.held = r.held) (h13 : r1.ph = 4) (hix : r1.ix < 273)
    (g : Gx (fun t => lsD r.fi r.hd (ra r1.ix r1.ls) t out) s1) : TPo raw r out sent s 0 r1 out s1 ua ub := by
  have hhd := m.w.hd
  have hon := ho.2.1
  have hn := had.n
  refine .inl ⟨rfl, ⟨fa, fb, m.adv had ho h1 h2 h3 h4 h5 h6 h7 h8 (by omega) (by omega) (by rw [h11]; exact m.w.fi) h12, ?_, fun z => by omega, fun z => by omega, fun z => by omega, fun _ => hix, fun z => by omega, fun z => by omega, ?_, by omega⟩, ?_⟩
  · rw [rs4 h13, h10, h11]; exact g
  · rcases m.jm with q | q | ⟨q, _⟩
    · exact .inl q
    · exact .inr (.inl q)
    · exact .inr (.inr ⟨q, .inr (.inr h13)⟩)
  · unfold mz; rw [hp, h13, if_neg (by omega)]; omega
/-- the list is full: the sets -/
theorem MI.full (m : MI raw r out sent s ua ub fa fb) {s1 : TS} {r1 : SR} {va vb : HC} (hp : r.ph = 4) (had : Ad s s1) (ho : OK s1) (hlt : s.p < s1.p) (h1 : r1.tt = r.tt) (h2 : r1.w = r.w) (h3 : r1.fl = r.fl) (h4 : r1.n = r.n) (h5 : r1.rg = r.rg) (h6 : r1.bf = r.bf) (h7 : r1.fed = r.fed) (h8 : ∀ j, j < 273 → r1.ls j ≤ 10) (h10 : r1.hd = r.hd) (h11 : r1.fi = r.fi) (h13 : r1.ph = 4)
    (g : Gx (fun t => lsD r.fi r.hd (ra 273 r1.ls) t out) s1) (hk : coE (ra 273 r1.ls) = 0 → CK va (Huf.cf (lA (ra 273 r1.ls))) ∧ va.n = 265 ∧ CK vb (Huf.cf (lB (ra 273 r1.ls))) ∧ vb.n = 8) (hbt : ua.n = 265 ∧ ub.n = 8 → va.n = 265 ∧ vb.n = 8) : TPo raw r out sent s (coE (ra 273 r1.ls)) { r1 with at_ := r1.hd, held := false, ph := if coE (ra 273 r1.ls) = 0 then 5 else r1.ph } out s1 va vb := by
  have w := m.w
  have si := w.si
  have hhd := w.hd
  have hon := ho.2.1
  have hn := had.n
  have hN := had.N
  have hfi := w.fi
  have hjw : (va.n = 265 ∧ vb.n = 8) ∨ K0 raw ∨ out = [] := by
    rcases w.jw with q | q
    · exact .inl (hbt q)
    · exact .inr q
  have g2 : Gx (fun t => ctD r.fi (coF t (ra 273 r1.ls) r.hd out)) s1 := g.same fun t _ _ _ => ls_end (by rw [ra_len]; exact Nat.le_refl _)
  have hw : ∀ p, WI raw { r1 with at_ := r1.hd, held := false, ph := p } out sent s1 va vb := fun p =>
    ⟨⟨by simp only []; rw [h1]; exact si.tt, by simp only []; rw [h2]; exact si.w, by simp only []; rw [h3]; exact si.fl, by simp only []; rw [h4]; exact si.n, si.le, by simp only []; rw [h5]; exact si.rg, by simp only []; rw [h4, h6]; exact si.bf⟩, by rw [hN]; exact w.N, by rw [hn]; exact w.n, ho, w.z, by simp only []; rw [h7]; exact w.fed, h8, by simp only []; omega, by simp only []; omega, by simp only []; omega, fun z => (by cases z), hjw⟩
  by_cases hc : coE (ra 273 r1.ls) = 0
  · rw [hc, if_pos rfl]
    obtain ⟨k1, k2, k3, k4⟩ := hk hc
    obtain ⟨_, _, hE⟩ := co_lw (ra_len 273 r1.ls) hc
    refine .inl ⟨rfl, ⟨Huf.cf (lA (ra 273 r1.ls)), Huf.cf (lB (ra 273 r1.ls)), hw 5, ?_, fun _ _ => ⟨k1, k2, k3, k4, hE⟩, fun z => by simp only [] at z; omega, fun z => by simp only [] at z; omega, fun z => by simp only [] at z; omega, fun z => by simp only [] at z; omega, fun z => by simp only [] at z; omega, .inl ⟨k2, k4⟩, by simp only []; omega⟩, ?_⟩
    · rw [rs5 rfl]
      have := g2.same (r' := fun t => syD r.fi (Huf.cf (lA (ra 273 r1.ls))) (Huf.cf (lB (ra 273 r1.ls))) t out) fun t _ _ _ => co_go hc
      simp only []
      rw [h11]; exact this
    · unfold mz; rw [hp]; simp only []; rw [if_neg (by omega), if_neg (by omega)]; omega
  · rw [if_neg hc]
    refine .inr ⟨hc, rfl, fun z => ?_, hw _, s1, ?_⟩
    · exfalso
      unfold coE at z
      have hle : ∀ cl : List Int, lensE cl ≠ 4 := fun cl z => by
        unfold lensE at z
        repeat' split at z
        all_goals omega
      split at z
      · exact hle _ z
      · split at z
        · exact hle _ z
        · split at z <;> omega
    · have hx := g2 s1 (Xt.refl ho) ho (by rw [hn, w.n]; omega)
      rw [hN, hn] at hx
      rw [hx]
      simp only []
      rw [co_no hc, h10]
end mi
end Go.Proofs.Qxb6500404aGreat
