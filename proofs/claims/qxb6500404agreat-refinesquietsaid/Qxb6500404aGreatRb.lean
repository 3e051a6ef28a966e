import Derived.Test.Qxb6500404aGreatRa
set_option linter.unusedVariables false
set_option linter.unusedSimpArgs false
namespace Go.Blk
open Go.Bits Go.Huf
open Go.Eng (bAt mkS)
open Go.Proofs.Qxb6500404aGreat.HufW (lensE fndI lensE_lw fndI_ok)
/-! ### the list's pieces -/
section ls
variable {fin head : Nat} {l : List Nat} {s : TS} {out : List Int}
theorem ls_end (h : 273 ≤ l.length) : lsD fin head l s out = ctD fin (coF s l head out) := by unfold lsD; rw [lnF_end h, if_neg (by simp)]
theorem ls_no4 (hl : l.length < 273) (e : skipE s 4 ≠ 0) : lsD fin head l s out = ⟨out, skipE s 4, s.p, s⟩ := by
  unfold lsD
  have : lnF 273 s l = ⟨[], skipE s 4, s.p, s⟩ := by rw [lnF, if_neg (by omega), if_pos e]
  rw [this, if_pos e, ct_no e]
theorem ls_one (hl : l.length < 273) (e : skipE s 4 = 0) (h : takeV s 4 ≤ 10) : lsD fin head l s out = lsD fin head (l ++ [takeV s 4]) (skipS s 4) out := by
  unfold lsD
  have : lnF 273 s l = lnF 273 (skipS s 4) (l ++ [takeV s 4]) := by
    rw [lnF, if_neg (by omega), if_neg (by omega), if_pos h]
    exact lnF_fuel _ _ _ _ (by simp only [List.length_append, List.length_replicate, List.length_cons, List.length_nil]; omega) (by simp only [List.length_append, List.length_replicate, List.length_cons, List.length_nil]; omega)
  rw [this]
theorem ls_sym (hl : l.length < 273) (e : skipE s 4 = 0) (h : 12 < takeV s 4) : lsD fin head l s out = ⟨out, 8, s.p, skipS s 4⟩ := by
  unfold lsD
  have : lnF 273 s l = ⟨[], 8, s.p, skipS s 4⟩ := by rw [lnF, if_neg (by omega), if_neg (by omega), if_neg (by omega), if_pos h]
  rw [this, if_pos (by simp), ct_no (by simp)]
theorem ls_no (hl : l.length < 273) (e : skipE s 4 = 0) (h1 : ¬ takeV s 4 ≤ 10) (h2 : ¬ 12 < takeV s 4) (e2 : skipE (skipS s 4) (mr (takeV s 4)) ≠ 0) : lsD fin head l s out = ⟨out, skipE (skipS s 4) (mr (takeV s 4)), s.p, skipS s 4⟩ := by
  unfold lsD
  have : lnF 273 s l = ⟨[], skipE (skipS s 4) (mr (takeV s 4)), s.p, skipS s 4⟩ := by rw [lnF, if_neg (by omega), if_neg (by omega), if_neg h1, if_neg h2, if_pos e2]
  rw [this, if_pos e2, ct_no e2]
theorem ls_bad (hl : l.length < 273) (e : skipE s 4 = 0) (h1 : ¬ takeV s 4 ≤ 10) (h2 : ¬ 12 < takeV s 4) (e2 : skipE (skipS s 4) (mr (takeV s 4)) = 0) (h : (takeV s 4 = 12 ∧ l.length = 0) ∨ 273 < l.length + 3 + takeV (skipS s 4) (mr (takeV s 4))) : lsD fin head l s out = ⟨out, 8, s.p, skipS (skipS s 4) (mr (takeV s 4))⟩ := by
  unfold lsD
  have : lnF 273 s l = ⟨[], 8, s.p, skipS (skipS s 4) (mr (takeV s 4))⟩ := by
    rw [lnF, if_neg (by omega), if_neg (by omega), if_neg h1, if_neg h2, if_neg (by omega)]
    by_cases q : takeV s 4 = 12 ∧ l.length = 0
    · rw [if_pos q]
    · rw [if_neg q, if_pos (by rcases h with h | h; (exact absurd h q); (exact h))]
  rw [this, if_pos (by simp), ct_no (by simp)]
theorem ls_run (hl : l.length < 273) (e : skipE s 4 = 0) (h1 : ¬ takeV s 4 ≤ 10) (h2 : ¬ 12 < takeV s 4) (e2 : skipE (skipS s 4) (mr (takeV s 4)) = 0) (h3 : ¬ (takeV s 4 = 12 ∧ l.length = 0)) (h4 : ¬ 273 < l.length + 3 + takeV (skipS s 4) (mr (takeV s 4))) :
    lsD fin head l s out = lsD fin head (l ++ List.replicate (3 + takeV (skipS s 4) (mr (takeV s 4))) (if takeV s 4 = 12 then l.getD (l.length - 1) 0 else 0)) (skipS (skipS s 4) (mr (takeV s 4))) out := by
  unfold lsD
  have : lnF 273 s l = lnF 273 (skipS (skipS s 4) (mr (takeV s 4))) (l ++ List.replicate (3 + takeV (skipS s 4) (mr (takeV s 4))) (if takeV s 4 = 12 then l.getD (l.length - 1) 0 else 0)) := by
    rw [lnF, if_neg (by omega), if_neg (by omega), if_neg h1, if_neg h2, if_neg (by omega), if_neg h3, if_neg h4]
    exact lnF_fuel _ _ _ _ (by simp only [List.length_append, List.length_replicate, List.length_cons, List.length_nil]; omega) (by simp only [List.length_append, List.length_replicate, List.length_cons, List.length_nil]; omega)
  rw [this]
end ls
/-! ### the token's pieces -/
section tok
variable {fin : Nat} {la lb : Nat → Nat} {s : TS} {out : List Int}
theorem sy_no (e : (syF s la 265).e ≠ 0) : syD fin la lb s out = ⟨out, (syF s la 265).e, s.p, (syF s la 265).s⟩ := by
  unfold syD
  have : tkF s la lb out = ⟨out, true, (syF s la 265).e, (syF s la 265).s⟩ := by unfold tkF; rw [if_pos (.inl e)]
  rw [cdF, this, if_pos rfl, ct_no e]
theorem sy_eob (e : (syF s la 265).e = 0) (v : (syF s la 265).v = 256) : syD fin la lb s out = enD fin (syF s la 265).s out := by
  unfold syD
  have : tkF s la lb out = ⟨out, true, (syF s la 265).e, (syF s la 265).s⟩ := by unfold tkF; rw [if_pos (.inr v)]
  rw [cdF, this, if_pos rfl, e]; unfold ctD enD; rw [if_neg (by simp)]
theorem sy_full (e : (syF s la 265).e = 0) (v : (syF s la 265).v < 256) (h : 256 ≤ out.length) : syD fin la lb s out = ⟨out, 10, s.p, (syF s la 265).s⟩ := by
  unfold syD
  have : tkF s la lb out = ⟨out, true, 10, (syF s la 265).s⟩ := by unfold tkF; rw [if_neg (by omega), if_pos v, if_pos h]
  rw [cdF, this, if_pos rfl, ct_no (by simp)]
theorem cd_go (h : OK s) (hd : (tkF s la lb out).dn = false) : cdF la lb 4097 s out = cdF la lb 4097 (tkF s la lb out).s (tkF s la lb out).out := by
  rw [cdF, if_neg (by rw [hd]; simp)]
  have hl := tk_lt (s := s) (la := la) (lb := lb) (out := out) hd
  have ha := (tk_ad s la lb out).n
  have ho := tk_OK (la := la) (lb := lb) (out := out) h
  have hp := ho.2.1
  have hq := h.2.1
  have hr := h.2.2
  exact cdF_fuel la lb _ _ _ ho (by omega) (by omega)
theorem sy_lit (hs : OK s) (e : (syF s la 265).e = 0) (v : (syF s la 265).v < 256) (h : ¬ 256 ≤ out.length) : syD fin la lb s out = syD fin la lb (syF s la 265).s (out ++ [((syF s la 265).v : Int)]) := by
  unfold syD
  have : tkF s la lb out = ⟨out ++ [((syF s la 265).v : Int)], false, 0, (syF s la 265).s⟩ := by unfold tkF; rw [if_neg (by omega), if_pos v, if_neg h]
  rw [cd_go hs (by rw [this]), this]
theorem sy_len (hs : OK s) (e : (syF s la 265).e = 0) (v : 256 < (syF s la 265).v) : syD fin la lb s out = dsD fin la lb s.p ((syF s la 265).v - 254) (syF s la 265).s out := by
  unfold syD dsD tkD
  have : tkF s la lb out = tkC (syF s la 265).s lb ((syF s la 265).v - 254 + 254) out := by unfold tkF; rw [if_neg (by omega), if_neg (by omega), show (syF s la 265).v - 254 + 254 = (syF s la 265).v by omega]
  rw [← this]
  by_cases hd : (tkF s la lb out).dn = true
  · rw [cdF, if_pos hd, if_pos hd]
  · rw [if_neg hd, cd_go hs (by simpa using hd)]
theorem ds_no {pl run : Nat} (e : (syF s lb 8).e ≠ 0) : dsD fin la lb pl run s out = ⟨out, (syF s lb 8).e, pl, (syF s lb 8).s⟩ := by
  unfold dsD tkD tkC
  rw [if_pos e, if_pos rfl, ct_no e]
theorem ds_go {pl run : Nat} (e : (syF s lb 8).e = 0) : dsD fin la lb pl run s out = moD fin la lb pl run (dB (syF s lb 8).v) (dM (syF s lb 8).v) (syF s lb 8).s out := by
  unfold dsD moD tkC tkM
  rw [if_neg (by omega), Nat.add_sub_cancel]
theorem mo_no {pl run base more : Nat} (e : skipE s more ≠ 0) : moD fin la lb pl run base more s out = ⟨out, skipE s more, pl, s⟩ := by
  have h : tkM s run base more out = ⟨out, true, skipE s more, s⟩ := by unfold tkM; rw [if_pos e]
  unfold moD tkD; rw [h, if_pos rfl, ct_no e]
theorem mo_dist {pl run base more : Nat} (e : skipE s more = 0) (h : out.length < base + takeV s more) : moD fin la lb pl run base more s out = ⟨out, 9, pl, skipS s more⟩ := by
  have h : tkM s run base more out = ⟨out, true, 9, skipS s more⟩ := by unfold tkM; rw [if_neg (by omega), if_pos h]
  unfold moD tkD; rw [h, if_pos rfl, ct_no (by simp)]
theorem mo_out {pl run base more : Nat} (e : skipE s more = 0) (h : ¬ out.length < base + takeV s more) (h2 : 256 < out.length + run) : moD fin la lb pl run base more s out = ⟨out, 10, pl, skipS s more⟩ := by
  have h : tkM s run base more out = ⟨out, true, 10, skipS s more⟩ := by unfold tkM; rw [if_neg (by omega), if_neg h, if_pos h2]
  unfold moD tkD; rw [h, if_pos rfl, ct_no (by simp)]
theorem mo_go {pl run base more : Nat} (e : skipE s more = 0) (h : ¬ out.length < base + takeV s more) (h2 : ¬ 256 < out.length + run) : moD fin la lb pl run base more s out = syD fin la lb (skipS s more) (cpy out (base + takeV s more) run) := by
  have h : tkM s run base more out = ⟨cpy out (base + takeV s more) run, false, 0, skipS s more⟩ := by unfold tkM; rw [if_neg (by omega), if_neg h, if_neg h2]
  unfold moD tkD syD; rw [h, if_neg (by simp)]
end tok
/-! ### more bytes come -/
structure Xt (s t : TS) : Prop where
  p : t.p = s.p
  n : s.n ≤ t.n
  N : t.N % 2 ^ s.n = s.N
theorem Xt.refl {s : TS} (h : OK s) : Xt s s := ⟨rfl, Nat.le_refl _, Nat.mod_eq_of_lt h.1⟩
theorem Xt.take {s t : TS} (x : Xt s t) {k : Nat} (e : skipE s (k : Int) = 0) : skipE t (k : Int) = 0 ∧ takeV t (k : Int) = takeV s (k : Int) ∧ Xt (skipS s (k : Int)) (skipS t (k : Int)) := by
  have hk : k ≤ 16 ∧ s.p + k ≤ s.n := by
    unfold skipE at e
    split at e
    · cases e
    · split at e
      · cases e
      · omega
  have e2 : skipE t (k : Int) = 0 := by
    have h1 := x.p; have h2 := x.n
    unfold skipE; rw [if_neg (by omega), if_neg (by omega)]
  refine ⟨e2, ?_, ?_⟩
  · unfold takeV; rw [if_pos e, if_pos e2, Int.toNat_natCast]
    unfold peekN
    rw [x.p, ← x.N]
    refine Nat.eq_of_testBit_eq fun j => ?_
    rw [Nat.testBit_mod_two_pow, Nat.testBit_mod_two_pow, Go.Bits.div_bit, Go.Bits.div_bit, Nat.testBit_mod_two_pow]
    by_cases hj : j < k
    · simp [hj, show s.p + j < s.n by omega]
    · simp [hj]
  · unfold skipS; rw [if_pos e, if_pos e2]
    exact ⟨by simp only []; rw [x.p], x.n, x.N⟩
theorem Xt.sync {s t : TS} (x : Xt s t) (hs : OK s) (ht : OK t) (h8 : s.n % 8 = 0) (h8' : t.n % 8 = 0) : Xt (syncS s) (syncS t) := by
  have h1 := hs.2.1; have h2 := ht.2.1; have h3 := x.p; have h4 := x.n
  refine ⟨?_, x.n, x.N⟩
  unfold syncS; simp only []; omega
theorem sync8 {s : TS} (hs : OK s) (h8 : s.n % 8 = 0) : (syncS s).p % 8 = 0 := by
  have h1 := hs.2.1; unfold syncS; simp only []; omega
/-- a symbol that was found is found again -/
theorem Xt.sym {s t : TS} (x : Xt s t) {lf : Nat → Nat} {N : Nat} (hw : Lw lf N) (e : (syF s lf N).e = 0) : (syF t lf N).e = 0 ∧ (syF t lf N).v = (syF s lf N).v ∧ Xt (syF s lf N).s (syF t lf N).s := by
  have hg := got_le s
  have hg2 := got_le t
  have hq : syQ s lf N = fnd lf N (peekV s 10) (gotF s 10) := fndI_ok (by omega) (peekN_lt _ _ _)
  have hq2 : syQ t lf N = fnd lf N (peekV t 10) (gotF t 10) := fndI_ok (by omega) (peekN_lt _ _ _)
  obtain ⟨y1, y2, y3, y4, y5⟩ := sy_ok e
  -- the symbol's code heads what is seen
  have hv : ∃ v, syF s lf N = ⟨v, 0, skipS s (lf v : Int)⟩ ∧ v < N ∧ hd lf N v (peekV s 10) ∧ lf v ≤ gotF s 10 := by
    unfold syF at e ⊢
    split at e
    · rename_i h1; exact absurd e h1
    · rename_i h1
      rw [if_neg h1]
      have h1 : (syQ s lf N).2.2 = 0 := Classical.not_not.1 h1
      rw [hq] at h1 ⊢
      unfold fnd at h1 ⊢
      cases ho : own lf N (peekV s 10) N with
      | none => rw [ho] at h1; simp at h1
      | some v =>
        rw [ho] at h1
        simp only [] at h1 ⊢
        split at h1
        · rename_i h2
          obtain ⟨v1, v2⟩ := own_some ho
          exact ⟨v, by rw [if_pos h2], v1, v2, h2⟩
        · simp at h1
  obtain ⟨v, v1, v2, v3, v4⟩ := hv
  have hn := x.n; have hp := x.p
  have hgs : gotF s 10 = min 10 (s.n - s.p) := by unfold gotF; rw [if_neg (by omega)]; rfl
  have hgt : gotF t 10 = min 10 (t.n - t.p) := by unfold gotF; rw [if_neg (by omega)]; rfl
  have hpk : peekV t 10 % 2 ^ lf v = peekV s 10 % 2 ^ lf v := by
    unfold peekV peekN
    rw [x.p, ← x.N]
    refine Nat.eq_of_testBit_eq fun j => ?_
    rw [Nat.testBit_mod_two_pow, Nat.testBit_mod_two_pow, Nat.testBit_mod_two_pow, Nat.testBit_mod_two_pow, Go.Bits.div_bit, Go.Bits.div_bit, Nat.testBit_mod_two_pow]
    by_cases hj : j < lf v
    · simp [hj, show j < gotF s 10 by omega, show j < gotF t 10 by omega, show s.p + j < s.n by omega]
    · simp [hj]
  have hh : hd lf N v (peekV t 10) := ⟨v3.1, by rw [hpk]; exact v3.2⟩
  have hf : syQ t lf N = (v, lf v, 0) := by rw [hq2]; exact hw.fnd_some v2 hh (by omega)
  have ht : syF t lf N = ⟨v, 0, skipS t (lf v : Int)⟩ := by unfold syF; rw [hf, if_neg (by simp)]
  rw [ht, v1]
  refine ⟨rfl, rfl, ?_⟩
  have h0 := v3.1
  exact (x.take (by unfold skipE; rw [if_neg (by omega), if_neg (by omega)])).2.2
/-- what is still to come, whatever comes behind -/
def Gx (r : TS → DO) (s : TS) : Prop := ∀ t, Xt s t → OK t → t.n % 8 = 0 → rnF 4097 ⟨t.N, t.n, 0⟩ [] = r t
theorem Gx.z {s : TS} (h : s.p = 0) : Gx (fun t => rnF 4097 t []) s := fun t x _ _ => by
  have := x.p
  rw [show (⟨t.N, t.n, 0⟩ : TS) = t by rw [h] at this; cases t; simp only [] at this ⊢; rw [this]]
/-- the tape before, with what came behind -/
def bk (s t : TS) : TS := ⟨t.N, t.n, s.p⟩
theorem bk_x {s s' t : TS} (ha : Ad s s') (x : Xt s' t) (ht : OK t) : Xt s (bk s t) ∧ OK (bk s t) := by
  have h1 := ha.p; have h2 := x.p; have h3 := ht.2.1
  refine ⟨⟨rfl, by have := x.n; rw [ha.n] at this; exact this, by have := x.N; rw [ha.n, ha.N] at this; exact this⟩, ht.1, ?_, ht.2.2⟩
  simp only [bk]; omega
theorem bk_skip {s t : TS} {k : Nat} (e : skipE s (k : Int) = 0) (x : Xt (skipS s (k : Int)) t) (e2 : skipE (bk s t) (k : Int) = 0) : skipS (bk s t) (k : Int) = t := by
  have h1 := x.p
  rw [skip_p e] at h1
  unfold skipS; rw [if_pos e2, Int.toNat_natCast]
  cases t; simp only [bk] at h1 ⊢; rw [h1]
theorem Gx.take {r r' : TS → DO} {s : TS} {k : Nat} (g : Gx r s) (e : skipE s (k : Int) = 0) (h : ∀ t, OK t → t.n % 8 = 0 → skipE t (k : Int) = 0 → takeV t (k : Int) = takeV s (k : Int) → t.p = s.p → r t = r' (skipS t (k : Int))) : Gx r' (skipS s (k : Int)) := fun t x ht h8 => by
  obtain ⟨b1, b2⟩ := bk_x (skip_ad s k) x ht
  obtain ⟨t1, t2, _⟩ := b1.take e
  have := h (bk s t) b2 h8 t1 t2 rfl
  rw [bk_skip e x t1] at this
  rw [← this]
  exact g (bk s t) b1 b2 h8
theorem Gx.sym {r r' : TS → DO} {s : TS} {lf : Nat → Nat} {N : Nat} (hw : Lw lf N) (g : Gx r s) (e : (syF s lf N).e = 0) (h : ∀ t, OK t → (syF t lf N).e = 0 → (syF t lf N).v = (syF s lf N).v → t.p = s.p → r t = r' (syF t lf N).s) : Gx r' (syF s lf N).s := fun t x ht h8 => by
  obtain ⟨b1, b2⟩ := bk_x (sy_ad s lf N) x ht
  obtain ⟨t1, t2, t3⟩ := b1.sym hw e
  have := h (bk s t) b2 t1 t2 rfl
  have e1 := (sy_ok e).2.2
  have e2 := (sy_ok t1).2.2
  have ht9 : (syF (bk s t) lf N).s = t := by
    rw [e2.1, t2]
    have x2 := x
    rw [e1.1] at x2
    exact bk_skip e1.2.1 x2 (by rw [← t2]; exact e2.2.1)
  rw [ht9] at this
  rw [← this]
  exact g (bk s t) b1 b2 h8
theorem Gx.same {r r' : TS → DO} {s : TS} (g : Gx r s) (h : ∀ t, OK t → t.n % 8 = 0 → t.p = s.p → r t = r' t) : Gx r' s := fun t x ht h8 => by
  rw [← h t ht h8 x.p]; exact g t x ht h8
theorem Gx.sync {r : TS → DO} {s : TS} (hs : OK s) (h8 : s.n % 8 = 0) (g : Gx (fun t => r (syncS t)) s) : Gx r (syncS s) := fun t x ht h8' => by
  obtain ⟨b1, b2⟩ := bk_x (sync_ad hs) x ht
  have := g (bk s t) b1 b2 h8'
  have h1 := x.p; have h2 := ht.2.1; have h3 := hs.2.1
  have : syncS (bk s t) = t := by
    unfold syncS at h1 ⊢
    simp only [bk] at h1 ⊢
    have hp : min t.n ((s.p + 7) / 8 * 8) = t.p := by omega
    rw [hp]
  simp only [this] at *
  assumption
theorem Gx.ext {r : TS → DO} {s t : TS} (g : Gx r s) (x : Xt s t) : Gx r t := fun u y hu h8 => by
  refine g u ⟨by rw [y.p, x.p], Nat.le_trans x.n y.n, ?_⟩ hu h8
  rw [← x.N, ← y.N, Nat.mod_mod_of_dvd _ (Nat.pow_dvd_pow 2 x.n)]
end Go.Blk
