import Derived.Test.Qxb6500404aGreatNc
set_option linter.unusedVariables false
set_option linter.unusedSimpArgs false
namespace Go.Blk
open Go.Bits Go.Huf
open Go.Lz (Tok toks tokF advF parseF nF bestF byt tok_lit tok_dup nF_pos best_range adv_pos adv_le byt_len byt_succ parse_nil mkS_byt toks_len)
open Go.Eng (bAt mkS)
open Go.Proofs.Qxb6500404aGreat.HufW (lensE fndI fndI_hit lensE_lw)
/-! ### what a coded block's tokens lay -/
def sp (l : Nat → Nat) (N v : Nat) : Nat × Nat := (cd l N v, l v)
def tp (la lb : Nat → Nat) (t : Tok) : List (Nat × Nat) := if t.len = 0 then [sp la 265 t.lit.toNat] else [sp la 265 (t.len.toNat + 254), sp lb 8 (dC t.dist.toNat), (t.dist.toNat - dB (dC t.dist.toNat), dM (dC t.dist.toNat))]
def bp (la lb : Nat → Nat) : List Tok → List (Nat × Nat)
  | [] => [sp la 265 256]
  | t :: T => tp la lb t ++ bp la lb T
/-- what of the two alphabets a list of tokens uses has codes -/
def Us (la lb : Nat → Nat) (T : List Tok) : Prop := ∀ t, t ∈ T → (t.len = 0 → 0 < la t.lit.toNat) ∧ (t.len ≠ 0 → 0 < la (t.len.toNat + 254) ∧ 0 < lb (dC t.dist.toNat))
theorem sy_hit {s : TS} {lf : Nat → Nat} {N v : Nat} {tl : List (Nat × Nat)} (hr : Rd s (sp lf N v :: tl)) (hw : Lw lf N) (hv : v < N) (h0 : 0 < lf v) : syF s lf N = ⟨v, 0, skipS s (lf v : Int)⟩ ∧ Rd (skipS s (lf v : Int)) tl ∧ Go' s (skipS s (lf v : Int)) (lf v) := by
  have hl := hw.ln.le v hv
  have hc : cd lf N v < 2 ^ lf v := Ln.cd_lt v
  obtain ⟨a1, a2, a3, a4⟩ := hr.step hc (by omega)
  obtain ⟨p1, p2, p3, p4⟩ := hr.peek hc hl
  have hq : syQ s lf N = (v, lf v, 0) := fndI_hit hw hv ⟨h0, p3⟩ p1 (by omega) p4
  refine ⟨?_, a4, a3⟩
  unfold syF
  rw [hq, if_neg (by simp)]
theorem cpy_len (out : List Int) (d : Nat) : ∀ n, (cpy out d n).length = out.length + n
  | 0 => rfl
  | n + 1 => by rw [cpy, List.length_append, cpy_len out d n]; rfl
theorem byt_at {u : ByteArray} {p j : Nat} (h : j < p) : (byt u p).getD j 0 = (bAt u j : Int) := by simp [byt, h]
theorem cpy_byt {u : ByteArray} {i d : Nat} (h1 : 1 ≤ d) (h2 : d ≤ i) : ∀ n, (∀ j, j < n → bAt u (i - d + j) = bAt u (i + j)) → cpy (byt u i) d n = byt u (i + n)
  | 0, _ => rfl
  | n + 1, h => by
    rw [cpy, cpy_byt h1 h2 n (fun j hj => h j (by omega)), byt_len, byt_at (by omega), show i + n - d = i - d + n by omega, h n (by omega), ← byt_succ]; rfl
theorem tp_lit (la lb : Nat → Nat) (b : Nat) : tp la lb ⟨0, 0, (b : Int)⟩ = [sp la 265 b] := by unfold tp; rw [if_pos rfl]; rfl
theorem tp_dup (la lb : Nat → Nat) {n : Nat} (d : Nat) (h : n ≠ 0) : tp la lb ⟨(n : Int), (d : Int), 0⟩ = [sp la 265 (n + 254), sp lb 8 (dC d), (d - dB (dC d), dM (dC d))] := by unfold tp; rw [if_neg (by simp only []; omega)]; rfl
theorem ln_cons (q : Nat × Nat) (l : List (Nat × Nat)) : ln (q :: l) = q.2 + ln l := rfl
/-- the tokens of a text give the text -/
theorem cdF_body {la lb : Nat → Nat} (hA : Lw la 265) (hB : Lw lb 8) (hE : 0 < la 256) {u : ByteArray} (hu : u.size ≤ 256) {level : Int} : ∀ (f i F : Nat) (s : TS) (tl : List (Nat × Nat)), i ≤ u.size → u.size - i ≤ f → f < F → Us la lb (parseF u level f i) → Rd s (bp la lb (parseF u level f i) ++ tl) →
    ∃ s' pl, cdF la lb F s (byt u i) = ⟨byt u u.size, 0, pl, s'⟩ ∧ Rd s' tl ∧ Go' s s' (ln (bp la lb (parseF u level f i))) := by
  intro f
  have stop : ∀ (i F : Nat) (s : TS) (tl : List (Nat × Nat)), i = u.size → 0 < F → Rd s (bp la lb [] ++ tl) → ∃ s' pl, cdF la lb F s (byt u i) = ⟨byt u u.size, 0, pl, s'⟩ ∧ Rd s' tl ∧ Go' s s' (ln (bp la lb [])) := by
    intro i F s tl hi hF hr
    obtain ⟨h1, h2, h3⟩ := sy_hit (tl := tl) hr hA (by omega) hE
    cases F with
    | zero => omega
    | succ F =>
      have ht : tkF s la lb (byt u i) = ⟨byt u i, true, 0, skipS s (la 256 : Int)⟩ := by
        unfold tkF; rw [h1, if_pos (.inr rfl)]
      refine ⟨skipS s (la 256 : Int), s.p, ?_, h2, h3.N, h3.n, by rw [h3.p]; rfl⟩
      rw [cdF, ht, if_pos rfl, hi]
  induction f with
  | zero =>
    intro i F s tl hi hf hF hU hr
    exact stop i F s tl (by omega) hF hr
  | succ f ih =>
    intro i F s tl hi hf hF hU hr
    by_cases hlt : i < u.size
    · have hp : parseF u level (f + 1) i = tokF u level i :: parseF u level f (i + advF u level i) := by rw [parseF, if_pos hlt]
      rw [hp] at hU hr ⊢
      have hU0 := hU (tokF u level i) List.mem_cons_self
      have hU1 : Us la lb (parseF u level f (i + advF u level i)) := fun t ht => hU t (List.mem_cons_of_mem _ ht)
      have hap := adv_pos u level i
      have hal := adv_le (level := level) hlt
      rw [bp, List.append_assoc] at hr
      rw [bp, ln_app]
      cases F with
      | zero => omega
      | succ F =>
        by_cases hn : nF u level i = 0
        · obtain ⟨e1, e2⟩ := tok_lit hn
          have hb := Go.Lz.bAt_lt u i
          rw [e1] at hU0 hr ⊢
          rw [e2] at hU1 hr ⊢
          rw [tp_lit] at hr ⊢
          have h0 := hU0.1 rfl
          obtain ⟨h1, h2, h3⟩ := sy_hit hr hA (by omega) h0
          have ht : tkF s la lb (byt u i) = ⟨byt u (i + 1), false, 0, skipS s (la (bAt u i) : Int)⟩ := by
            unfold tkF
            rw [h1, if_neg (by simp; omega), if_pos hb, if_neg (by rw [byt_len]; omega), byt_succ]
          obtain ⟨s', pl, i1, i2, i3⟩ := ih (i + 1) F _ tl (by omega) (by omega) (by omega) hU1 h2
          refine ⟨s', pl, ?_, i2, ?_⟩
          · rw [cdF, ht, if_neg (by simp)]; exact i1
          · have h9 := h3.trans i3
            exact ⟨h9.N, h9.n, h9.p.trans (by rw [ln_cons, ln]; rfl)⟩
        · have hnp := nF_pos hn
          have hne : (bestF u i).1 ≠ 0 := by omega
          obtain ⟨e1, e2⟩ := tok_dup hnp.1 hne
          obtain ⟨r1, r2, r3, r4, r5, r6, r7⟩ := best_range hne
          rw [e1] at hU0 hr ⊢
          rw [e2] at hU1 hr ⊢
          rw [tp_dup _ _ _ hne] at hr ⊢
          generalize hnn : (bestF u i).1 = n at *
          generalize hdd : (bestF u i).2 = d at *
          obtain ⟨u1, u2⟩ := hU0.2 (by simp only []; omega)
          simp only [Int.toNat_natCast] at u1 u2
          obtain ⟨d1, d2, d3, d4⟩ := dC_is r3 r4
          obtain ⟨h1, h2, h3⟩ := sy_hit hr hA (by omega) u1
          obtain ⟨g1, g2, g3⟩ := sy_hit h2 hB d1 u2
          obtain ⟨a1, a2, a3, a4⟩ := g2.step d3 (by omega)
          have ht : tkF s la lb (byt u i) = ⟨byt u (i + n), false, 0, skipS (skipS (skipS s (la (n + 254) : Int)) (lb (dC d) : Int)) (dM (dC d) : Int)⟩ := by
            unfold tkF
            rw [h1, if_neg (by simp; omega), if_neg (by simp only []; omega)]
            unfold tkC
            rw [g1]
            simp only []
            rw [a1, a2, if_neg (by simp), if_neg (by simp), byt_len, if_neg (by omega), if_neg (by omega), show dB (dC d) + (d - dB (dC d)) = d by omega, show n + 254 - 254 = n by omega, cpy_byt r3 r5 n r7]
          obtain ⟨s', pl, i1, i2, i3⟩ := ih (i + n) F _ tl (by omega) (by omega) (by omega) hU1 a4
          refine ⟨s', pl, ?_, i2, ?_⟩
          · rw [cdF, ht, if_neg (by simp)]; exact i1
          · have h9 := ((h3.trans g3).trans a3).trans i3
            exact ⟨h9.N, h9.n, h9.p.trans (by simp only [ln_cons, ln, sp]; omega)⟩
    · have hp : parseF u level (f + 1) i = [] := by rw [parseF, if_neg hlt]
      rw [hp] at hr ⊢
      exact stop i F s tl (by omega) (by omega) hr
/-! ### a text, loaded -/
theorem byteN_ext {a b : Nat} (h : ∀ j, byteN a j = byteN b j) : a = b := by
  refine Nat.eq_of_testBit_eq fun k => ?_
  have h1 := byteN_bit a (k / 8) (k % 8)
  have h2 := byteN_bit b (k / 8) (k % 8)
  rw [h] at h1
  rw [h1] at h2
  rw [decide_eq_true (show k % 8 < 8 by omega), Bool.true_and, Bool.true_and, show 8 * (k / 8) + k % 8 = k by omega] at h2
  exact h2
theorem num_txt {N n : Nat} (h : N < 2 ^ n) : numS (txt N n) = N := by
  refine byteN_ext fun j => ?_
  unfold numS
  rw [numF_byte (Go.Bits.bAt_lt _), txt_size]
  split
  · exact txt_at (by assumption)
  · rw [byteN_high h (by omega)]
theorem load_txt {l : List (Nat × Nat)} (hv : Vd l) (hl : ln l ≤ 4096) : ¬ 512 < (txt (nm l) (ln l)).size ∧ loadS ⟨0, 0, 0⟩ (txt (nm l) (ln l)) = ⟨nm l, 8 * ((ln l + 7) / 8), 0⟩ := by
  have h1 := txt_size (nm l) (ln l)
  refine ⟨by omega, ?_⟩
  have e : loadE (txt (nm l) (ln l)) = 0 := by unfold loadE; rw [if_neg (by omega)]
  unfold loadS
  rw [if_pos e, num_txt (nm_lt hv), h1]
theorem load_rd {l : List (Nat × Nat)} (hv : Vd l) (hl : ln l ≤ 4096) : Rd (loadS ⟨0, 0, 0⟩ (txt (nm l) (ln l))) l := by
  have h0 := OK.zero.load (txt (nm l) (ln l))
  refine ⟨h0, ?_, ?_⟩
  · rw [(load_txt hv hl).2]; simp
  · rw [(load_txt hv hl).2]; simp only []; omega
/-- the end: nothing but the padding is left -/
theorem fi_end {l : List (Nat × Nat)} {s : TS} {out : List Int} (hn : s.n = 8 * ((ln l + 7) / 8)) (hp : s.p = ln l) : fiF s out = ⟨out, 0, 0, syncS s⟩ := by
  unfold fiF
  rw [if_neg (by unfold syncS; simp only []; omega)]
/-! ### the three kinds of block -/
def stp (u : ByteArray) : Nat → Nat → List (Nat × Nat)
  | _, 0 => []
  | i, m + 1 => (bAt u i, 8) :: stp u (i + 1) m
theorem stp_vd (u : ByteArray) : ∀ m i, Vd (stp u i m)
  | 0, _ => Vd.nil
  | m + 1, i => Vd.cons (by have := Go.Lz.bAt_lt u i; simp only []; omega) (by simp) (stp_vd u m (i + 1))
theorem stp_ln (u : ByteArray) : ∀ m i, ln (stp u i m) = 8 * m
  | 0, _ => rfl
  | m + 1, i => by rw [stp, ln_cons, stp_ln u m (i + 1)]; simp only []; omega
theorem stoL_is {u : ByteArray} (hu : u.size ≤ 256) : ∀ (m i : Nat) (s : TS) (pl : Nat), i + m ≤ u.size → Rd s (stp u i m) → ∃ s' pl', stoL m s (byt u i) pl = ⟨byt u (i + m), 0, pl', s'⟩ ∧ Go' s s' (8 * m)
  | 0, i, s, pl, _, _ => ⟨s, pl, rfl, rfl, rfl, rfl⟩
  | m + 1, i, s, pl, hi, hr => by
    have hb := Go.Lz.bAt_lt u i
    rw [stp] at hr
    obtain ⟨a1, a2, a3, a4⟩ := hr.step (by simpa using hb) (by omega)
    have e8 : ((8 : Nat) : Int) = 8 := rfl
    rw [e8] at a1 a2 a3 a4
    obtain ⟨s', pl', i1, i2⟩ := stoL_is hu m (i + 1) _ s.p (by omega) a4
    have h9 := a3.trans i2
    refine ⟨s', pl', ?_, h9.N, h9.n, h9.p.trans (by omega)⟩
    rw [stoL, a1, if_neg (by simp), byt_len, if_neg (by omega), a2, ← byt_succ, i1, show i + 1 + m = i + (m + 1) by omega]
/-- what a block lays -/
def emP (kd : Nat) (u : ByteArray) (T : List Tok) (l : List Nat) : List (Nat × Nat) :=
  if kd = 0 then (1, 1) :: (0, 2) :: (0, 5) :: (u.size, 16) :: stp u 0 u.size
  else (1, 1) :: (kd, 2) :: ((if kd = 2 then ips (itG none l) else []) ++ bp (cf (lA l)) (cf (lB l)) T)
theorem cf_lB {l : List Nat} {c : Nat} : cf (lB l) c = l.getD (265 + c) 0 := by
  unfold lB; rw [li_cf]; simp only []
  rw [List.getD_eq_getElem?_getD, List.getElem?_drop, List.getD_eq_getElem?_getD]
theorem cf_lA {l : List Nat} {v : Nat} (h : v < 265) : cf (lA l) v = l.getD v 0 := by
  unfold lA; rw [li_cf]; simp only []
  rw [List.getD_eq_getElem?_getD, List.getElem?_take, if_pos h, List.getD_eq_getElem?_getD]
theorem coE_0 {l : List Nat} (h : coE l = 0) : lensE (lA l) = 0 ∧ lensE (lB l) = 0 ∧ l.getD 256 0 ≠ 0 := by
  unfold coE at h
  split at h
  · omega
  · split at h
    · omega
    · split at h
      · omega
      · rename_i h1 h2 h3; exact ⟨by omega, by omega, h3⟩
theorem co_lw {l : List Nat} (hl : l.length = 273) (h : coE l = 0) : Lw (cf (lA l)) 265 ∧ Lw (cf (lB l)) 8 ∧ 0 < cf (lA l) 256 := by
  obtain ⟨h1, h2, h3⟩ := coE_0 h
  have a := (lensE_lw h1).2.2
  have b := (lensE_lw h2).2.2
  rw [show (lA l).length = 265 by unfold lA; rw [li_len]; simp; omega] at a
  rw [show (lB l).length = 8 by unfold lB; rw [li_len]; simp; omega] at b
  exact ⟨a, b, by rw [cf_lA (by omega)]; omega⟩
/-- THE ROUND TRIP -/
theorem run_emit {u : ByteArray} (hu : u.size ≤ 256) {level : Int} {kd : Nat} (hk : kd ≤ 2) {l : List Nat} (hl : l.length = 273) (hx : ∀ x, x ∈ l → x ≤ 10) (hc : coE l = 0) (hf : kd = 1 → l = fixL) (hU : Us (cf (lA l)) (cf (lB l)) (toks u level))
    (hv : Vd (emP kd u (toks u level) l)) (hn : ln (emP kd u (toks u level) l) ≤ 4096) : ∃ s, ruF (txt (nm (emP kd u (toks u level) l)) (ln (emP kd u (toks u level) l))) = ⟨byt u u.size, 0, 0, s⟩ := by
  obtain ⟨t1, t2⟩ := load_txt hv hn
  have hr := load_rd hv hn
  have hg : (loadS ⟨0, 0, 0⟩ (txt (nm (emP kd u (toks u level) l)) (ln (emP kd u (toks u level) l)))).n = 8 * ((ln (emP kd u (toks u level) l) + 7) / 8) := by rw [t2]
  have hp0 : (loadS ⟨0, 0, 0⟩ (txt (nm (emP kd u (toks u level) l)) (ln (emP kd u (toks u level) l)))).p = 0 := by rw [t2]
  unfold ruF
  rw [if_neg t1]
  generalize loadS ⟨0, 0, 0⟩ (txt (nm (emP kd u (toks u level) l)) (ln (emP kd u (toks u level) l))) = s at hr hg hp0 ⊢
  have key : ∃ rest, emP kd u (toks u level) l = (1, 1) :: (kd, 2) :: rest ∧ (∀ (s2 : TS) (pl : Nat), Rd s2 rest → s2.p = 3 → ∃ s' pl', blF kd pl s2 [] = ⟨byt u u.size, 0, pl', s'⟩ ∧ Go' s2 s' (ln rest)) := by
    by_cases h0 : kd = 0
    · subst h0
      refine ⟨(0, 5) :: (u.size, 16) :: stp u 0 u.size, rfl, fun s2 pl h2 hp => ?_⟩
      obtain ⟨a1, a2, a3, a4⟩ := h2.step (by simp) (by omega)
      have hsy : syncS s2 = skipS s2 ((5 : Nat) : Int) := by
        have h9 := h2.ln
        simp only [ln_cons] at h9
        have hs : skipS s2 ((5 : Nat) : Int) = ⟨s2.N, s2.n, s2.p + 5⟩ := by unfold skipS; rw [if_pos a1]; rfl
        rw [hs]; unfold syncS; congr 1; omega
      rw [← hsy] at a3 a4
      obtain ⟨b1, b2, b3, b4⟩ := a4.step (by omega) (by omega)
      have e16 : ((16 : Nat) : Int) = 16 := rfl
      rw [e16] at b1 b2 b3 b4
      obtain ⟨s', pl', i1, i2⟩ := stoL_is hu u.size 0 _ (syncS s2).p (by omega) b4
      have h9 := (a3.trans b3).trans i2
      refine ⟨s', pl', ?_, h9.N, h9.n, h9.p.trans (by simp only [ln_cons, stp_ln]; omega)⟩
      unfold blF stoF
      rw [if_pos rfl, b1, if_neg (by simp), b2]
      rw [Nat.zero_add] at i1
      exact i1
    · obtain ⟨wA, wB, wE⟩ := co_lw hl hc
      refine ⟨(if kd = 2 then ips (itG none l) else []) ++ bp (cf (lA l)) (cf (lB l)) (toks u level), by unfold emP; rw [if_neg h0], fun s2 pl h2 hp => ?_⟩
      have hcod : ∀ (s3 : TS) (hdp : Nat), Rd s3 (bp (cf (lA l)) (cf (lB l)) (toks u level)) → ∃ s' pl', coF s3 l hdp [] = ⟨byt u u.size, 0, pl', s'⟩ ∧ Go' s3 s' (ln (bp (cf (lA l)) (cf (lB l)) (toks u level))) := by
        intro s3 hdp h3
        obtain ⟨s', pl', i1, i2, i3⟩ := cdF_body wA wB wE hu (level := level) u.size 0 4097 s3 [] (by omega) (by omega) (by omega) hU (by rw [List.append_nil]; exact h3)
        exact ⟨s', pl', by unfold coF; rw [hc, if_neg (by simp)]; exact i1, i3⟩
      by_cases h2k : kd = 2
      · rw [if_pos h2k] at h2 ⊢
        obtain ⟨s3, j1, j2, j3⟩ := lnF_items 273 l [] none s2 (bp (cf (lA l)) (cf (lB l)) (toks u level)) (by omega) (by simp [hl]) (fun x e => by cases e) hx h2
        obtain ⟨s', pl', k1, k2⟩ := hcod s3 s2.p j2
        have h9 := j3.trans k2
        refine ⟨s', pl', ?_, h9.N, h9.n, h9.p.trans (by rw [ln_app, ln_ips])⟩
        unfold blF dyF
        rw [if_neg h0, if_neg (by omega), if_pos h2k, j1, if_neg (by simp)]
        simp only [List.nil_append]
        exact k1
      · rw [if_neg h2k, List.nil_append] at h2 ⊢
        have h1k : kd = 1 := by omega
        obtain ⟨s', pl', k1, k2⟩ := hcod s2 s2.p h2
        refine ⟨s', pl', ?_, k2⟩
        unfold blF
        rw [if_neg h0, if_pos h1k, ← hf h1k]
        exact k1
  obtain ⟨rest, e1, e2⟩ := key
  have hln : ln (emP kd u (toks u level) l) = 3 + ln rest := by rw [e1, ln_cons, ln_cons]; simp only []; omega
  rw [e1] at hr
  obtain ⟨a1, a2, a3, a4⟩ := hr.step (by simp) (by omega)
  obtain ⟨b1, b2, b3, b4⟩ := a4.step (by omega) (by omega)
  have e1' : ((1 : Nat) : Int) = 1 := rfl
  have e2' : ((2 : Nat) : Int) = 2 := rfl
  rw [e1'] at a1 a2 a3 a4 b1 b2 b3 b4
  rw [e2'] at b1 b2 b3 b4
  obtain ⟨s', pl', k1, k2⟩ := e2 _ (skipS s 1).p b4 (by rw [b3.p, a3.p]; omega)
  have h9 := (a3.trans b3).trans k2
  refine ⟨syncS s', ?_⟩
  rw [rnF, a1, if_neg (by simp), b1, if_neg (by simp), b2, k1, if_neg (by simp), a2, if_neg (by simp)]
  exact fi_end (l := emP kd u (toks u level) l) (by rw [h9.n, hg]) (by rw [h9.p, hp0, hln]; omega)
theorem fix_len : fixL.length = 273 := by unfold fixL; rw [List.length_append, List.length_append, List.length_replicate, List.length_replicate, List.length_replicate]
theorem fix_le : ∀ x, x ∈ fixL → x ≤ 10 := by
  intro x hx
  simp only [fixL, List.mem_append, List.mem_replicate] at hx
  omega
theorem fix_e : coE fixL = 0 := by decide +kernel
end Go.Blk
