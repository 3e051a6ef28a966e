import Derived.Test.Qxb6500404aGreatRb
set_option linter.unusedVariables false
set_option linter.unusedSimpArgs false
namespace Go.Blk
open Go.Bits Go.Huf
open Go.Eng (bAt)
open Go.Proofs.Qxb6500404aGreat.HufW (fndI fndI_ok)
/-! ### an error that is no lack of bytes stays, whatever comes behind -/
theorem Xt.sym_bad {s t : TS} (x : Xt s t) {lf : Nat → Nat} {N : Nat} (hw : Lw lf N) (e0 : (syF s lf N).e ≠ 0) (e4 : (syF s lf N).e ≠ 4) : (syF t lf N).e = (syF s lf N).e := by
  have hg := got_le s
  have hg2 := got_le t
  have hlt : peekV s 10 < 2 ^ gotF s 10 := peekN_lt _ _ _
  have hq : syQ s lf N = fnd lf N (peekV s 10) (gotF s 10) := fndI_ok (by omega) hlt
  have hq2 : syQ t lf N = fnd lf N (peekV t 10) (gotF t 10) := fndI_ok (by omega) (peekN_lt _ _ _)
  have hn := x.n; have hp := x.p
  have hgs : gotF s 10 = min 10 (s.n - s.p) := by unfold gotF; rw [if_neg (by omega)]; rfl
  have hgt : gotF t 10 = min 10 (t.n - t.p) := by unfold gotF; rw [if_neg (by omega)]; rfl
  have hpk : peekV t 10 % 2 ^ gotF s 10 = peekV s 10 := by
    unfold peekV peekN
    rw [x.p, ← x.N]
    refine Nat.eq_of_testBit_eq fun j => ?_
    rw [Nat.testBit_mod_two_pow, Nat.testBit_mod_two_pow, Nat.testBit_mod_two_pow, Go.Bits.div_bit, Go.Bits.div_bit, Nat.testBit_mod_two_pow]
    by_cases hj : j < gotF s 10
    · simp [hj, show j < gotF t 10 by omega, show s.p + j < s.n by omega]
    · simp [hj]
  have es : (syF s lf N).e = (syQ s lf N).2.2 := by
    unfold syF; split
    · rfl
    · rename_i h; exact (Classical.not_not.1 h).symm
  have et : (syF t lf N).e = (syQ t lf N).2.2 := by
    unfold syF; split
    · rfl
    · rename_i h; exact (Classical.not_not.1 h).symm
  rw [es, hq] at e0 e4
  have h1 : ∀ v, v < N → lf v ≤ gotF s 10 → ¬ hd lf N v (peekV s 10) := fun v hv hl hh => e0 (by rw [hw.fnd_some hv hh hl])
  have h2 : ∀ v, v < N → gotF s 10 < lf v → cd lf N v % 2 ^ gotF s 10 ≠ peekV s 10 := fun v hv hl hh => e4 (by rw [hw.fnd_open hlt h1 hv hl hh])
  rw [es, et, hq, hq2, hw.fnd_none hlt h1 h2]
  unfold fnd
  cases ho : own lf N (peekV t 10) N with
  | none => rfl
  | some v =>
    exfalso
    obtain ⟨v1, v2⟩ := own_some ho
    rcases Nat.lt_or_ge (gotF s 10) (lf v) with q | q
    · refine h2 v v1 q ?_
      rw [← v2.2, pow_low (by omega), hpk]
    · refine h1 v v1 q ⟨v2.1, ?_⟩
      rw [← hpk, pow_low q]; exact v2.2
/-- two tapes, one longer -/
structure X8 (s t : TS) : Prop where
  x : Xt s t
  os : OK s
  ot : OK t
  ns : s.n % 8 = 0
  nt : t.n % 8 = 0
theorem X8.take {s t : TS} (x : X8 s t) {k : Nat} (e : skipE s (k : Int) = 0) : skipE t (k : Int) = 0 ∧ takeV t (k : Int) = takeV s (k : Int) ∧ X8 (skipS s (k : Int)) (skipS t (k : Int)) := by
  obtain ⟨h1, h2, h3⟩ := x.x.take e
  exact ⟨h1, h2, h3, x.os.skip _, x.ot.skip _, by rw [(skip_ad s _).n]; exact x.ns, by rw [(skip_ad t _).n]; exact x.nt⟩
theorem X8.sync {s t : TS} (x : X8 s t) : X8 (syncS s) (syncS t) :=
  ⟨x.x.sync x.os x.ot x.ns x.nt, x.os.sync, x.ot.sync, x.ns, x.nt⟩
theorem X8.sym {s t : TS} (x : X8 s t) {lf : Nat → Nat} {N : Nat} (hw : Lw lf N) (e : (syF s lf N).e = 0) : (syF t lf N).e = 0 ∧ (syF t lf N).v = (syF s lf N).v ∧ X8 (syF s lf N).s (syF t lf N).s := by
  obtain ⟨h1, h2, h3⟩ := x.x.sym hw e
  exact ⟨h1, h2, h3, sy_OK x.os, sy_OK x.ot, by rw [(sy_ad s lf N).n]; exact x.ns, by rw [(sy_ad t lf N).n]; exact x.nt⟩
structure St (D D' : DO) : Prop where
  ok : D.e = 0 → D'.e = 0 ∧ D'.out = D.out ∧ X8 D.s D'.s
  er : D.e ≠ 0 → D.e ≠ 4 → D'.e = D.e
theorem skipE_cases (s : TS) {k : Nat} (h : k ≤ 16) : skipE s (k : Int) = 0 ∨ skipE s (k : Int) = 4 := by
  unfold skipE; rw [if_neg (by omega)]; split
  · exact .inr rfl
  · exact .inl rfl
theorem st_no {D D' : DO} (h : D.e = 4) : St D D' := ⟨fun z => by omega, fun _ z => absurd h z⟩
theorem st_er {D D' : DO} (h0 : D.e ≠ 0) (h : D'.e = D.e) : St D D' := ⟨fun z => absurd z h0, fun _ _ => h⟩
theorem stoL_st : ∀ (m : Nat) {s t : TS} (x : X8 s t) (out : List Int) (a b : Nat), St (stoL m s out a) (stoL m t out b)
  | 0, s, t, x, out, a, b => ⟨fun _ => ⟨rfl, rfl, x⟩, fun z => absurd rfl z⟩
  | m + 1, s, t, x, out, a, b => by
    rcases skipE_cases s (k := 8) (by omega) with e | e
    · obtain ⟨h1, h2, h3⟩ := x.take e
      rw [show ((8 : Nat) : Int) = 8 from rfl] at e h1 h2 h3
      unfold stoL
      rw [if_neg (show ¬ skipE s 8 ≠ 0 by omega), if_neg (show ¬ skipE t 8 ≠ 0 by omega)]
      by_cases ho : 256 ≤ out.length
      · rw [if_pos ho, if_pos ho]; exact st_er (by simp) rfl
      · rw [if_neg ho, if_neg ho, h2]; exact stoL_st m h3 _ _ _
    · rw [show ((8 : Nat) : Int) = 8 from rfl] at e
      refine st_no ?_
      unfold stoL; rw [if_pos (by omega)]; exact e
theorem stoF_st {s t : TS} (x : X8 s t) (out : List Int) : St (stoF s out) (stoF t out) := by
  have y := x.sync
  rcases skipE_cases (syncS s) (k := 16) (by omega) with e | e
  · obtain ⟨h1, h2, h3⟩ := y.take e
    rw [show ((16 : Nat) : Int) = 16 from rfl] at e h1 h2 h3
    unfold stoF
    rw [if_neg (show ¬ skipE (syncS s) 16 ≠ 0 by omega), if_neg (show ¬ skipE (syncS t) 16 ≠ 0 by omega), h2]
    exact stoL_st _ h3 _ _ _
  · rw [show ((16 : Nat) : Int) = 16 from rfl] at e
    refine st_no ?_
    unfold stoF; rw [if_pos (by omega)]; exact e
structure Sl (D D' : LO) : Prop where
  ok : D.e = 0 → D'.e = 0 ∧ D'.l = D.l ∧ X8 D.s D'.s
  er : D.e ≠ 0 → D.e ≠ 4 → D'.e = D.e
theorem sl_no {D D' : LO} (h : D.e = 4) : Sl D D' := ⟨fun z => by omega, fun _ z => absurd h z⟩
theorem sl_er {D D' : LO} (h0 : D.e ≠ 0) (h : D'.e = D.e) : Sl D D' := ⟨fun z => absurd z h0, fun _ _ => h⟩
theorem lnF_st : ∀ (f : Nat) {s t : TS} (x : X8 s t) (l : List Nat), Sl (lnF f s l) (lnF f t l)
  | 0, s, t, x, l => ⟨fun _ => ⟨rfl, rfl, x⟩, fun z => absurd rfl z⟩
  | f + 1, s, t, x, l => by
    by_cases hl : 273 ≤ l.length
    · unfold lnF; rw [if_pos hl, if_pos hl]; exact ⟨fun _ => ⟨rfl, rfl, x⟩, fun z => absurd rfl z⟩
    rcases skipE_cases s (k := 4) (by omega) with e | e
    · obtain ⟨h1, h2, h3⟩ := x.take e
      rw [show ((4 : Nat) : Int) = 4 from rfl] at e h1 h2 h3
      unfold lnF
      rw [if_neg hl, if_neg hl, if_neg (show ¬ skipE s 4 ≠ 0 by omega), if_neg (show ¬ skipE t 4 ≠ 0 by omega), h2]
      by_cases c1 : takeV s 4 ≤ 10
      · rw [if_pos c1, if_pos c1]; exact lnF_st f h3 _
      rw [if_neg c1, if_neg c1]
      by_cases c2 : 12 < takeV s 4
      · rw [if_pos c2, if_pos c2]; exact sl_er (by simp) rfl
      rw [if_neg c2, if_neg c2]
      have hm : mr (takeV s 4) ≤ 16 := by unfold mr; split <;> omega
      rcases skipE_cases (skipS s 4) hm with g | g
      · obtain ⟨k1, k2, k3⟩ := h3.take g
        rw [if_neg (show ¬ skipE (skipS s 4) (mr (takeV s 4) : Int) ≠ 0 by omega), if_neg (show ¬ skipE (skipS t 4) (mr (takeV s 4) : Int) ≠ 0 by omega), k2]
        by_cases c3 : takeV s 4 = 12 ∧ l.length = 0
        · rw [if_pos c3, if_pos c3]; exact sl_er (by simp) rfl
        rw [if_neg c3, if_neg c3]
        by_cases c4 : 273 < l.length + 3 + takeV (skipS s 4) (mr (takeV s 4) : Int)
        · rw [if_pos c4, if_pos c4]; exact sl_er (by simp) rfl
        rw [if_neg c4, if_neg c4]
        exact lnF_st f k3 _
      · refine sl_no ?_
        rw [if_pos (by omega)]; exact g
    · rw [show ((4 : Nat) : Int) = 4 from rfl] at e
      refine sl_no ?_
      unfold lnF; rw [if_neg hl, if_pos (by omega)]; exact e
structure Sk (D D' : KO) : Prop where
  ok : D.e = 0 → D'.e = 0 ∧ D'.dn = D.dn ∧ D'.out = D.out ∧ X8 D.s D'.s
  er : D.e ≠ 0 → D.e ≠ 4 → D'.e = D.e ∧ D'.dn = true
  dn : D.e ≠ 0 → D.dn = true
theorem sk_no {D D' : KO} (h : D.e = 4) (h2 : D.dn = true) : Sk D D' := ⟨fun z => by omega, fun _ z => absurd h z, fun _ => h2⟩
theorem sk_er {D D' : KO} (h0 : D.e ≠ 0) (h : D'.e = D.e) (h1 : D'.dn = true) (h2 : D.dn = true) : Sk D D' := ⟨fun z => absurd z h0, fun _ _ => ⟨h, h1⟩, fun _ => h2⟩
theorem sy_cases (s : TS) (lf : Nat → Nat) (N : Nat) : (syF s lf N).e = 0 ∨ (syF s lf N).e = 4 ∨ ((syF s lf N).e ≠ 0 ∧ (syF s lf N).e ≠ 4) := by omega
theorem tkC_st {s t : TS} (x : X8 s t) {lb : Nat → Nat} (hw : Lw lb 8) (v : Nat) (out : List Int) : Sk (tkC s lb v out) (tkC t lb v out) := by
  rcases sy_cases s lb 8 with e | e | ⟨e, e4⟩
  · obtain ⟨h1, h2, h3⟩ := x.sym hw e
    unfold tkC
    rw [if_neg (show ¬ (syF s lb 8).e ≠ 0 by omega), if_neg (show ¬ (syF t lb 8).e ≠ 0 by omega), h2]
    have hm : dM (syF s lb 8).v ≤ 16 := by unfold dM; split; (omega); (split <;> omega)
    rcases skipE_cases (syF s lb 8).s hm with g | g
    · obtain ⟨k1, k2, k3⟩ := h3.take g
      rw [if_neg (show ¬ skipE (syF s lb 8).s (dM (syF s lb 8).v : Int) ≠ 0 by omega), if_neg (show ¬ skipE (syF t lb 8).s (dM (syF s lb 8).v : Int) ≠ 0 by omega), k2]
      by_cases c1 : out.length < dB (syF s lb 8).v + takeV (syF s lb 8).s (dM (syF s lb 8).v : Int)
      · rw [if_pos c1, if_pos c1]; exact sk_er (by simp) rfl rfl rfl
      rw [if_neg c1, if_neg c1]
      by_cases c2 : 256 < out.length + (v - 254)
      · rw [if_pos c2, if_pos c2]; exact sk_er (by simp) rfl rfl rfl
      rw [if_neg c2, if_neg c2]
      exact ⟨fun _ => ⟨rfl, rfl, rfl, k3⟩, fun z => absurd rfl z, fun z => absurd rfl z⟩
    · rw [if_pos (show skipE (syF s lb 8).s (dM (syF s lb 8).v : Int) ≠ 0 by omega)]
      exact sk_no g rfl
  · unfold tkC
    rw [if_pos (show (syF s lb 8).e ≠ 0 by omega)]
    exact sk_no e rfl
  · have h := x.x.sym_bad hw e e4
    unfold tkC
    rw [if_pos e, if_pos (show (syF t lb 8).e ≠ 0 by omega)]
    exact sk_er e h rfl rfl
theorem tkF_st {s t : TS} (x : X8 s t) {la lb : Nat → Nat} (ha : Lw la 265) (hb : Lw lb 8) (out : List Int) : Sk (tkF s la lb out) (tkF t la lb out) := by
  rcases sy_cases s la 265 with e | e | ⟨e, e4⟩
  · obtain ⟨h1, h2, h3⟩ := x.sym ha e
    unfold tkF
    rw [h2, h1, e]
    by_cases c0 : (syF s la 265).v = 256
    · rw [if_pos (.inr c0), if_pos (.inr c0)]
      exact ⟨fun _ => ⟨rfl, rfl, rfl, h3⟩, fun z => absurd rfl z, fun z => absurd rfl z⟩
    have c9 : ¬ ((0 : Nat) ≠ 0 ∨ (syF s la 265).v = 256) := by simp [c0]
    rw [if_neg c9, if_neg c9]
    by_cases c1 : (syF s la 265).v < 256
    · rw [if_pos c1, if_pos c1]
      by_cases c2 : 256 ≤ out.length
      · rw [if_pos c2, if_pos c2]; exact sk_er (by simp) rfl rfl rfl
      · rw [if_neg c2, if_neg c2]; exact ⟨fun _ => ⟨rfl, rfl, rfl, h3⟩, fun z => absurd rfl z, fun z => absurd rfl z⟩
    rw [if_neg c1, if_neg c1]
    exact tkC_st h3 hb _ _
  · unfold tkF
    rw [if_pos (.inl (show (syF s la 265).e ≠ 0 by omega))]
    exact sk_no e rfl
  · have h := x.x.sym_bad ha e e4
    unfold tkF
    rw [if_pos (.inl e), if_pos (.inl (show (syF t la 265).e ≠ 0 by omega))]
    exact sk_er e h rfl rfl
theorem cdF_st {la lb : Nat → Nat} (ha : Lw la 265) (hb : Lw lb 8) : ∀ (f : Nat) {s t : TS} (x : X8 s t) (out : List Int), St (cdF la lb f s out) (cdF la lb f t out)
  | 0, s, t, x, out => ⟨fun _ => ⟨rfl, rfl, x⟩, fun z => absurd rfl z⟩
  | f + 1, s, t, x, out => by
    have k := tkF_st x ha hb out
    unfold cdF
    by_cases e : (tkF s la lb out).e = 0
    · obtain ⟨k1, k2, k3, k4⟩ := k.ok e
      rw [k2, k3]
      by_cases c : (tkF s la lb out).dn = true
      · rw [if_pos c, if_pos c]; exact ⟨fun _ => ⟨k1, rfl, k4⟩, fun z => absurd e z⟩
      · rw [if_neg c, if_neg c]; exact cdF_st ha hb f k4 _
    · have hd := k.dn e
      rw [if_pos hd]
      by_cases e4 : (tkF s la lb out).e = 4
      · exact st_no e4
      · obtain ⟨k1, k2⟩ := k.er e e4
        rw [if_pos k2]
        exact st_er e k1
theorem coF_st {s t : TS} (x : X8 s t) {l : List Nat} (hl : l.length = 273) (a b : Nat) (out : List Int) : St (coF s l a out) (coF t l b out) := by
  unfold coF
  by_cases e : coE l = 0
  · rw [if_neg (by omega), if_neg (by omega)]
    obtain ⟨h1, h2, _⟩ := co_lw hl e
    exact cdF_st h1 h2 _ x out
  · rw [if_pos e, if_pos e]
    exact st_er e rfl
theorem lnF_len : ∀ (f : Nat) (s : TS) (l : List Nat), l.length ≤ 273 → 273 ≤ l.length + f → (lnF f s l).e = 0 → (lnF f s l).l.length = 273
  | 0, s, l, h1, h2, _ => by unfold lnF; simp only []; omega
  | f + 1, s, l, h1, h2, he => by
    unfold lnF at he ⊢
    split
    · simp only []; omega
    · rename_i c
      rw [if_neg c] at he
      split
      · rename_i c2; rw [if_pos c2] at he; exact absurd he c2
      · rename_i c2
        rw [if_neg c2] at he
        split
        · rename_i c3
          rw [if_pos c3] at he
          exact lnF_len f _ _ (by simp; omega) (by simp; omega) he
        · rename_i c3
          rw [if_neg c3] at he
          split
          · rename_i c4; rw [if_pos c4] at he; simp at he
          · rename_i c4
            rw [if_neg c4] at he
            split
            · rename_i c5; rw [if_pos c5] at he; exact absurd he c5
            · rename_i c5
              rw [if_neg c5] at he
              split
              · rename_i c6; rw [if_pos c6] at he; simp at he
              · rename_i c6
                rw [if_neg c6] at he
                split
                · rename_i c7; rw [if_pos c7] at he; simp at he
                · rename_i c7
                  rw [if_neg c7] at he
                  exact lnF_len f _ _ (by simp; omega) (by simp; omega) he
theorem dyF_st {s t : TS} (x : X8 s t) (out : List Int) : St (dyF s out) (dyF t out) := by
  have k := lnF_st 273 x []
  unfold dyF
  by_cases e : (lnF 273 s []).e = 0
  · obtain ⟨k1, k2, k3⟩ := k.ok e
    rw [if_neg (show ¬ (lnF 273 s []).e ≠ 0 by omega), if_neg (show ¬ (lnF 273 t []).e ≠ 0 by omega), k2]
    exact coF_st k3 (lnF_len 273 s [] (by simp) (by simp) e) _ _ _
  · rw [if_pos e]
    by_cases e4 : (lnF 273 s []).e = 4
    · exact st_no e4
    · have k1 := k.er e e4
      rw [if_pos (show (lnF 273 t []).e ≠ 0 by omega)]
      exact st_er e k1
theorem blF_st {s t : TS} (x : X8 s t) (kd a b : Nat) (out : List Int) : St (blF kd a s out) (blF kd b t out) := by
  unfold blF
  by_cases c0 : kd = 0
  · rw [if_pos c0, if_pos c0]; exact stoF_st x out
  rw [if_neg c0, if_neg c0]
  by_cases c1 : kd = 1
  · rw [if_pos c1, if_pos c1]; exact coF_st x fix_len _ _ out
  rw [if_neg c1, if_neg c1]
  by_cases c2 : kd = 2
  · rw [if_pos c2, if_pos c2]; exact dyF_st x out
  rw [if_neg c2, if_neg c2]; exact st_er (by simp) rfl
/-- a run's error stays -/
theorem rnF_st : ∀ (f : Nat) {s t : TS} (x : X8 s t) (out : List Int), (rnF f s out).e ≠ 0 → (rnF f s out).e ≠ 4 → (rnF f t out).e = (rnF f s out).e
  | 0, s, t, x, out, h, _ => absurd rfl h
  | f + 1, s, t, x, out, h0, h4 => by
    rcases skipE_cases s (k := 1) (by omega) with e | e
    · obtain ⟨h1, h2, h3⟩ := x.take e
      rw [show ((1 : Nat) : Int) = 1 from rfl] at e h1 h2 h3
      rcases skipE_cases (skipS s 1) (k := 2) (by omega) with g | g
      · obtain ⟨k1, k2, k3⟩ := h3.take g
        rw [show ((2 : Nat) : Int) = 2 from rfl] at g k1 k2 k3
        have b := blF_st k3 (takeV (skipS s 1) 2) (skipS s 1).p (skipS t 1).p out
        unfold rnF at h0 h4 ⊢
        rw [if_neg (show ¬ skipE s 1 ≠ 0 by omega), if_neg (show ¬ skipE (skipS s 1) 2 ≠ 0 by omega)] at h0 h4 ⊢
        rw [if_neg (show ¬ skipE t 1 ≠ 0 by omega), if_neg (show ¬ skipE (skipS t 1) 2 ≠ 0 by omega), k2, h2]
        by_cases c : (blF (takeV (skipS s 1) 2) (skipS s 1).p (skipS (skipS s 1) 2) out).e = 0
        · obtain ⟨m1, m2, m3⟩ := b.ok c
          rw [if_neg (show ¬ (blF (takeV (skipS s 1) 2) (skipS s 1).p (skipS (skipS s 1) 2) out).e ≠ 0 by omega)] at h0 h4 ⊢
          rw [if_neg (show ¬ (blF (takeV (skipS s 1) 2) (skipS t 1).p (skipS (skipS t 1) 2) out).e ≠ 0 by omega), m2]
          by_cases c2 : takeV s 1 = 0
          · rw [if_pos c2] at h0 h4 ⊢; rw [if_pos c2]; exact rnF_st f m3 _ h0 h4
          · rw [if_neg c2] at h0 h4 ⊢
            rw [if_neg c2]
            have y := m3.sync
            have y1 := y.x.p; have y2 := y.x.n
            unfold fiF at h0 h4 ⊢
            split at h0
            · rename_i z
              rw [if_pos z, if_pos (by omega)]
            · exact absurd rfl h0
        · rw [if_pos c] at h0 h4 ⊢
          have m := b.er h0 h4
          rw [if_pos (by omega), m]
      · rw [show ((2 : Nat) : Int) = 2 from rfl] at g
        exfalso; apply h4
        unfold rnF; rw [if_neg (show ¬ skipE s 1 ≠ 0 by omega), if_pos (by omega)]; exact g
    · rw [show ((1 : Nat) : Int) = 1 from rfl] at e
      exfalso; apply h4
      unfold rnF; rw [if_pos (by omega)]; exact e
end Go.Blk
