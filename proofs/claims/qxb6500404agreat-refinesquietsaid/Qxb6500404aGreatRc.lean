import Derived.Test.Qxb6500404aGreatSb
set_option linter.unusedVariables false
set_option linter.unusedSimpArgs false
set_option linter.unusedSectionVars false
namespace Go.Proofs.Qxb6500404aGreat
open Go.Eng Go.Bits Go.Blk HufW
/-! ### the machine's invariant -/
structure SI (r : SR) (out : List Int) (sent : Nat) : Prop where
  tt : r.tt = out.length
  w : r.w = out.length % 16
  fl : r.fl = min out.length 16
  n : r.n + sent = out.length
  le : out.length ≤ 256
  rg : ∀ i, i < out.length → out.length ≤ i + 16 → r.rg (i % 16) = out.getD i 0
  bf : ∀ j, j < r.n → r.bf j = out.getD (sent + j) 0
theorem getD_app {l : List Int} {x : Int} {i : Nat} (h : i < l.length) : (l ++ [x]).getD i 0 = l.getD i 0 := by
  rw [List.getD_eq_getElem?_getD, List.getElem?_append_left h, List.getD_eq_getElem?_getD]
theorem getD_last {l : List Int} {x : Int} : (l ++ [x]).getD l.length 0 = x := by
  rw [List.getD_eq_getElem?_getD, List.getElem?_append_right (Nat.le_refl _)]; simp
theorem SI.give {r : SR} {out : List Int} {sent : Nat} (si : SI r out sent) (h : out.length < 256) (c : Int) : SI (giv r c) (out ++ [c]) sent := by
  have e1 := si.tt; have e2 := si.w; have e3 := si.fl; have e4 := si.n
  have hl : (out ++ [c]).length = out.length + 1 := by simp
  refine ⟨by rw [hl]; simp only [giv]; omega, by rw [hl]; simp only [giv]; split <;> omega, by rw [hl]; simp only [giv]; split <;> omega, by rw [hl]; simp only [giv]; omega, by omega, fun i h1 h2 => ?_, fun j hj => ?_⟩
  · rw [hl] at h1 h2
    simp only [giv, Huf.ups]
    by_cases q : i = out.length
    · rw [if_pos (by rw [e2, q]), q, getD_last]
    · rw [if_neg (by rw [e2]; omega), getD_app (by omega)]
      exact si.rg i (by omega) (by omega)
  · simp only [giv] at hj ⊢
    simp only [Huf.ups]
    by_cases q : j = r.n
    · rw [if_pos q, q, show sent + r.n = out.length by omega, getD_last]
    · rw [if_neg q, getD_app (by omega)]
      exact si.bf j (by omega)
def K0 (raw : ByteArray) : Prop := 0 < raw.size ∧ bAt raw 0 / 2 % 4 = 0
structure WI (raw : ByteArray) (r : SR) (out : List Int) (sent : Nat) (s : TS) (ua ub : HC) : Prop where
  si : SI r out sent
  N : s.N = numS raw
  n : s.n = 8 * raw.size
  ok : OK s
  z : raw.size ≤ 512
  fed : r.fed = raw.size
  l10 : ∀ j, j < 273 → r.ls j ≤ 10
  at_ : r.at_ ≤ s.p
  hd : r.hd ≤ s.p
  fi : r.fi ≤ 1
  hl : r.held = true → CK ua (Huf.cf (lA fixL)) ∧ ua.n = 265 ∧ CK ub (Huf.cf (lB fixL)) ∧ ub.n = 8
  jw : (ua.n = 265 ∧ ub.n = 8) ∨ K0 raw ∨ out = []
def rsD (fa fb : Nat → Nat) (r : SR) (out : List Int) (t : TS) : DO :=
  if r.ph = 0 then rnF 4097 t out else if r.ph = 1 then knD r.fi t out else if r.ph = 2 then szD r.fi t out else if r.ph = 3 then byD r.fi r.du t out
  else if r.ph = 4 then lsD r.fi r.hd (ra r.ix r.ls) t out else if r.ph = 5 then syD r.fi fa fb t out else if r.ph = 6 then dsD r.fi fa fb r.at_ r.rn t out
  else if r.ph = 7 then moD r.fi fa fb r.at_ r.rn r.ba r.mo t out else fiT t out
section rs
variable {fa fb : Nat → Nat} {r : SR} {out : List Int}
theorem rs0 (h : r.ph = 0) : rsD fa fb r out = fun t => rnF 4097 t out := by funext t; unfold rsD; rw [if_pos h]
theorem rs1 (h : r.ph = 1) : rsD fa fb r out = fun t => knD r.fi t out := by funext t; unfold rsD; rw [if_neg (by omega), if_pos h]
theorem rs2 (h : r.ph = 2) : rsD fa fb r out = fun t => szD r.fi t out := by funext t; unfold rsD; rw [if_neg (by omega), if_neg (by omega), if_pos h]
theorem rs3 (h : r.ph = 3) : rsD fa fb r out = fun t => byD r.fi r.du t out := by funext t; unfold rsD; rw [if_neg (by omega), if_neg (by omega), if_neg (by omega), if_pos h]
theorem rs4 (h : r.ph = 4) : rsD fa fb r out = fun t => lsD r.fi r.hd (ra r.ix r.ls) t out := by funext t; unfold rsD; rw [if_neg (by omega), if_neg (by omega), if_neg (by omega), if_neg (by omega), if_pos h]
theorem rs5 (h : r.ph = 5) : rsD fa fb r out = fun t => syD r.fi fa fb t out := by funext t; unfold rsD; rw [if_neg (by omega), if_neg (by omega), if_neg (by omega), if_neg (by omega), if_neg (by omega), if_pos h]
theorem rs6 (h : r.ph = 6) : rsD fa fb r out = fun t => dsD r.fi fa fb r.at_ r.rn t out := by funext t; unfold rsD; rw [if_neg (by omega), if_neg (by omega), if_neg (by omega), if_neg (by omega), if_neg (by omega), if_neg (by omega), if_pos h]
theorem rs7 (h : r.ph = 7) : rsD fa fb r out = fun t => moD r.fi fa fb r.at_ r.rn r.ba r.mo t out := by funext t; unfold rsD; rw [if_neg (by omega), if_neg (by omega), if_neg (by omega), if_neg (by omega), if_neg (by omega), if_neg (by omega), if_neg (by omega), if_pos h]
theorem rs8 (h : r.ph = 8) : rsD fa fb r out = fun t => fiT t out := by funext t; unfold rsD; rw [if_neg (by omega), if_neg (by omega), if_neg (by omega), if_neg (by omega), if_neg (by omega), if_neg (by omega), if_neg (by omega), if_neg (by omega)]
end rs
structure MI (raw : ByteArray) (r : SR) (out : List Int) (sent : Nat) (s : TS) (ua ub : HC) (fa fb : Nat → Nat) : Prop where
  w : WI raw r out sent s ua ub
  gx : Gx (rsD fa fb r out) s
  ck : 5 ≤ r.ph → r.ph ≤ 7 → CK ua fa ∧ ua.n = 265 ∧ CK ub fb ∧ ub.n = 8 ∧ 0 < fa 256
  p8 : r.ph = 2 ∨ r.ph = 3 ∨ r.ph = 8 → s.p % 8 = 0
  du : r.ph = 3 → 1 ≤ r.du ∧ r.du < 65536
  ix : r.ph = 4 → r.ix < 273
  rn : r.ph = 6 ∨ r.ph = 7 → 3 ≤ r.rn ∧ r.rn ≤ 10
  ba : r.ph = 7 → r.mo ≤ 2 ∧ 1 ≤ r.ba ∧ r.ba + 2 ^ r.mo ≤ 17
  jm : (ua.n = 265 ∧ ub.n = 8) ∨ K0 raw ∨ (out = [] ∧ ((r.ph = 0 ∧ s.p = 0) ∨ (r.ph = 1 ∧ s.p = 1) ∨ r.ph = 4))
  p9 : r.ph ≤ 8
def mz (r : SR) (s : TS) : Nat := 2 * (s.n - s.p) + (if r.ph = 7 then 1 else 0)
def TPo (raw : ByteArray) (r : SR) (out : List Int) (sent : Nat) (s : TS) (e : Nat) (r' : SR) (out' : List Int) (s' : TS) (va vb : HC) : Prop :=
  (e = 0 ∧ (∃ fa fb, MI raw r' out' sent s' va vb fa fb) ∧ mz r' s' < mz r s) ∨
  (e ≠ 0 ∧ out' = out ∧ (e = 4 → ∃ fa fb, MI raw r' out sent s' va vb fa fb) ∧ WI raw r' out sent s' va vb ∧ ∃ x, rnF 4097 ⟨s.N, s.n, 0⟩ [] = ⟨out, e, r'.at_, x⟩)
section mi
variable {raw : ByteArray} {r : SR} {out : List Int} {sent : Nat} {s : TS} {ua ub : HC} {fa fb : Nat → Nat}
theorem MI.now (m : MI raw r out sent s ua ub fa fb) : rnF 4097 ⟨s.N, s.n, 0⟩ [] = rsD fa fb r out s := m.gx s (Xt.refl m.w.ok) m.w.ok (by have := m.w.n; omega)
/-- the tape went on -/
theorem MI.adv (m : MI raw r out sent s ua ub fa fb) {r' : SR} {s' : TS} (ha : Ad s s') (ho : OK s') (h1 : r'.tt = r.tt) (h2 : r'.w = r.w) (h3 : r'.fl = r.fl) (h4 : r'.n = r.n) (h5 : r'.rg = r.rg) (h6 : r'.bf = r.bf) (h7 : r'.fed = r.fed) (h8 : ∀ j, j < 273 → r'.ls j ≤ 10) (h9 : r'.at_ ≤ s'.p) (h10 : r'.hd ≤ s'.p) (h11 : r'.fi ≤ 1) (h12 : r'.held = r.held) : WI raw r' out sent s' ua ub := by
  have w := m.w
  have si := w.si
  exact ⟨⟨by rw [h1]; exact si.tt, by rw [h2]; exact si.w, by rw [h3]; exact si.fl, by rw [h4]; exact si.n, si.le, by rw [h5]; exact si.rg, by rw [h4, h6]; exact si.bf⟩, by rw [ha.N]; exact w.N, by rw [ha.n]; exact w.n, ho, w.z, by rw [h7]; exact w.fed, h8, h9, h10, h11, by rw [h12]; exact w.hl, w.jw⟩
theorem MI.bt (m : MI raw r out sent s ua ub fa fb) (h : r.ph ≠ 0 ∧ r.ph ≠ 1 ∧ r.ph ≠ 4) : (ua.n = 265 ∧ ub.n = 8) ∨ K0 raw := by
  rcases m.jm with q | q | ⟨_, q⟩
  · exact .inl q
  · exact .inr q
  · omega
/-- an error that asks for nothing but more bytes, or ends it all; only 'at' has turned -/
theorem MI.no (m : MI raw r out sent s ua ub fa fb) {e a : Nat} {s' : TS} {x : TS} (h0 : e ≠ 0) (ha : a ≤ s.p) (hph : r.ph < 6 ∨ a = r.at_) (he : rsD fa fb r out s = ⟨out, e, a, x⟩) (hs : e = 4 → s' = s) (had : Ad s s') (ho : OK s') : TPo raw r out sent s e { r with at_ := a } out s' ua ub := by
  have hp := had.p
  have hw := m.adv (r' := { r with at_ := a }) had ho rfl rfl rfl rfl rfl rfl rfl m.w.l10 (by simp only []; omega) (by have := m.w.hd; simp only []; omega) m.w.fi rfl
  refine .inr ⟨h0, rfl, fun z => ?_, hw, x, by rw [m.now]; exact he⟩
  have es := hs z
  subst es
  refine ⟨fa, fb, hw, ?_, m.ck, m.p8, m.du, m.ix, m.rn, m.ba, m.jm, m.p9⟩
  have hr : rsD fa fb { r with at_ := a } out = rsD fa fb r out := by
    rcases hph with q | q
    · funext t; unfold rsD; simp only []
      by_cases e0 : r.ph = 0; (rw [if_pos e0, if_pos e0]); rw [if_neg e0, if_neg e0]
      by_cases e1 : r.ph = 1; (rw [if_pos e1, if_pos e1]); rw [if_neg e1, if_neg e1]
      by_cases e2 : r.ph = 2; (rw [if_pos e2, if_pos e2]); rw [if_neg e2, if_neg e2]
      by_cases e3 : r.ph = 3; (rw [if_pos e3, if_pos e3]); rw [if_neg e3, if_neg e3]
      by_cases e4 : r.ph = 4; (rw [if_pos e4, if_pos e4]); rw [if_neg e4, if_neg e4]
      by_cases e5 : r.ph = 5; (rw [if_pos e5, if_pos e5]); omega
    · rw [q]
  rw [hr]; exact m.gx
/-! final -/
theorem MI.final (m : MI raw r out sent s ua ub fa fb) (hp : r.ph = 0) (e : skipE s 1 = 0) : TPo raw r out sent s 0 { r with at_ := s.p, fi := takeV s 1, ph := 1 } out (skipS s 1) ua ub := by
  have ok := m.w.ok
  have h1 : takeV s 1 < 2 := take_lt (k := 1) (by omega)
  have p1 := skip_p (s := s) (k := 1) (by rw [show ((1 : Nat) : Int) = 1 from rfl]; exact e)
  rw [show ((1 : Nat) : Int) = 1 from rfl] at p1
  have ho := ok.skip 1
  have hon := ho.2.1
  have hn := (skip_ad s 1).n
  have hhd := m.w.hd
  refine .inl ⟨rfl, ⟨fa, fb, m.adv (skip_ad s 1) ho rfl rfl rfl rfl rfl rfl rfl m.w.l10 (by simp only []; omega) (by simp only []; omega) (by simp only []; omega) rfl, ?_, fun z => by simp only [] at z; omega, fun z => by simp only [] at z; omega, fun z => by simp only [] at z; omega, fun z => by simp only [] at z; omega, fun z => by simp only [] at z; omega, fun z => by simp only [] at z; omega, ?_, by simp only []; omega⟩, ?_⟩
  · rw [rs1 rfl]
    have g := m.gx
    rw [rs0 hp] at g
    have := g.take (k := 1) (r' := fun t => knD (takeV s 1) t out) (by rw [show ((1 : Nat) : Int) = 1 from rfl]; exact e) (fun t ht h8 h9 h10 h11 => by
      rw [show ((1 : Nat) : Int) = 1 from rfl] at h9 h10 ⊢
      rw [rn_go ht h9, h10])
    exact this
  · rcases m.jm with q | q | ⟨q, q2⟩
    · exact .inl q
    · exact .inr (.inl q)
    · refine .inr (.inr ⟨q, .inr (.inl ⟨rfl, ?_⟩)⟩)
      rw [p1]; omega
  · unfold mz; rw [hp]; simp only []; rw [if_neg (by omega), if_neg (by omega)]; omega
end mi
end Go.Proofs.Qxb6500404aGreat
