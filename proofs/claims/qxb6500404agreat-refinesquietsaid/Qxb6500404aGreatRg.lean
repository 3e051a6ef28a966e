import Derived.Test.Qxb6500404aGreatRf
set_option linter.unusedVariables false
set_option linter.unusedSimpArgs false
set_option linter.unusedSectionVars false
namespace Go.Proofs.Qxb6500404aGreat
open Go.Eng Go.Bits Go.Blk HufW
/-! ### one Feed, plainly -/
theorem bAt_l {a b : ByteArray} {i : Nat} (h : i < a.size) : bAt (a ++ b) i = bAt a i := by
  have h' : i < a.data.size := h
  unfold bAt
  rw [ByteArray.data_append, Array.getElem?_append_left h']
theorem bAt_r {a b : ByteArray} {i : Nat} : bAt (a ++ b) (a.size + i) = bAt b i := by
  unfold bAt
  rw [ByteArray.data_append, Array.getElem?_append_right (by show a.data.size ≤ _; exact Nat.le_add_right _ _)]
  congr 3
  show a.size + i - a.size = i
  omega
theorem numF_cong {f g : Nat → Nat} : ∀ n, (∀ i, i < n → f i = g i) → numF f n = numF g n
  | 0, _ => rfl
  | n + 1, h => by
    unfold numF
    rw [numF_cong n (fun i hi => h i (by omega)), h n (by omega)]
/-- the tape while a chunk is laid on it -/
def tpS (raw ch : ByteArray) (i p : Nat) : TS := ⟨numF (bAt (raw ++ ch)) (raw.size + i), 8 * (raw.size + i), p⟩
theorem tp_0 (raw ch : ByteArray) (p : Nat) : tpS raw ch 0 p = ⟨numS raw, 8 * raw.size, p⟩ := by
  unfold tpS numS
  rw [Nat.add_zero, numF_cong raw.size (fun i hi => bAt_l hi)]
theorem tp_put {raw ch : ByteArray} {i p : Nat} (h : raw.size + i < 512) : putS (tpS raw ch i p) ((bAt ch i : Nat) : Int) 8 = tpS raw ch (i + 1) p := by
  have hb := bAt_lt ch i
  have he : putE (tpS raw ch i p).n ((bAt ch i : Nat) : Int) 8 = 0 := by
    unfold putE tpS
    rw [if_neg (by simp only [show (8 : Int).toNat = 8 from rfl, show (2 : Nat) ^ 8 = 256 from rfl]; omega), if_neg (by simp only []; omega)]
  unfold putS
  rw [if_pos he]
  unfold tpS
  simp only []
  rw [show (8 : Int).toNat = 8 from rfl, Int.toNat_natCast, show raw.size + (i + 1) = raw.size + i + 1 by omega]
  conv => rhs; unfold numF
  rw [bAt_r, show 8 * (raw.size + i + 1) = 8 * (raw.size + i) + 8 by omega]
theorem size_app (a b : ByteArray) : (a ++ b).size = a.size + b.size := ByteArray.size_append ..
theorem tp_end (raw ch : ByteArray) (p : Nat) : tpS raw ch ch.size p = ⟨numS (raw ++ ch), 8 * (raw ++ ch).size, p⟩ := by
  unfold tpS numS
  rw [size_app]
theorem tp_x {raw ch : ByteArray} {p : Nat} : Xt ⟨numS raw, 8 * raw.size, p⟩ ⟨numS (raw ++ ch), 8 * (raw ++ ch).size, p⟩ := by
  refine ⟨rfl, by simp only []; rw [size_app]; omega, ?_⟩
  simp only []
  refine Nat.eq_of_testBit_eq fun j => ?_
  rw [Nat.testBit_mod_two_pow]
  have key : ∀ (t : ByteArray) (j : Nat), (numS t).testBit j = (decide (j / 8 < t.size) && (bAt t (j / 8)).testBit (j % 8)) := fun t j => by
    have h1 := numF_byte (bAt_lt t) t.size (j / 8)
    have h2 : (byteN (numS t) (j / 8)).testBit (j % 8) = (numS t).testBit j := by
      unfold byteN
      rw [show (256 : Nat) = 2 ^ 8 from rfl, Nat.testBit_mod_two_pow, Go.Bits.div_bit]
      rw [show 8 * (j / 8) + j % 8 = j by omega]
      simp [show j % 8 < 8 by omega]
    rw [← h2]
    unfold numS
    rw [h1]
    by_cases e : j / 8 < t.size
    · rw [if_pos e]; simp [e]
    · rw [if_neg e]; simp [e]
  rw [key, key]
  by_cases e : j < 8 * raw.size
  · rw [bAt_l (by omega), size_app]
    simp [e, show j / 8 < raw.size + ch.size by omega, show j / 8 < raw.size by omega]
  · simp [e, show ¬ j / 8 < raw.size by omega]
theorem K0.app {raw : ByteArray} (ch : ByteArray) (k : K0 raw) : K0 (raw ++ ch) := ⟨by rw [size_app]; have := k.1; omega, by rw [bAt_l k.1]; exact k.2⟩
theorem WI.ph {raw : ByteArray} {r : SR} {out : List Int} {sent : Nat} {s : TS} {ua ub : HC} (w : WI raw r out sent s ua ub) (p : Nat) : WI raw { r with ph := p } out sent s ua ub :=
  ⟨⟨w.si.tt, w.si.w, w.si.fl, w.si.n, w.si.le, w.si.rg, w.si.bf⟩, w.N, w.n, w.ok, w.z, w.fed, w.l10, w.at_, w.hd, w.fi, w.hl, w.jw⟩
section mi
variable {raw : ByteArray} {r : SR} {out : List Int} {sent : Nat} {s : TS} {ua ub : HC} {fa fb : Nat → Nat}
/-- a chunk is laid on the tape -/
theorem MI.fed (m : MI raw r out sent s ua ub fa fb) {ch : ByteArray} (hz : raw.size + ch.size ≤ 512) : MI (raw ++ ch) { r with fed := raw.size + ch.size, n := 0 } out out.length (tpS raw ch ch.size s.p) ua ub fa fb := by
  have w := m.w
  have si := w.si
  have hs : s = ⟨numS raw, 8 * raw.size, s.p⟩ := by
    have h1 := w.N; have h2 := w.n
    cases s; simp only [] at h1 h2 ⊢; rw [h1, h2]
  have ho := w.ok
  have hx : Xt s (tpS raw ch ch.size s.p) := by
    rw [tp_end]; conv => lhs; rw [hs]
    exact tp_x
  have hn : (tpS raw ch ch.size s.p).n = 8 * (raw.size + ch.size) := rfl
  have hp : (tpS raw ch ch.size s.p).p = s.p := rfl
  have hok : OK (tpS raw ch ch.size s.p) := ⟨by unfold tpS; exact numF_lt (bAt_lt _) _, by rw [hn, hp]; have h1 := ho.2.1; have h2 := w.n; omega, by rw [hn]; omega⟩
  refine ⟨⟨⟨si.tt, si.w, si.fl, by simp, si.le, si.rg, fun j hj => absurd hj (Nat.not_lt_zero _)⟩, by rw [tp_end], by rw [tp_end], hok, by rw [size_app]; exact hz, by rw [size_app], w.l10, w.at_, w.hd, w.fi, w.hl, ?_⟩, ?_, m.ck, m.p8, m.du, m.ix, m.rn, m.ba, ?_, m.p9⟩
  · rcases w.jw with q | q | q
    · exact .inl q
    · exact .inr (.inl (q.app ch))
    · exact .inr (.inr q)
  · have : rsD fa fb { r with fed := raw.size + ch.size, n := 0 } out = rsD fa fb r out := by funext t; rfl
    rw [this]; exact m.gx.ext hx
  · rcases m.jm with q | q | q
    · exact .inl q
    · exact .inr (.inl (q.app ch))
    · exact .inr (.inr q)
theorem ru_eq (m : WI raw r out sent s ua ub) : ruF raw = rnF 4097 ⟨s.N, s.n, 0⟩ [] := by
  have hz := m.z
  have he : loadE raw = 0 := by unfold loadE; rw [if_neg (by omega)]
  unfold ruF loadS
  rw [if_neg (by omega), if_pos he, m.N, m.n]
/-- the end of one Feed's work -/
structure FnE (raw : ByteArray) (r : SR) (out : List Int) (sent : Nat) (s : TS) (ua ub : HC) (e : Nat) : Prop where
  m : e = 0 ∨ e = 4 → ∃ fa fb, MI raw r out sent s ua ub fa fb
  w : WI raw r out sent s ua ub
  o : (ruF raw).out = out
  er : (ruF raw).e = e
  p : (ruF raw).pl = if e = 0 then 0 else r.at_
  k : e = 0 → (ua.n = 265 ∧ ub.n = 8) ∨ K0 raw
def LI (raw : ByteArray) (r : SR) (out : List Int) (sent : Nat) (s : TS) (ua ub : HC) (e : Nat) : Prop := (e = 0 ∧ ∃ fa fb, MI raw r out sent s ua ub fa fb) ∨ (e ≠ 0 ∧ FnE raw r out sent s ua ub e)
def lz (r : SR) (s : TS) (e : Nat) : Nat := if e = 0 then mz r s + 1 else 0
theorem MI.turn (m : MI raw r out sent s ua ub fa fb) {e : Nat} {r' : SR} {out' : List Int} {s' : TS} {va vb : HC} (t : TPo raw r out sent s e r' out' s' va vb) : LI raw r' out' sent s' va vb e ∧ lz r' s' e < lz r s 0 := by
  rcases t with ⟨t1, t2, t3⟩ | ⟨t1, t2, t3, t4, x, t5⟩
  · subst t1
    exact ⟨.inl ⟨rfl, t2⟩, by unfold lz; rw [if_pos rfl, if_pos rfl]; omega⟩
  · subst t2
    rw [← ru_eq m.w] at t5
    refine ⟨.inr ⟨t1, ⟨fun q => ?_, t4, by rw [t5], by rw [t5], by rw [t5, if_neg t1], fun q => absurd q t1⟩⟩, by unfold lz; rw [if_pos rfl, if_neg t1]; omega⟩
    exact t3 (by omega)
theorem MI.tail (m : MI raw r out sent s ua ub fa fb) (hp : r.ph = 8) : FnE raw { r with at_ := s.p } out sent s ua ub (if s.p < s.n then 11 else 0) := by
  have w := m.w
  have hw : WI raw { r with at_ := s.p } out sent s ua ub := ⟨⟨w.si.tt, w.si.w, w.si.fl, w.si.n, w.si.le, w.si.rg, w.si.bf⟩, w.N, w.n, w.ok, w.z, w.fed, w.l10, Nat.le_refl _, w.hd, w.fi, w.hl, w.jw⟩
  have hr : ruF raw = fiT s out := by rw [ru_eq w, m.now, rs8 hp]
  refine ⟨fun _ => ⟨fa, fb, hw, ?_, m.ck, m.p8, m.du, m.ix, m.rn, m.ba, m.jm, m.p9⟩, hw, ?_, ?_, ?_, fun _ => m.bt (by omega)⟩
  · have : rsD fa fb { r with at_ := s.p } out = rsD fa fb r out := by rw [rs8 hp, rs8 (show ({ r with at_ := s.p } : SR).ph = 8 from hp)]
    rw [this]; exact m.gx
  · rw [hr]; unfold fiT; split <;> rfl
  · rw [hr]; unfold fiT; split <;> rfl
  · rw [hr]; unfold fiT; split
    · rw [if_neg (by omega)]
    · rw [if_pos rfl]
theorem SI.str {r : SR} {out : List Int} {sent : Nat} (si : SI r out sent) : (List.range r.n).map r.bf = out.drop sent := by
  have h := si.n
  refine Huf.list_ext (by simp; omega) (fun j hj => ?_)
  have hj' : j < r.n := by simpa using hj
  rw [List.getD_eq_getElem?_getD, List.getD_eq_getElem?_getD, List.getElem?_map, List.getElem?_range hj', List.getElem?_drop]
  simp only [Option.map_some, Option.getD_some]
  rw [si.bf j hj', List.getD_eq_getElem?_getD]
end mi
/-! what both sides tell -/
def stS (e : Nat) (l : Bool) : Nat := if e = 0 ∧ l = true then 1 else if l = false ∧ (e = 0 ∨ e = 4) then 0 else 2
/-- is the chunk taken -/
def tkn (raw ch : ByteArray) (st : Nat) : Prop := st = 0 ∧ raw.size + ch.size ≤ 512
def nxR (raw ch : ByteArray) (st : Nat) : ByteArray := if st = 0 ∧ raw.size + ch.size ≤ 512 then raw ++ ch else raw
def nxO (raw ch : ByteArray) (st : Nat) (out : List Int) : List Int := if st = 0 ∧ raw.size + ch.size ≤ 512 then (ruF (raw ++ ch)).out else out
def nxT (raw ch : ByteArray) (st : Nat) (l : Bool) : Nat := if st ≠ 0 then st else if 512 < raw.size + ch.size then 2 else stS (ruF (raw ++ ch)).e l
def stpV (raw ch : ByteArray) (st : Nat) (l : Bool) (n : Nat) : Array Value :=
  if st ≠ 0 then #[.string ⟨#[]⟩, .int .i64 2, .int .i64 12, .int .i64 0] else if 512 < raw.size + ch.size then #[.string ⟨#[]⟩, .int .i64 2, .int .i64 1, .int .i64 0]
  else #[.string (mkS ((ruF (raw ++ ch)).out.drop n)), .int .i64 ((stS (ruF (raw ++ ch)).e l : Nat) : Int), .int .i64 ((if stS (ruF (raw ++ ch)).e l = 2 then (ruF (raw ++ ch)).e else 0 : Nat) : Int), .int .i64 ((if stS (ruF (raw ++ ch)).e l = 2 then (ruF (raw ++ ch)).pl else 0 : Nat) : Int)]
/-- the real side between two calls -/
def RSt (raw : ByteArray) (r : SR) (out : List Int) (s : TS) (ua ub : HC) (st : Nat) : Prop :=
  (st = 0 ∧ ∃ sent fa fb, MI raw r out sent s ua ub fa fb) ∨ (st = 1 ∧ r.ph = 9 ∧ ((ua.n = 265 ∧ ub.n = 8) ∨ K0 raw) ∧ ∃ sent, WI raw r out sent s ua ub) ∨ (st = 2 ∧ r.ph = 10 ∧ ∃ sent, WI raw r out sent s ua ub)
section rst
variable {raw : ByteArray} {r : SR} {out : List Int} {s : TS} {ua ub : HC} {st : Nat}
theorem RSt.w (q : RSt raw r out s ua ub st) : ∃ sent, WI raw r out sent s ua ub := by
  rcases q with ⟨_, n, _, _, m⟩ | ⟨_, _, _, n, w⟩ | ⟨_, _, n, w⟩
  · exact ⟨n, m.w⟩
  · exact ⟨n, w⟩
  · exact ⟨n, w⟩
theorem RSt.ph (q : RSt raw r out s ua ub st) : (st = 0 ∧ r.ph ≤ 8) ∨ (st = 1 ∧ r.ph = 9) ∨ (st = 2 ∧ r.ph = 10) := by
  rcases q with ⟨q, _, _, _, m⟩ | ⟨q, p, _⟩ | ⟨q, p, _⟩
  · exact .inl ⟨q, m.p9⟩
  · exact .inr (.inl ⟨q, p⟩)
  · exact .inr (.inr ⟨q, p⟩)
theorem RSt.live (q : RSt raw r out s ua ub st) (h : r.ph < 9) : st = 0 ∧ ∃ sent fa fb, MI raw r out sent s ua ub fa fb := by
  rcases q with q | ⟨_, p, _⟩ | ⟨_, p, _⟩
  · exact q
  · omega
  · omega
end rst
end Go.Proofs.Qxb6500404aGreat
