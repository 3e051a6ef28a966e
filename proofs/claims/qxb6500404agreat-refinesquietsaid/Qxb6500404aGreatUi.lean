import Derived.Test.Qxb6500404aGreatUh
set_option linter.unusedVariables false
set_option linter.unusedSimpArgs false
namespace Go.Proofs.Qxb6500404aGreat
open Go.Eng Go.Bits Go.Blk HufW Go.Arc

structure SL where
  a : Option Addr
  n : Nat
  c : Nat
def SL.v (s : SL) : Value := .slice s.a s.n s.c
def SL.z : SL := ⟨none, 0, 0⟩
structure DR where
  nm : ByteArray
  dt : ByteArray
  rw : ByteArray
  ls : SL
  ex : SL
  em : SL
  ix : SL
  im : SL
  oe : Nat → SL
  oi : Nat → SL
  ne : Nat
  ni : Nat
  fe : SL
  fi : SL
  ae : Nat
  ai : Nat
  pn : Bool
  he : SL
  hi : SL
  pl : Bool
  hl : SL
def dkv (d : DR) (j : Nat) : Value :=
  if j = 0 then .string d.nm else if j = 1 then .string d.dt else if j = 2 then .string d.rw else if j = 3 then d.ls.v else if j = 4 then d.ex.v else if j = 5 then d.em.v else if j = 6 then d.ix.v else if j = 7 then d.im.v
  else if j < 12 then (d.oe (j - 8)).v else if j < 16 then (d.oi (j - 12)).v else if j = 16 then .int .i64 (d.ne : Int) else if j = 17 then .int .i64 (d.ni : Int) else if j = 18 then d.fe.v else if j = 19 then d.fi.v else if j = 20 then .int .i64 (d.ae : Int) else if j = 21 then .int .i64 (d.ai : Int)
  else if j = 22 then .bool d.pn else if j = 23 then d.he.v else if j = 24 then d.hi.v else if j = 25 then .bool d.pl else d.hl.v
theorem dk27 {p : Nat → Prop} (h0 : p 0) (h1 : p 1) (h2 : p 2) (h3 : p 3) (h4 : p 4) (h5 : p 5) (h6 : p 6) (h7 : p 7) (h8 : p 8) (h9 : p 9) (h10 : p 10) (h11 : p 11) (h12 : p 12) (h13 : p 13) (h14 : p 14) (h15 : p 15) (h16 : p 16) (h17 : p 17) (h18 : p 18) (h19 : p 19) (h20 : p 20) (h21 : p 21) (h22 : p 22) (h23 : p 23) (h24 : p 24) (h25 : p 25) (h26 : p 26) : ∀ j, j < 27 → p j := fun j hj => by
  rcases j with _ | _ | _ | _ | _ | _ | _ | _ | _ | _ | _ | _ | _ | _ | _ | _ | _ | _ | _ | _ | _ | _ | _ | _ | _ | _ | _ | j
  all_goals first | assumption | omega
theorem dk_oe {d : DR} {k : Nat} (a : Option Addr) (n c : Nat) (hk : k < 4) : (arr 27 fun j => if j = 8 + k then .slice a n c else dkv d j) = arr 27 (dkv { d with oe := Huf.ups d.oe k ⟨a, n, c⟩ }) := by
  rcases (show k = 0 ∨ k = 1 ∨ k = 2 ∨ k = 3 by omega) with rfl | rfl | rfl | rfl <;> exact arr_ext (dk27 rfl rfl rfl rfl rfl rfl rfl rfl rfl rfl rfl rfl rfl rfl rfl rfl rfl rfl rfl rfl rfl rfl rfl rfl rfl rfl rfl)
theorem dk_oi {d : DR} {k : Nat} (a : Option Addr) (n c : Nat) (hk : k < 4) : (arr 27 fun j => if j = 12 + k then .slice a n c else dkv d j) = arr 27 (dkv { d with oi := Huf.ups d.oi k ⟨a, n, c⟩ }) := by
  rcases (show k = 0 ∨ k = 1 ∨ k = 2 ∨ k = 3 by omega) with rfl | rfl | rfl | rfl <;> exact arr_ext (dk27 rfl rfl rfl rfl rfl rfl rfl rfl rfl rfl rfl rfl rfl rfl rfl rfl rfl rfl rfl rfl rfl rfl rfl rfl rfl rfl rfl)
abbrev DB (h : Heap) (X : Nat) (d : DR) : Prop := B h X (arr 27 (dkv d)) 42
theorem ddq {h : Heap} {X : Nat} {d : DR} (b : DB h X d) : cellH h ⟨X, 0, none⟩ = some (.string d.nm) ∧ cellH h ⟨X, 1, none⟩ = some (.string d.dt) ∧ cellH h ⟨X, 2, none⟩ = some (.string d.rw) ∧ cellH h ⟨X, 3, none⟩ = some (.slice d.ls.a d.ls.n d.ls.c) ∧ cellH h ⟨X, 4, none⟩ = some (.slice d.ex.a d.ex.n d.ex.c) ∧ cellH h ⟨X, 5, none⟩ = some (.slice d.em.a d.em.n d.em.c) ∧ cellH h ⟨X, 6, none⟩ = some (.slice d.ix.a d.ix.n d.ix.c) ∧ cellH h ⟨X, 7, none⟩ = some (.slice d.im.a d.im.n d.im.c)
    ∧ (∀ i, i < 4 → cellH h ⟨X, 8 + i, none⟩ = some (.slice (d.oe i).a (d.oe i).n (d.oe i).c)) ∧ (∀ i, i < 4 → cellH h ⟨X, 12 + i, none⟩ = some (.slice (d.oi i).a (d.oi i).n (d.oi i).c)) ∧ cellH h ⟨X, 16, none⟩ = some (.int .i64 (d.ne : Int)) ∧ cellH h ⟨X, 17, none⟩ = some (.int .i64 (d.ni : Int)) ∧ cellH h ⟨X, 18, none⟩ = some (.slice d.fe.a d.fe.n d.fe.c) ∧ cellH h ⟨X, 19, none⟩ = some (.slice d.fi.a d.fi.n d.fi.c) ∧ cellH h ⟨X, 20, none⟩ = some (.int .i64 (d.ae : Int)) ∧ cellH h ⟨X, 21, none⟩ = some (.int .i64 (d.ai : Int)) ∧ cellH h ⟨X, 22, none⟩ = some (.bool d.pn) ∧ cellH h ⟨X, 23, none⟩ = some (.slice d.he.a d.he.n d.he.c) ∧ cellH h ⟨X, 24, none⟩ = some (.slice d.hi.a d.hi.n d.hi.c) ∧ cellH h ⟨X, 25, none⟩ = some (.bool d.pl) ∧ cellH h ⟨X, 26, none⟩ = some (.slice d.hl.a d.hl.n d.hl.c) ∧ ∀ j, j < 27 → okPut h ⟨X, j, none⟩ = true := by
  have c : ∀ j, j < 27 → cellH h ⟨X, j, none⟩ = some (dkv d j) := fun j hj => B.cellA b hj
  refine ⟨c 0 (by decide), c 1 (by decide), c 2 (by decide), c 3 (by decide), c 4 (by decide), c 5 (by decide), c 6 (by decide), c 7 (by decide), fun i hi => ?_, fun i hi => ?_, c 16 (by decide), c 17 (by decide), c 18 (by decide), c 19 (by decide), c 20 (by decide), c 21 (by decide), c 22 (by decide), c 23 (by decide), c 24 (by decide), c 25 (by decide), c 26 (by decide), fun j hj => B.okA b hj⟩
  · rw [c _ (by omega)]
    rcases i with _ | _ | _ | _ | i
    · rfl
    · rfl
    · rfl
    · rfl
    · omega
  · rw [c _ (by omega)]
    rcases i with _ | _ | _ | _ | i
    · rfl
    · rfl
    · rfl
    · rfl
    · omega
/-! kept lists -/
def STE : List Value := [.string stp, .string stp]
def STI : List Value := [.string stp, .int .i64 (-7), .int .i64 (-7)]
def SK (T : TypeId) (st : List Value) (h : Heap) (Q : Nat → Prop) (s : SL) : Prop := s.n ≤ 9 ∧ (s.n = 0 ∨ ∃ b cs, s.a = some ⟨b, 0, none⟩ ∧ Q b ∧ B h b cs T ∧ s.n * st.length ≤ cs.size ∧ ∀ j, j < s.n * st.length → cs[j]? = st[j % st.length]?)
def KB (T : TypeId) (nc : Nat) (h : Heap) (Q : Nat → Prop) (s : SL) : Prop := (s.a = none ∧ s.c = 0) ∨ ∃ b cs, s.a = some ⟨b, 0, none⟩ ∧ Q b ∧ B h b cs T ∧ cs.size = s.c * nc
section sk
variable {T : TypeId} {st : List Value} {h h' : Heap} {Q Q' S : Nat → Prop} {s : SL}
theorem SK.ext (k : SK T st h Q s) (he : Ext S h h') (hs : ∀ b, Q b → ¬ S b) : SK T st h' Q s := by
  obtain ⟨k9, k⟩ := k
  refine ⟨k9, ?_⟩
  rcases k with k | ⟨b, cs, e, q, hb, r⟩
  · exact .inl k
  · exact .inr ⟨b, cs, e, q, hb.ext he (hs b q), r⟩
theorem SK.mono (k : SK T st h Q s) (hs : ∀ b, Q b → Q' b) : SK T st h Q' s := by
  obtain ⟨k9, k⟩ := k
  refine ⟨k9, ?_⟩
  rcases k with k | ⟨b, cs, e, q, hb, r⟩
  · exact .inl k
  · exact .inr ⟨b, cs, e, hs b q, hb, r⟩
theorem SK.get (k : SK T st h Q s) {i : Nat} (hi : i < s.n) : ∃ b, s.a = some ⟨b, 0, none⟩ ∧ b < h.size ∧ ∀ j, j < s.n * st.length → cellH h ⟨b, j, none⟩ = st[j % st.length]? := by
  obtain ⟨k9, k⟩ := k
  rcases k with k | ⟨b, cs, e, q, hb, r1, r2⟩
  · omega
  · exact ⟨b, e, hb.lt, fun j hj => by rw [hb.cell]; exact r2 j hj⟩
theorem SK.other {T0 : TypeId} {b0 : Nat} {cs0 : Array Value} (k : SK T st h Q s) (hb0 : B h b0 cs0 T0) (hT : T ≠ T0) (he : Ext (fun z => z = b0) h h') : SK T st h' Q s := by
  obtain ⟨k9, k⟩ := k
  refine ⟨k9, ?_⟩
  rcases k with k | ⟨b, cs, e, q, hb, r⟩
  · exact .inl k
  · refine .inr ⟨b, cs, e, q, hb.ext he (fun z => ?_), r⟩
    rw [z] at hb
    exact hT (hb.uniq hb0).2
theorem SK.stamp {b0 i : Nat} {cs0 : Array Value} (k : SK T st h Q s) (hb0 : B h b0 cs0 T) (hl : 0 < st.length) (hi : i * st.length + st.length ≤ cs0.size) : SK T st (putsH h b0 (i * st.length) st) Q s := by
  obtain ⟨k9, k⟩ := k
  refine ⟨k9, ?_⟩
  rcases k with k | ⟨b, cs, e, q, hb, r1, r2⟩
  · exact .inl k
  · by_cases eb : b = b0
    · subst eb
      obtain ⟨rfl, _⟩ := hb.uniq hb0
      obtain ⟨c2, k1, k2, k3, k4⟩ := puts_at hb hi
      refine .inr ⟨b, c2, e, q, k1, by omega, fun j hj => ?_⟩
      rcases Nat.lt_or_ge j (i * st.length) with w | w
      · rw [k4 j (.inl w)]; exact r2 j hj
      · rcases Nat.lt_or_ge j (i * st.length + st.length) with w2 | w2
        · have := k3 (j - i * st.length) (by omega)
          rw [show i * st.length + (j - i * st.length) = j by omega] at this
          rw [this]
          congr 1
          rw [show j = (j - i * st.length) + i * st.length by omega, Nat.add_mul_mod_self_right, Nat.mod_eq_of_lt (by omega)]
          omega
        · rw [k4 j (.inr w2)]; exact r2 j hj
    · exact .inr ⟨b, cs, e, q, hb.ext (Ext.puts (S := fun z => z = b0) rfl _ _ _) eb, r1, r2⟩
end sk
theorem sk_ups {T : TypeId} {st : List Value} {h : Heap} {Q : Nat → Prop} {f : Nat → SL} {k : Nat} {x : SL} (h0 : SK T st h Q x) (hf : ∀ i, i < 4 → SK T st h Q (f i)) : ∀ i, i < 4 → SK T st h Q (Huf.ups f k x i) := fun i hi => by
  unfold Huf.ups
  split
  · exact h0
  · exact hf i hi
structure KP (h : Heap) (X : Nat) (Q : Nat → Prop) (d : DR) (L : List En) (N : Nat) : Prop where
  q : ∀ b, Q b → X < b ∧ b < h.size ∧ blkA d.ls.a ≠ some b
  ls : OwnR (X + 1) h d.ls.a L.length d.ls.c (fE L) 104 2
  ln : d.ls.n = L.length
  l5 : L.length ≤ 5
  oe : ∀ i, i < 4 → SK 104 STE h Q (d.oe i)
  oi : ∀ i, i < 4 → SK 122 STI h Q (d.oi i)
  fe : SK 104 STE h Q d.fe
  he : SK 104 STE h Q d.he
  hl : SK 104 STE h Q d.hl
  fi : SK 122 STI h Q d.fi
  hi : SK 122 STI h Q d.hi
  ne : d.ne < 4
  ni : d.ni < 4
  ae : d.ae ≤ N
  ai : d.ai ≤ N
section kp
variable {h h' : Heap} {X N : Nat} {Q S : Nat → Prop} {d : DR} {L : List En}
theorem KP.ext (k : KP h X Q d L N) (he : Ext S h h') (hQ : ∀ b, Q b → ¬ S b) (hl : ∀ b, blkA d.ls.a = some b → ¬ S b) : KP h' X Q d L N :=
  ⟨fun b q => ⟨(k.q b q).1, Nat.lt_of_lt_of_le (k.q b q).2.1 he.1, (k.q b q).2.2⟩, k.ls.ext he (fun b e => hl b (by rw [e]; rfl)), k.ln, k.l5, fun i hi => (k.oe i hi).ext he hQ, fun i hi => (k.oi i hi).ext he hQ, k.fe.ext he hQ, k.he.ext he hQ, k.hl.ext he hQ, k.fi.ext he hQ, k.hi.ext he hQ, k.ne, k.ni, k.ae, k.ai⟩
theorem KP.lsb (k : KP h X Q d L N) {b : Nat} (e : blkA d.ls.a = some b) : X < b ∧ b < h.size := by
  have := OwnR.blk2 k.ls e
  omega
theorem KP.desk (k : KP h X Q d L N) (he : Ext (fun z => z = X) h h') : KP h' X Q d L N :=
  k.ext he (fun b q e => by have := (k.q b q).1; omega) (fun b e z => by have := k.lsb e; omega)
theorem KP.stE {b0 i : Nat} {cs0 : Array Value} (k : KP h X Q d L N) (q0 : Q b0) (hb0 : B h b0 cs0 104) (hi : i * 2 + 2 ≤ cs0.size) : KP (putsH h b0 (i * 2) STE) X Q d L N := by
  have he : Ext (fun z => z = b0) h (putsH h b0 (i * 2) STE) := Ext.puts (S := fun z => z = b0) rfl _ _ _
  have ss : ∀ s, SK 104 STE h Q s → SK 104 STE (putsH h b0 (i * 2) STE) Q s := fun s w => w.stamp hb0 (by decide) hi
  have so : ∀ s, SK 122 STI h Q s → SK 122 STI (putsH h b0 (i * 2) STE) Q s := fun s w => w.other hb0 (by decide) he
  exact ⟨fun b q => ⟨(k.q b q).1, Nat.lt_of_lt_of_le (k.q b q).2.1 he.1, (k.q b q).2.2⟩, k.ls.ext he (fun b e z => by have := (k.q b0 q0).2.2; rw [e] at this; exact this (by rw [← z]; rfl)), k.ln, k.l5, fun i hi => ss _ (k.oe i hi), fun i hi => so _ (k.oi i hi), ss _ k.fe, ss _ k.he, ss _ k.hl, so _ k.fi, so _ k.hi, k.ne, k.ni, k.ae, k.ai⟩
theorem KP.stI {b0 i : Nat} {cs0 : Array Value} (k : KP h X Q d L N) (q0 : Q b0) (hb0 : B h b0 cs0 122) (hi : i * 3 + 3 ≤ cs0.size) : KP (putsH h b0 (i * 3) STI) X Q d L N := by
  have he : Ext (fun z => z = b0) h (putsH h b0 (i * 3) STI) := Ext.puts (S := fun z => z = b0) rfl _ _ _
  have ss : ∀ s, SK 122 STI h Q s → SK 122 STI (putsH h b0 (i * 3) STI) Q s := fun s w => w.stamp hb0 (by decide) hi
  have so : ∀ s, SK 104 STE h Q s → SK 104 STE (putsH h b0 (i * 3) STI) Q s := fun s w => w.other hb0 (by decide) he
  exact ⟨fun b q => ⟨(k.q b q).1, Nat.lt_of_lt_of_le (k.q b q).2.1 he.1, (k.q b q).2.2⟩, k.ls.ext he (fun b e z => by have := (k.q b0 q0).2.2; rw [e] at this; exact this (by rw [← z]; rfl)), k.ln, k.l5, fun i hi => so _ (k.oe i hi), fun i hi => ss _ (k.oi i hi), so _ k.fe, so _ k.he, so _ k.hl, ss _ k.fi, ss _ k.hi, k.ne, k.ni, k.ae, k.ai⟩
end kp
/-- what a stamping leaves -/
structure SM (d d' : DR) : Prop where
  nm : d'.nm = d.nm
  dt : d'.dt = d.dt
  rw : d'.rw = d.rw
  ls : d'.ls = d.ls
  ex : d'.ex = d.ex
  em : d'.em = d.em
  ix : d'.ix = d.ix
  im : d'.im = d.im
  pn : d'.pn = d.pn
theorem SM.refl (d : DR) : SM d d := ⟨rfl, rfl, rfl, rfl, rfl, rfl, rfl, rfl, rfl⟩
theorem SM.trans {a b c : DR} (x : SM a b) (y : SM b c) : SM a c := ⟨y.nm.trans x.nm, y.dt.trans x.dt, y.rw.trans x.rw, y.ls.trans x.ls, y.ex.trans x.ex, y.em.trans x.em, y.ix.trans x.ix, y.im.trans x.im, y.pn.trans x.pn⟩
theorem sliceV_cap {P : Program} {t : TypeId} {z : Nat} {a : Option Addr} {len cap : Nat} {k : IntKind} (hz : elS P t = some z) (h : a = none → cap = 0) : sliceV P t (.slice a len cap) none (some (.int k (cap : Int))) = some (.slice a cap cap) := by
  cases a with
  | none => obtain rfl := h rfl; exact sliceV_cut0 hz
  | some a => rw [sliceV_hi hz (by omega) (by omega), Int.toNat_natCast]
theorem KB.nz {T : TypeId} {nc : Nat} {h : Heap} {Q : Nat → Prop} {s : SL} (k : KB T nc h Q s) : s.a = none → s.c = 0 := fun e => by
  rcases k with k | ⟨b, cs, e2, _⟩
  · exact k.2
  · rw [e] at e2; cases e2
/-- the first i of a list are all stamp -/
def Stm (T : TypeId) (st : List Value) (h : Heap) (Q : Nat → Prop) (s : SL) (i : Nat) : Prop := (s.a = none ∧ s.c = 0) ∨ ∃ b cs, s.a = some ⟨b, 0, none⟩ ∧ Q b ∧ B h b cs T ∧ cs.size = s.c * st.length ∧ ∀ j, j < i * st.length → cs[j]? = st[j % st.length]?
theorem KB.stm {T : TypeId} {st : List Value} {h : Heap} {Q : Nat → Prop} {s : SL} (k : KB T st.length h Q s) : Stm T st h Q s 0 := by
  rcases k with k | ⟨b, cs, e, q, hb, hz⟩
  · exact .inl k
  · exact .inr ⟨b, cs, e, q, hb, hz, fun j hj => by rw [Nat.zero_mul] at hj; omega⟩
theorem Stm.ext {T : TypeId} {st : List Value} {h h' : Heap} {Q S : Nat → Prop} {s : SL} {i : Nat} (k : Stm T st h Q s i) (he : Ext S h h') (hs : ∀ b, Q b → ¬ S b) : Stm T st h' Q s i := by
  rcases k with k | ⟨b, cs, e, q, hb, r⟩
  · exact .inl k
  · exact .inr ⟨b, cs, e, q, hb.ext he (hs b q), r⟩
theorem Stm.get {T : TypeId} {st : List Value} {h : Heap} {Q : Nat → Prop} {s : SL} {i : Nat} (k : Stm T st h Q s i) (hi : i < s.c) : ∃ b cs, s.a = some ⟨b, 0, none⟩ ∧ Q b ∧ B h b cs T ∧ cs.size = s.c * st.length ∧ ∀ j, j < i * st.length → cs[j]? = st[j % st.length]? := by
  rcases k with k | k
  · omega
  · exact k
theorem stm_step {T : TypeId} {st : List Value} {h : Heap} {Q : Nat → Prop} {s : SL} {i b : Nat} {cs : Array Value} (hl : 0 < st.length) (e : s.a = some ⟨b, 0, none⟩) (q : Q b) (hb : B h b cs T) (hz : cs.size = s.c * st.length) (hj : ∀ j, j < i * st.length → cs[j]? = st[j % st.length]?) (hi : i < s.c) : i * st.length + st.length ≤ cs.size ∧ Stm T st (putsH h b (i * st.length) st) Q s (i + 1) := by
  have hle : i * st.length + st.length ≤ cs.size := by
    rw [hz, ← Nat.succ_mul]; exact Nat.mul_le_mul_right _ hi
  obtain ⟨c2, k1, k2, k3, k4⟩ := puts_at (vs := st) (o := i * st.length) hb hle
  refine ⟨hle, .inr ⟨b, c2, e, q, k1, by omega, fun j hj2 => ?_⟩⟩
  rw [Nat.succ_mul] at hj2
  rcases Nat.lt_or_ge j (i * st.length) with w | w
  · rw [k4 j (.inl w)]; exact hj j w
  · have := k3 (j - i * st.length) (by omega)
    rw [show i * st.length + (j - i * st.length) = j by omega] at this
    rw [this]
    congr 1
    rw [show j = (j - i * st.length) + i * st.length by omega, Nat.add_mul_mod_self_right, Nat.mod_eq_of_lt (by omega)]
    omega
theorem Stm.sk {T : TypeId} {st : List Value} {h : Heap} {Q : Nat → Prop} {s : SL} {i : Nat} (k : Stm T st h Q s i) (hi : i = s.c) (h9 : s.c ≤ 9) : SK T st h Q ⟨s.a, s.c, s.c⟩ := by
  subst hi
  refine ⟨h9, ?_⟩
  rcases k with ⟨_, k⟩ | ⟨b, cs, e, q, hb, hz, r⟩
  · exact .inl k
  · exact .inr ⟨b, cs, e, q, hb, Nat.le_of_eq hz.symm, r⟩
set_option maxHeartbeats 1600000 in
theorem keepe_spec (h : Heap) (X : Nat) (Q : Nat → Prop) (d : DR) (L : List En) (N : Nat) (db : DB h X d) (kp : KP h X Q d L N) (s : SL) (kb : KB 104 2 h Q s) (hs : s.c ≤ 9) :
    FC Tryz.prog 60 (#[.pointer (some ⟨X, 0, none⟩), .slice s.a s.n s.c] : Array Value) h fun rv h' => rv = .tuple #[] ∧ ∃ d', DB h' X d' ∧ KP h' X Q d' L N ∧ SM d d' ∧ d'.pl = d.pl ∧ Ext (fun z => z = X ∨ blkA s.a = some z) h h' := by
  try clear v0 v1 v2 v3 v4 v5 v6 v7 ve vi_ v16 v17 v18 v19 v20 v21 v22 v23 v24 v25 v26 vok
  obtain ⟨v0, v1, v2, v3, v4, v5, v6, v7, ve, vi_, v16, v17, v18, v19, v20, v21, v22, v23, v24, v25, v26, vok⟩ := ddq (db)
  refine FC_of [(0, .pointer (some ⟨X, 0, none⟩)), (1, .slice s.a s.n s.c)] Tryz.func60 rfl Tryz.ntmps60 (by simp) rfl (fun R hR => ?_)
  refine V_sr T.mix (by kernel_rfl) (fun K1 hK1 => ?_)
  refine S_mv rfl ?_
  refine S_mv rfl ?_
  refine S_capl T.el37 rfl ?_
  refine S_sl rfl rfl rfl (sliceV_cap T.el37 kb.nz) ?_
  refine S_as rfl ?_
  refine S_nil (hK1 _ _ (V_keep [0, 4] (by simp only [proj, lk, reduceIte, Nat.reduceEqDiff]; rfl) ?_)); clear hK1
  refine V_seq (fun K2 hK2 => ?_)
  refine V_sr T.mix (by kernel_rfl) (fun K3 hK3 => ?_)
  refine S_as rfl ?_
  refine S_nil (hK3 _ _ (V_keep [0, 4, 5] (by simp only [proj, lk, reduceIte, Nat.reduceEqDiff]; rfl) ?_)); clear hK3
  refine V_block ?_
  refine V_loop (fun m l h' => ∃ (i : Nat) (hk : Heap), (i ≤ s.c) ∧ (DB hk X d) ∧ (KP hk X Q d L N) ∧ (Stm 104 STE hk Q s i) ∧ (Ext (fun z => z = X ∨ blkA s.a = some z) h hk) ∧ m = s.c - i ∧ l = [(0, .pointer (some ⟨X, 0, none⟩)), (4, .slice s.a s.c s.c), (5, .int .i64 (i : Int))] ∧ hk = h') _ ⟨0, h, Nat.zero_le _, db, kp, KB.stm (st := STE) kb, Ext.refl _ _, rfl, rfl, rfl⟩ ?_
  rintro m l h' ⟨i, hk, hi, dbk, kpk, stmk, hEk, rfl, rfl, rfl⟩ K4 hK4
  try clear v0 v1 v2 v3 v4 v5 v6 v7 ve vi_ v16 v17 v18 v19 v20 v21 v22 v23 v24 v25 v26 vok
  obtain ⟨v0, v1, v2, v3, v4, v5, v6, v7, ve, vi_, v16, v17, v18, v19, v20, v21, v22, v23, v24, v25, v26, vok⟩ := ddq (dbk)
  refine V_seq (fun K5 hK5 => ?_)
  refine V_sr T.mix (by kernel_rfl) (fun K6 hK6 => ?_)
  refine S_mv rfl ?_
  refine S_mv rfl ?_
  refine S_lenl T.el37 rfl ?_
  refine S_bin rfl rfl rfl ?_
  refine S_nil (hK6 _ _ (V_keep [0, 4, 5, 13] (by simp only [proj, lk, reduceIte, Nat.reduceEqDiff]; rfl) ?_)); clear hK6
  refine V_condp rfl (fun c207 => ?_) (fun c207 => ?_)
  · skip
    have hic : i < s.c := by omega
    refine V_skipk [0, 4, 5] (by simp only [proj, lk, reduceIte, Nat.reduceEqDiff]; rfl) ?_
    refine hK5 _ _ ?_; clear hK5
    refine V_seq (fun K7 hK7 => ?_)
    refine V_block ?_
    refine V_reg T.mix (by kernel_rfl) ?_
    refine S_mv rfl ?_
    refine S_mv rfl ?_
    refine S_bld rfl (T.bld104_0_1 _ _) ?_
    obtain ⟨b, cs, hsa, qb, hbb, hcz, hcj⟩ := stmk.get hic
    have wok : ∀ j, j < cs.size → okPut hk ⟨b, j, none⟩ = true := fun j hj => hbb.ok hj
    have hczn : cs.size = s.c * 2 := hcz
    refine S_ix (b := b) (o := 0) (len := s.c) (cap := s.c) T.el37 (by rw [← hsa]; rfl) rfl (by omega) (by omega) ?_
    rw [Nat.zero_add, Int.toNat_natCast]
    refine S_stl T.sz104 rfl rfl rfl rfl (fun j hj => by simp (disch := omega) only [wok]) ?_
    generalize hh : putsH _ _ _ _ = h2
    obtain ⟨hle, stm1⟩ := stm_step (st := STE) (by decide) hsa qb hbb hcz hcj hic
    have kp2 := kpk.stE qb hbb hle
    have hEh2 : Ext (fun z => z = b) hk h2 := by rw [← hh]; exact Ext.puts (S := fun z => z = b) rfl _ _ _
    change Stm _ _ (putsH hk b (i * 2) STE) _ _ _ at stm1
    rw [show putsH hk b (i * 2) STE = h2 from hh] at stm1 kp2
    clear hh
    have hXb := (kpk.q b qb).1
    have db2 := dbk.ext hEh2 (fun e => by omega)
    have hE2 : Ext (fun z => z = X ∨ blkA s.a = some z) h h2 := hEk.trans (hEh2.mono fun z e => .inr (by rw [hsa, e]; rfl))
    refine S_nilk [0, 4, 5] (by simp only [proj, lk, reduceIte, Nat.reduceEqDiff]; rfl) ?_
    refine hK7 _ _ ?_; clear hK7
    refine V_reg T.mix (by kernel_rfl) ?_
    refine S_mv rfl ?_
    refine S_addN (i + 1) rfl rfl (by omega) (by omega) ?_
    refine S_as rfl ?_
    refine S_nilk [0, 4, 5] (by simp only [proj, lk, reduceIte, Nat.reduceEqDiff]; rfl) ?_
    exact hK4 _ _ ⟨_, by omega, i + 1, h2, by omega, db2, kp2, stm1, hE2, rfl, rfl, rfl⟩
  · skip
    refine V_exitk [0, 4] rfl (by simp only [proj, lk, reduceIte, Nat.reduceEqDiff]; rfl) ?_
    refine hK2 _ _ ?_; clear hK2
    refine V_sr T.mix (by kernel_rfl) (fun K8 hK8 => ?_)
    refine S_mv rfl ?_
    refine S_lenl T.el37 rfl ?_
    refine S_bin rfl rfl rfl ?_
    refine S_nil (hK8 _ _ (V_keep [0, 4, 22] (by simp only [proj, lk, reduceIte, Nat.reduceEqDiff]; rfl) ?_)); clear hK8
    refine V_condp rfl (fun c210 => ?_) (fun c210 => ?_)
    · skip
      refine V_sr T.mix (by kernel_rfl) (fun K9 hK9 => ?_)
      refine S_mv rfl ?_
      refine S_mv rfl ?_
      refine S_nc rfl ?_
      first | refine S_fa0 T.f42_10 rfl ?_ | refine S_fa T.f42_10 rfl ?_
      refine S_ldK T.ag3 rfl (fun K' hK' => ?_)
      simp (disch := omega) only [v0, v1, v2, v3, v4, v5, v6, v7, ve, vi_, v16, v17, v18, v19, v20, v21, v22, v23, v24, v25, v26, oP_some, Nat.add_zero]
      refine hK' _ ?_; clear hK' K'
      refine S_mv rfl ?_
      refine S_nc rfl ?_
      first | refine S_fa0 T.f42_8 rfl ?_ | refine S_fa T.f42_8 rfl ?_
      have hnx := kpk.ne
      refine S_ixan T.ar39 rfl rfl (by have h9 := kpk.ne; omega) ?_
      refine S_st T.sz37 rfl rfl rfl rfl (by simp (disch := omega) only [vok]) ?_
      generalize hh : putH _ _ _ = h3
      have db3 : DB h3 X { d with oe := Huf.ups d.oe d.ne ⟨s.a, s.c, s.c⟩ } := by rw [← hh]; exact (dbk.putA _ _).cong (dk_oe _ _ _ hnx)
      have hEh3 : Ext (fun z => z = X) hk h3 := by rw [← hh]; exact Ext.put _ _ rfl
      clear hh
      try clear v0 v1 v2 v3 v4 v5 v6 v7 ve vi_ v16 v17 v18 v19 v20 v21 v22 v23 v24 v25 v26 vok
      obtain ⟨v0, v1, v2, v3, v4, v5, v6, v7, ve, vi_, v16, v17, v18, v19, v20, v21, v22, v23, v24, v25, v26, vok⟩ := ddq (db3)
      refine S_nil (hK9 _ _ (V_keep [0] (by simp only [proj, lk, reduceIte, Nat.reduceEqDiff]; rfl) ?_)); clear hK9
      refine V_reg T.mix (by kernel_rfl) ?_
      refine S_mv rfl ?_
      refine S_mv rfl ?_
      refine S_nc rfl ?_
      first | refine S_fa0 T.f42_10 rfl ?_ | refine S_fa T.f42_10 rfl ?_
      refine S_ldK T.ag3 rfl (fun K' hK' => ?_)
      simp (disch := omega) only [v0, v1, v2, v3, v4, v5, v6, v7, ve, vi_, v16, v17, v18, v19, v20, v21, v22, v23, v24, v25, v26, oP_some, Nat.add_zero]
      refine hK' _ ?_; clear hK' K'
      refine S_addN (d.ne + 1) rfl rfl (by omega) (by omega) ?_
      refine S_rem rfl rfl (by omega) (by omega) ?_
      rw [show ((d.ne + 1 : Nat) : Int) % 4 = (((d.ne + 1) % 4 : Nat) : Int) by omega]
      refine S_nc rfl ?_
      first | refine S_fa0 T.f42_10 rfl ?_ | refine S_fa T.f42_10 rfl ?_
      refine S_st T.sz3 rfl rfl rfl rfl (by simp (disch := omega) only [vok]) ?_
      generalize hh : putH _ _ _ = h4
      have db4 : DB h4 X { d with oe := Huf.ups d.oe d.ne ⟨s.a, s.c, s.c⟩, ne := (d.ne + 1) % 4 } := by rw [← hh]; exact (db3.putA 16 _).cong (arr_ext (dk27 rfl rfl rfl rfl rfl rfl rfl rfl rfl rfl rfl rfl rfl rfl rfl rfl rfl rfl rfl rfl rfl rfl rfl rfl rfl rfl rfl))
      have hEh4 : Ext (fun z => z = X) h3 h4 := by rw [← hh]; exact Ext.put _ _ rfl
      clear hh
      try clear v0 v1 v2 v3 v4 v5 v6 v7 ve vi_ v16 v17 v18 v19 v20 v21 v22 v23 v24 v25 v26 vok
      obtain ⟨v0, v1, v2, v3, v4, v5, v6, v7, ve, vi_, v16, v17, v18, v19, v20, v21, v22, v23, v24, v25, v26, vok⟩ := ddq (db4)
      refine S_nilk [] (by simp only [proj, lk, reduceIte, Nat.reduceEqDiff]; rfl) ?_
      -- end
      refine hR _ _ (ret0 rfl ?_)
      have hE34 := hEh3.trans hEh4
      have kpk := kpk.desk hE34
      have stmk := stmk.ext hE34 (fun b q e => by have h9 := (kp.q b q).1; omega)
      exact ⟨rfl, _, db4, ⟨kpk.q, kpk.ls, kpk.ln, kpk.l5, sk_ups (stmk.sk (by omega) hs) kpk.oe, kpk.oi, kpk.fe, kpk.he, kpk.hl, kpk.fi, kpk.hi, Nat.mod_lt _ (by decide), kpk.ni, kpk.ae, kpk.ai⟩, ⟨rfl, rfl, rfl, rfl, rfl, rfl, rfl, rfl, rfl⟩, rfl, hEk.trans (hE34.mono fun _ e => .inl e)⟩
    · skip
      refine V_skipk [] (by simp only [proj, lk, reduceIte, Nat.reduceEqDiff]; rfl) ?_
      -- end
      refine hR _ _ (ret0 rfl ?_)
      exact ⟨rfl, _, dbk, kpk, SM.refl d, rfl, hEk⟩
set_option maxHeartbeats 1600000 in
theorem keepi_spec (h : Heap) (X : Nat) (Q : Nat → Prop) (d : DR) (L : List En) (N : Nat) (db : DB h X d) (kp : KP h X Q d L N) (s : SL) (kb : KB 122 3 h Q s) (hs : s.c ≤ 9) :
    FC Tryz.prog 76 (#[.pointer (some ⟨X, 0, none⟩), .slice s.a s.n s.c] : Array Value) h fun rv h' => rv = .tuple #[] ∧ ∃ d', DB h' X d' ∧ KP h' X Q d' L N ∧ SM d d' ∧ d'.pl = d.pl ∧ Ext (fun z => z = X ∨ blkA s.a = some z) h h' := by
  try clear v0 v1 v2 v3 v4 v5 v6 v7 ve vi_ v16 v17 v18 v19 v20 v21 v22 v23 v24 v25 v26 vok
  obtain ⟨v0, v1, v2, v3, v4, v5, v6, v7, ve, vi_, v16, v17, v18, v19, v20, v21, v22, v23, v24, v25, v26, vok⟩ := ddq (db)
  refine FC_of [(0, .pointer (some ⟨X, 0, none⟩)), (1, .slice s.a s.n s.c)] Tryz.func76 rfl Tryz.ntmps76 (by simp) rfl (fun R hR => ?_)
  refine V_sr T.mix (by kernel_rfl) (fun K1 hK1 => ?_)
  refine S_mv rfl ?_
  refine S_mv rfl ?_
  refine S_capl T.el38 rfl ?_
  refine S_sl rfl rfl rfl (sliceV_cap T.el38 kb.nz) ?_
  refine S_as rfl ?_
  refine S_nil (hK1 _ _ (V_keep [0, 4] (by simp only [proj, lk, reduceIte, Nat.reduceEqDiff]; rfl) ?_)); clear hK1
  refine V_seq (fun K2 hK2 => ?_)
  refine V_sr T.mix (by kernel_rfl) (fun K3 hK3 => ?_)
  refine S_as rfl ?_
  refine S_nil (hK3 _ _ (V_keep [0, 4, 5] (by simp only [proj, lk, reduceIte, Nat.reduceEqDiff]; rfl) ?_)); clear hK3
  refine V_block ?_
  refine V_loop (fun m l h' => ∃ (i : Nat) (hk : Heap), (i ≤ s.c) ∧ (DB hk X d) ∧ (KP hk X Q d L N) ∧ (Stm 122 STI hk Q s i) ∧ (Ext (fun z => z = X ∨ blkA s.a = some z) h hk) ∧ m = s.c - i ∧ l = [(0, .pointer (some ⟨X, 0, none⟩)), (4, .slice s.a s.c s.c), (5, .int .i64 (i : Int))] ∧ hk = h') _ ⟨0, h, Nat.zero_le _, db, kp, KB.stm (st := STI) kb, Ext.refl _ _, rfl, rfl, rfl⟩ ?_
  rintro m l h' ⟨i, hk, hi, dbk, kpk, stmk, hEk, rfl, rfl, rfl⟩ K4 hK4
  try clear v0 v1 v2 v3 v4 v5 v6 v7 ve vi_ v16 v17 v18 v19 v20 v21 v22 v23 v24 v25 v26 vok
  obtain ⟨v0, v1, v2, v3, v4, v5, v6, v7, ve, vi_, v16, v17, v18, v19, v20, v21, v22, v23, v24, v25, v26, vok⟩ := ddq (dbk)
  refine V_seq (fun K5 hK5 => ?_)
  refine V_sr T.mix (by kernel_rfl) (fun K6 hK6 => ?_)
  refine S_mv rfl ?_
  refine S_mv rfl ?_
  refine S_lenl T.el38 rfl ?_
  refine S_bin rfl rfl rfl ?_
  refine S_nil (hK6 _ _ (V_keep [0, 4, 5, 13] (by simp only [proj, lk, reduceIte, Nat.reduceEqDiff]; rfl) ?_)); clear hK6
  refine V_condp rfl (fun c219 => ?_) (fun c219 => ?_)
  · skip
    have hic : i < s.c := by omega
    refine V_skipk [0, 4, 5] (by simp only [proj, lk, reduceIte, Nat.reduceEqDiff]; rfl) ?_
    refine hK5 _ _ ?_; clear hK5
    refine V_seq (fun K7 hK7 => ?_)
    refine V_block ?_
    refine V_reg T.mix (by kernel_rfl) ?_
    refine S_mv rfl ?_
    refine S_mv rfl ?_
    refine S_bld rfl (T.bld122_0_1_2 _ _ _) ?_
    obtain ⟨b, cs, hsa, qb, hbb, hcz, hcj⟩ := stmk.get hic
    have wok : ∀ j, j < cs.size → okPut hk ⟨b, j, none⟩ = true := fun j hj => hbb.ok hj
    have hczn : cs.size = s.c * 3 := hcz
    refine S_ix (b := b) (o := 0) (len := s.c) (cap := s.c) T.el38 (by rw [← hsa]; rfl) rfl (by omega) (by omega) ?_
    rw [Nat.zero_add, Int.toNat_natCast]
    refine S_stl T.sz122 rfl rfl rfl rfl (fun j hj => by simp (disch := omega) only [wok]) ?_
    generalize hh : putsH _ _ _ _ = h2
    obtain ⟨hle, stm1⟩ := stm_step (st := STI) (by decide) hsa qb hbb hcz hcj hic
    have kp2 := kpk.stI qb hbb hle
    have hEh2 : Ext (fun z => z = b) hk h2 := by rw [← hh]; exact Ext.puts (S := fun z => z = b) rfl _ _ _
    change Stm _ _ (putsH hk b (i * 3) STI) _ _ _ at stm1
    rw [show putsH hk b (i * 3) STI = h2 from hh] at stm1 kp2
    clear hh
    have hXb := (kpk.q b qb).1
    have db2 := dbk.ext hEh2 (fun e => by omega)
    have hE2 : Ext (fun z => z = X ∨ blkA s.a = some z) h h2 := hEk.trans (hEh2.mono fun z e => .inr (by rw [hsa, e]; rfl))
    refine S_nilk [0, 4, 5] (by simp only [proj, lk, reduceIte, Nat.reduceEqDiff]; rfl) ?_
    refine hK7 _ _ ?_; clear hK7
    refine V_reg T.mix (by kernel_rfl) ?_
    refine S_mv rfl ?_
    refine S_addN (i + 1) rfl rfl (by omega) (by omega) ?_
    refine S_as rfl ?_
    refine S_nilk [0, 4, 5] (by simp only [proj, lk, reduceIte, Nat.reduceEqDiff]; rfl) ?_
    exact hK4 _ _ ⟨_, by omega, i + 1, h2, by omega, db2, kp2, stm1, hE2, rfl, rfl, rfl⟩
  · skip
    refine V_exitk [0, 4] rfl (by simp only [proj, lk, reduceIte, Nat.reduceEqDiff]; rfl) ?_
    refine hK2 _ _ ?_; clear hK2
    refine V_sr T.mix (by kernel_rfl) (fun K8 hK8 => ?_)
    refine S_mv rfl ?_
    refine S_lenl T.el38 rfl ?_
    refine S_bin rfl rfl rfl ?_
    refine S_nil (hK8 _ _ (V_keep [0, 4, 22] (by simp only [proj, lk, reduceIte, Nat.reduceEqDiff]; rfl) ?_)); clear hK8
    refine V_condp rfl (fun c222 => ?_) (fun c222 => ?_)
    · skip
      refine V_sr T.mix (by kernel_rfl) (fun K9 hK9 => ?_)
      refine S_mv rfl ?_
      refine S_mv rfl ?_
      refine S_nc rfl ?_
      first | refine S_fa0 T.f42_11 rfl ?_ | refine S_fa T.f42_11 rfl ?_
      refine S_ldK T.ag3 rfl (fun K' hK' => ?_)
      simp (disch := omega) only [v0, v1, v2, v3, v4, v5, v6, v7, ve, vi_, v16, v17, v18, v19, v20, v21, v22, v23, v24, v25, v26, oP_some, Nat.add_zero]
      refine hK' _ ?_; clear hK' K'
      refine S_mv rfl ?_
      refine S_nc rfl ?_
      first | refine S_fa0 T.f42_9 rfl ?_ | refine S_fa T.f42_9 rfl ?_
      have hnx := kpk.ni
      refine S_ixan T.ar40 rfl rfl (by have h9 := kpk.ni; omega) ?_
      refine S_st T.sz38 rfl rfl rfl rfl (by simp (disch := omega) only [vok]) ?_
      generalize hh : putH _ _ _ = h3
      have db3 : DB h3 X { d with oi := Huf.ups d.oi d.ni ⟨s.a, s.c, s.c⟩ } := by rw [← hh]; exact (dbk.putA _ _).cong (dk_oi _ _ _ hnx)
      have hEh3 : Ext (fun z => z = X) hk h3 := by rw [← hh]; exact Ext.put _ _ rfl
      clear hh
      try clear v0 v1 v2 v3 v4 v5 v6 v7 ve vi_ v16 v17 v18 v19 v20 v21 v22 v23 v24 v25 v26 vok
      obtain ⟨v0, v1, v2, v3, v4, v5, v6, v7, ve, vi_, v16, v17, v18, v19, v20, v21, v22, v23, v24, v25, v26, vok⟩ := ddq (db3)
      refine S_nil (hK9 _ _ (V_keep [0] (by simp only [proj, lk, reduceIte, Nat.reduceEqDiff]; rfl) ?_)); clear hK9
      refine V_reg T.mix (by kernel_rfl) ?_
      refine S_mv rfl ?_
      refine S_mv rfl ?_
      refine S_nc rfl ?_
      first | refine S_fa0 T.f42_11 rfl ?_ | refine S_fa T.f42_11 rfl ?_
      refine S_ldK T.ag3 rfl (fun K' hK' => ?_)
      simp (disch := omega) only [v0, v1, v2, v3, v4, v5, v6, v7, ve, vi_, v16, v17, v18, v19, v20, v21, v22, v23, v24, v25, v26, oP_some, Nat.add_zero]
      refine hK' _ ?_; clear hK' K'
      refine S_addN (d.ni + 1) rfl rfl (by omega) (by omega) ?_
      refine S_rem rfl rfl (by omega) (by omega) ?_
      rw [show ((d.ni + 1 : Nat) : Int) % 4 = (((d.ni + 1) % 4 : Nat) : Int) by omega]
      refine S_nc rfl ?_
      first | refine S_fa0 T.f42_11 rfl ?_ | refine S_fa T.f42_11 rfl ?_
      refine S_st T.sz3 rfl rfl rfl rfl (by simp (disch := omega) only [vok]) ?_
      generalize hh : putH _ _ _ = h4
      have db4 : DB h4 X { d with oi := Huf.ups d.oi d.ni ⟨s.a, s.c, s.c⟩, ni := (d.ni + 1) % 4 } := by rw [← hh]; exact (db3.putA 17 _).cong (arr_ext (dk27 rfl rfl rfl rfl rfl rfl rfl rfl rfl rfl rfl rfl rfl rfl rfl rfl rfl rfl rfl rfl rfl rfl rfl rfl rfl rfl rfl))
      have hEh4 : Ext (fun z => z = X) h3 h4 := by rw [← hh]; exact Ext.put _ _ rfl
      clear hh
      try clear v0 v1 v2 v3 v4 v5 v6 v7 ve vi_ v16 v17 v18 v19 v20 v21 v22 v23 v24 v25 v26 vok
      obtain ⟨v0, v1, v2, v3, v4, v5, v6, v7, ve, vi_, v16, v17, v18, v19, v20, v21, v22, v23, v24, v25, v26, vok⟩ := ddq (db4)
      refine S_nilk [] (by simp only [proj, lk, reduceIte, Nat.reduceEqDiff]; rfl) ?_
      -- end
      refine hR _ _ (ret0 rfl ?_)
      have hE34 := hEh3.trans hEh4
      have kpk := kpk.desk hE34
      have stmk := stmk.ext hE34 (fun b q e => by have h9 := (kp.q b q).1; omega)
      exact ⟨rfl, _, db4, ⟨kpk.q, kpk.ls, kpk.ln, kpk.l5, kpk.oe, sk_ups (stmk.sk (by omega) hs) kpk.oi, kpk.fe, kpk.he, kpk.hl, kpk.fi, kpk.hi, kpk.ne, Nat.mod_lt _ (by decide), kpk.ae, kpk.ai⟩, ⟨rfl, rfl, rfl, rfl, rfl, rfl, rfl, rfl, rfl⟩, rfl, hEk.trans (hE34.mono fun _ e => .inl e)⟩
    · skip
      refine V_skipk [] (by simp only [proj, lk, reduceIte, Nat.reduceEqDiff]; rfl) ?_
      -- end
      refine hR _ _ (ret0 rfl ?_)
      exact ⟨rfl, _, dbk, kpk, SM.refl d, rfl, hEk⟩
set_option maxHeartbeats 3200000 in
theorem holde_spec (h : Heap) (X : Nat) (Q : Nat → Prop) (d : DR) (L : List En) (N : Nat) (db : DB h X d) (kp : KP h X Q d L N) (s : SL) (kb : KB 104 2 h Q s) (hs : s.c ≤ 9) (pn : Bool) (hN : N ≤ 9000000000000) :
    FC Tryz.prog 58 (#[.pointer (some ⟨X, 0, none⟩), .slice s.a s.n s.c, .bool pn] : Array Value) h fun rv h' => rv = .tuple #[] ∧ ∃ d', DB h' X d' ∧ KP h' X Q d' L (N + 1) ∧ SM d d' ∧ d'.pl = d.pl ∧ Ext (fun z => z = X ∨ blkA s.a = some z) h h' := by
  try clear v0 v1 v2 v3 v4 v5 v6 v7 ve vi_ v16 v17 v18 v19 v20 v21 v22 v23 v24 v25 v26 vok
  obtain ⟨v0, v1, v2, v3, v4, v5, v6, v7, ve, vi_, v16, v17, v18, v19, v20, v21, v22, v23, v24, v25, v26, vok⟩ := ddq (db)
  have hae := kp.ae
  refine FC_of [(0, .pointer (some ⟨X, 0, none⟩)), (1, .slice s.a s.n s.c), (2, .bool pn)] Tryz.func58 rfl Tryz.ntmps58 (by simp) rfl (fun R hR => ?_)
  refine V_seq (fun K1 hK1 => ?_)
  refine V_sr T.mix (by kernel_rfl) (fun K2 hK2 => ?_)
  refine S_mv rfl ?_
  refine S_capl T.el37 rfl ?_
  refine S_bin rfl rfl rfl ?_
  refine S_nil (hK2 _ _ (V_keep [0, 1, 2, 10] (by simp only [proj, lk, reduceIte, Nat.reduceEqDiff]; rfl) ?_)); clear hK2
  refine V_condp rfl (fun c147 => ?_) (fun c147 => ?_)
  · skip
    refine V_ret ?_
    refine hR _ _ (ret0 rfl ?_)
    exact ⟨rfl, d, db, ⟨kp.q, kp.ls, kp.ln, kp.l5, kp.oe, kp.oi, kp.fe, kp.he, kp.hl, kp.fi, kp.hi, kp.ne, kp.ni, Nat.le_succ_of_le kp.ae, Nat.le_succ_of_le kp.ai⟩, SM.refl d, rfl, Ext.refl _ _⟩
  · skip
    refine V_skipk [0, 1, 2] (by simp only [proj, lk, reduceIte, Nat.reduceEqDiff]; rfl) ?_
    refine hK1 _ _ ?_; clear hK1
    refine V_sr T.mix (by kernel_rfl) (fun K3 hK3 => ?_)
    refine S_mv rfl ?_
    refine S_nc rfl ?_
    first | refine S_fa0 T.f42_14 rfl ?_ | refine S_fa T.f42_14 rfl ?_
    refine S_ldK T.ag3 rfl (fun K' hK' => ?_)
    simp (disch := omega) only [v0, v1, v2, v3, v4, v5, v6, v7, ve, vi_, v16, v17, v18, v19, v20, v21, v22, v23, v24, v25, v26, oP_some, Nat.add_zero]
    refine hK' _ ?_; clear hK' K'
    refine S_addN (d.ae + 1) rfl rfl (by omega) (by omega) ?_
    refine S_nc rfl ?_
    first | refine S_fa0 T.f42_14 rfl ?_ | refine S_fa T.f42_14 rfl ?_
    refine S_st T.sz3 rfl rfl rfl rfl (by simp (disch := omega) only [vok]) ?_
    generalize hh : putH _ _ _ = h1
    have db1 : DB h1 X { d with ae := d.ae + 1 } := by rw [← hh]; exact (db.putA 20 _).cong (arr_ext (dk27 rfl rfl rfl rfl rfl rfl rfl rfl rfl rfl rfl rfl rfl rfl rfl rfl rfl rfl rfl rfl rfl rfl rfl rfl rfl rfl rfl))
    have hEh1 : Ext (fun z => z = X) h h1 := by rw [← hh]; exact Ext.put _ _ rfl
    clear hh
    try clear v0 v1 v2 v3 v4 v5 v6 v7 ve vi_ v16 v17 v18 v19 v20 v21 v22 v23 v24 v25 v26 vok
    obtain ⟨v0, v1, v2, v3, v4, v5, v6, v7, ve, vi_, v16, v17, v18, v19, v20, v21, v22, v23, v24, v25, v26, vok⟩ := ddq (db1)
    have kp1 : KP h1 X Q { d with ae := d.ae + 1 } L (N + 1) := (show KP h X Q { d with ae := d.ae + 1 } L (N + 1) from ⟨kp.q, kp.ls, kp.ln, kp.l5, kp.oe, kp.oi, kp.fe, kp.he, kp.hl, kp.fi, kp.hi, kp.ne, kp.ni, Nat.succ_le_succ kp.ae, Nat.le_succ_of_le kp.ai⟩).desk hEh1
    have kb1 : KB 104 2 h1 Q s := by rcases kb with kb | ⟨b, cs, e1, e2, e3, e4⟩; (exact .inl kb); (exact .inr ⟨b, cs, e1, e2, e3.ext hEh1 (fun e => by have h9 := (kp.q b e2).1; omega), e4⟩)
    refine S_nil (hK3 _ _ (V_keep [0, 1, 2] (by simp only [proj, lk, reduceIte, Nat.reduceEqDiff]; rfl) ?_)); clear hK3
    refine V_seq (fun K4 hK4 => ?_)
    refine V_sr T.mix (by kernel_rfl) (fun K5 hK5 => ?_)
    refine S_mv rfl ?_
    refine S_nil (hK5 _ _ (V_keep [0, 1, 18] (by simp only [proj, lk, reduceIte, Nat.reduceEqDiff]; rfl) ?_)); clear hK5
    refine V_condb rfl (fun c151 => ?_) (fun c151 => ?_)
    · skip
      refine V_sr T.mix (by kernel_rfl) (fun K6 hK6 => ?_)
      refine S_mv rfl ?_
      refine S_mv rfl ?_
      refine S_mv rfl ?_
      refine S_capl T.el37 rfl ?_
      refine S_sl rfl rfl rfl (sliceV_cap T.el37 kb.nz) ?_
      refine S_nc rfl ?_
      first | refine S_fa0 T.f42_17 rfl ?_ | refine S_fa T.f42_17 rfl ?_
      refine S_st T.sz37 rfl rfl rfl rfl (by simp (disch := omega) only [vok]) ?_
      generalize hh : putH _ _ _ = h3
      have db3 : DB h3 X { d with ae := d.ae + 1, he := ⟨s.a, s.c, s.c⟩ } := by rw [← hh]; exact (db1.putA 23 _).cong (arr_ext (dk27 rfl rfl rfl rfl rfl rfl rfl rfl rfl rfl rfl rfl rfl rfl rfl rfl rfl rfl rfl rfl rfl rfl rfl rfl rfl rfl rfl))
      have hEh3 : Ext (fun z => z = X) h1 h3 := by rw [← hh]; exact Ext.put _ _ rfl
      clear hh
      try clear v0 v1 v2 v3 v4 v5 v6 v7 ve vi_ v16 v17 v18 v19 v20 v21 v22 v23 v24 v25 v26 vok
      obtain ⟨v0, v1, v2, v3, v4, v5, v6, v7, ve, vi_, v16, v17, v18, v19, v20, v21, v22, v23, v24, v25, v26, vok⟩ := ddq (db3)
      have hE13 := hEh1.trans hEh3
      refine S_nil (hK6 _ _ (V_keep [0] (by simp only [proj, lk, reduceIte, Nat.reduceEqDiff]; rfl) ?_)); clear hK6
      refine V_seq (fun K7 hK7 => ?_)
      refine V_sr T.mix (by kernel_rfl) (fun K8 hK8 => ?_)
      refine S_as rfl ?_
      refine S_nil (hK8 _ _ (V_keep [0, 6] (by simp only [proj, lk, reduceIte, Nat.reduceEqDiff]; rfl) ?_)); clear hK8
      refine V_block ?_
      refine V_loop (fun m l h' => ∃ (i : Nat) (hk : Heap), (i ≤ s.c) ∧ (DB hk X { d with ae := d.ae + 1, he := ⟨s.a, s.c, s.c⟩ }) ∧ (KP hk X Q { d with ae := d.ae + 1 } L (N + 1)) ∧ (Stm 104 STE hk Q s i) ∧ (Ext (fun z => z = X ∨ blkA s.a = some z) h hk) ∧ m = s.c - i ∧ l = [(0, .pointer (some ⟨X, 0, none⟩)), (6, .int .i64 (i : Int))] ∧ hk = h') _ ⟨0, h3, Nat.zero_le _, db3, kp1.desk hEh3, (KB.stm (st := STE) kb).ext hE13 (fun b q e => by have h9 := (kp.q b q).1; omega), hE13.mono fun _ e => .inl e, rfl, rfl, rfl⟩ ?_
      rintro m l h' ⟨i, hk, hi, dbk, kpk, stmk, hEk, rfl, rfl, rfl⟩ K9 hK9
      try clear v0 v1 v2 v3 v4 v5 v6 v7 ve vi_ v16 v17 v18 v19 v20 v21 v22 v23 v24 v25 v26 vok
      obtain ⟨v0, v1, v2, v3, v4, v5, v6, v7, ve, vi_, v16, v17, v18, v19, v20, v21, v22, v23, v24, v25, v26, vok⟩ := ddq (dbk)
      refine V_seq (fun K10 hK10 => ?_)
      refine V_sr T.mix (by kernel_rfl) (fun K11 hK11 => ?_)
      refine S_mv rfl ?_
      refine S_mv rfl ?_
      refine S_nc rfl ?_
      first | refine S_fa0 T.f42_17 rfl ?_ | refine S_fa T.f42_17 rfl ?_
      refine S_ldK T.ag37 rfl (fun K' hK' => ?_)
      simp (disch := omega) only [v0, v1, v2, v3, v4, v5, v6, v7, ve, vi_, v16, v17, v18, v19, v20, v21, v22, v23, v24, v25, v26, oP_some, Nat.add_zero]
      refine hK' _ ?_; clear hK' K'
      refine S_lenl T.el37 rfl ?_
      refine S_bin rfl rfl rfl ?_
      refine S_nil (hK11 _ _ (V_keep [0, 6, 32] (by simp only [proj, lk, reduceIte, Nat.reduceEqDiff]; rfl) ?_)); clear hK11
      refine V_condp rfl (fun c153 => ?_) (fun c153 => ?_)
      · skip
        have hic : i < s.c := by omega
        refine V_skipk [0, 6] (by simp only [proj, lk, reduceIte, Nat.reduceEqDiff]; rfl) ?_
        refine hK10 _ _ ?_; clear hK10
        refine V_seq (fun K12 hK12 => ?_)
        refine V_block ?_
        refine V_reg T.mix (by kernel_rfl) ?_
        refine S_mv rfl ?_
        refine S_nc rfl ?_
        first | refine S_fa0 T.f42_17 rfl ?_ | refine S_fa T.f42_17 rfl ?_
        refine S_ldK T.ag37 rfl (fun K' hK' => ?_)
        simp (disch := omega) only [v0, v1, v2, v3, v4, v5, v6, v7, ve, vi_, v16, v17, v18, v19, v20, v21, v22, v23, v24, v25, v26, oP_some, Nat.add_zero]
        refine hK' _ ?_; clear hK' K'
        refine S_mv rfl ?_
        refine S_bld rfl (T.bld104_0_1 _ _) ?_
        obtain ⟨b, cs, hsa, qb, hbb, hcz, hcj⟩ := stmk.get hic
        have wok : ∀ j, j < cs.size → okPut hk ⟨b, j, none⟩ = true := fun j hj => hbb.ok hj
        have hczn : cs.size = s.c * 2 := hcz
        refine S_ix (b := b) (o := 0) (len := s.c) (cap := s.c) T.el37 (by rw [← hsa]; rfl) rfl (by omega) (by omega) ?_
        rw [Nat.zero_add, Int.toNat_natCast]
        refine S_stl T.sz104 rfl rfl rfl rfl (fun j hj => by simp (disch := omega) only [wok]) ?_
        generalize hh : putsH _ _ _ _ = h4
        obtain ⟨hle, stm1⟩ := stm_step (st := STE) (by decide) hsa qb hbb hcz hcj hic
        have kp2 := kpk.stE qb hbb hle
        have hEh4 : Ext (fun z => z = b) hk h4 := by rw [← hh]; exact Ext.puts (S := fun z => z = b) rfl _ _ _
        change Stm _ _ (putsH hk b (i * 2) STE) _ _ _ at stm1
        rw [show putsH hk b (i * 2) STE = h4 from hh] at stm1 kp2
        clear hh
        have hXb := (kpk.q b qb).1
        have db4 := dbk.ext hEh4 (fun e => by omega)
        have hE4 : Ext (fun z => z = X ∨ blkA s.a = some z) h h4 := hEk.trans (hEh4.mono fun z e => .inr (by rw [hsa, e]; rfl))
        refine S_nilk [0, 6] (by simp only [proj, lk, reduceIte, Nat.reduceEqDiff]; rfl) ?_
        refine hK12 _ _ ?_; clear hK12
        refine V_reg T.mix (by kernel_rfl) ?_
        refine S_mv rfl ?_
        refine S_addN (i + 1) rfl rfl (by omega) (by omega) ?_
        refine S_as rfl ?_
        refine S_nilk [0, 6] (by simp only [proj, lk, reduceIte, Nat.reduceEqDiff]; rfl) ?_
        exact hK9 _ _ ⟨_, by omega, i + 1, h4, by omega, db4, kp2, stm1, hE4, rfl, rfl, rfl⟩
      · skip
        refine V_exitk [] rfl (by simp only [proj, lk, reduceIte, Nat.reduceEqDiff]; rfl) ?_
        refine hK7 _ _ ?_; clear hK7
        refine V_ret ?_
        refine hR _ _ (ret0 rfl ?_)
        exact ⟨rfl, _, dbk, ⟨kpk.q, kpk.ls, kpk.ln, kpk.l5, kpk.oe, kpk.oi, kpk.fe, stmk.sk (by omega) hs, kpk.hl, kpk.fi, kpk.hi, kpk.ne, kpk.ni, kpk.ae, kpk.ai⟩, ⟨rfl, rfl, rfl, rfl, rfl, rfl, rfl, rfl, rfl⟩, rfl, hEk⟩
    · skip
      refine V_skipk [0, 1] (by simp only [proj, lk, reduceIte, Nat.reduceEqDiff]; rfl) ?_
      refine hK4 _ _ ?_; clear hK4
      refine V_seq (fun K13 hK13 => ?_)
      refine V_sr T.mix (by kernel_rfl) (fun K14 hK14 => ?_)
      refine S_mv rfl ?_
      refine S_nc rfl ?_
      first | refine S_fa0 T.f42_14 rfl ?_ | refine S_fa T.f42_14 rfl ?_
      refine S_ldK T.ag3 rfl (fun K' hK' => ?_)
      simp (disch := omega) only [v0, v1, v2, v3, v4, v5, v6, v7, ve, vi_, v16, v17, v18, v19, v20, v21, v22, v23, v24, v25, v26, oP_some, Nat.add_zero]
      refine hK' _ ?_; clear hK' K'
      refine S_mv rfl ?_
      refine S_nc rfl ?_
      first | refine S_fa0 T.f42_14 rfl ?_ | refine S_fa T.f42_14 rfl ?_
      refine S_ldK T.ag3 rfl (fun K' hK' => ?_)
      simp (disch := omega) only [v0, v1, v2, v3, v4, v5, v6, v7, ve, vi_, v16, v17, v18, v19, v20, v21, v22, v23, v24, v25, v26, oP_some, Nat.add_zero]
      refine hK' _ ?_; clear hK' K'
      refine S_subN d.ae rfl rfl (by omega) (by omega) ?_
      refine S_nand (d.ae + 1) d.ae ((d.ae + 1) &&& d.ae) rfl rfl rfl rfl rfl (BitW.top_i64 (by omega)) (BitW.top_i64 (by omega)) ?_
      obtain ⟨pw, epw⟩ : ∃ x, x = (d.ae + 1) &&& d.ae := ⟨_, rfl⟩
      rw [← epw]
      refine S_bin rfl rfl rfl ?_
      refine S_nil (hK14 _ _ (V_keep [0, 1, 52] (by simp only [proj, lk, reduceIte, Nat.reduceEqDiff]; rfl) ?_)); clear hK14
      refine V_condp rfl (fun c158 => ?_) (fun c158 => ?_)
      · skip
        refine V_sr T.mix (by kernel_rfl) (fun K15 hK15 => ?_)
        refine S_mv rfl ?_
        refine S_mv rfl ?_
        refine S_call T.hb60 rfl ?_
        refine FC.mono (keepe_spec h1 X Q _ L (N + 1) db1 kp1 s (kb1) hs) ?_
        rintro v' h2 ⟨rfl, d2, db2, kp2, sm2, pl2, hE2⟩
        refine S_nil (hK15 _ _ (V_keep [] (by simp only [proj, lk, reduceIte, Nat.reduceEqDiff]; rfl) ?_)); clear hK15
        refine V_ret ?_
        refine hR _ _ (ret0 rfl ?_)
        exact ⟨rfl, d2, db2, kp2, ⟨sm2.nm, sm2.dt, sm2.rw, sm2.ls, sm2.ex, sm2.em, sm2.ix, sm2.im, sm2.pn⟩, pl2, (hEh1.mono fun _ e => .inl e).trans hE2⟩
      · skip
        refine V_skipk [0, 1] (by simp only [proj, lk, reduceIte, Nat.reduceEqDiff]; rfl) ?_
        refine hK13 _ _ ?_; clear hK13
        refine V_sr T.mix (by kernel_rfl) (fun K16 hK16 => ?_)
        refine S_mv rfl ?_
        refine S_mv rfl ?_
        refine S_mv rfl ?_
        refine S_capl T.el37 rfl ?_
        refine S_sl rfl rfl rfl (sliceV_cap T.el37 kb.nz) ?_
        refine S_nc rfl ?_
        first | refine S_fa0 T.f42_12 rfl ?_ | refine S_fa T.f42_12 rfl ?_
        refine S_st T.sz37 rfl rfl rfl rfl (by simp (disch := omega) only [vok]) ?_
        generalize hh : putH _ _ _ = h3
        have db3 : DB h3 X { d with ae := d.ae + 1, fe := ⟨s.a, s.c, s.c⟩ } := by rw [← hh]; exact (db1.putA 18 _).cong (arr_ext (dk27 rfl rfl rfl rfl rfl rfl rfl rfl rfl rfl rfl rfl rfl rfl rfl rfl rfl rfl rfl rfl rfl rfl rfl rfl rfl rfl rfl))
        have hEh3 : Ext (fun z => z = X) h1 h3 := by rw [← hh]; exact Ext.put _ _ rfl
        clear hh
        try clear v0 v1 v2 v3 v4 v5 v6 v7 ve vi_ v16 v17 v18 v19 v20 v21 v22 v23 v24 v25 v26 vok
        obtain ⟨v0, v1, v2, v3, v4, v5, v6, v7, ve, vi_, v16, v17, v18, v19, v20, v21, v22, v23, v24, v25, v26, vok⟩ := ddq (db3)
        have hE13 := hEh1.trans hEh3
        refine S_nil (hK16 _ _ (V_keep [0] (by simp only [proj, lk, reduceIte, Nat.reduceEqDiff]; rfl) ?_)); clear hK16
        refine V_sr T.mix (by kernel_rfl) (fun K17 hK17 => ?_)
        refine S_as rfl ?_
        refine S_nil (hK17 _ _ (V_keep [0, 7] (by simp only [proj, lk, reduceIte, Nat.reduceEqDiff]; rfl) ?_)); clear hK17
        refine V_block ?_
        refine V_loop (fun m l h' => ∃ (i : Nat) (hk : Heap), (i ≤ s.c) ∧ (DB hk X { d with ae := d.ae + 1, fe := ⟨s.a, s.c, s.c⟩ }) ∧ (KP hk X Q { d with ae := d.ae + 1 } L (N + 1)) ∧ (Stm 104 STE hk Q s i) ∧ (Ext (fun z => z = X ∨ blkA s.a = some z) h hk) ∧ m = s.c - i ∧ l = [(0, .pointer (some ⟨X, 0, none⟩)), (7, .int .i64 (i : Int))] ∧ hk = h') _ ⟨0, h3, Nat.zero_le _, db3, kp1.desk hEh3, (KB.stm (st := STE) kb).ext hE13 (fun b q e => by have h9 := (kp.q b q).1; omega), hE13.mono fun _ e => .inl e, rfl, rfl, rfl⟩ ?_
        rintro m l h' ⟨i, hk, hi, dbk, kpk, stmk, hEk, rfl, rfl, rfl⟩ K18 hK18
        try clear v0 v1 v2 v3 v4 v5 v6 v7 ve vi_ v16 v17 v18 v19 v20 v21 v22 v23 v24 v25 v26 vok
        obtain ⟨v0, v1, v2, v3, v4, v5, v6, v7, ve, vi_, v16, v17, v18, v19, v20, v21, v22, v23, v24, v25, v26, vok⟩ := ddq (dbk)
        refine V_seq (fun K19 hK19 => ?_)
        refine V_sr T.mix (by kernel_rfl) (fun K20 hK20 => ?_)
        refine S_mv rfl ?_
        refine S_mv rfl ?_
        refine S_nc rfl ?_
        first | refine S_fa0 T.f42_12 rfl ?_ | refine S_fa T.f42_12 rfl ?_
        refine S_ldK T.ag37 rfl (fun K' hK' => ?_)
        simp (disch := omega) only [v0, v1, v2, v3, v4, v5, v6, v7, ve, vi_, v16, v17, v18, v19, v20, v21, v22, v23, v24, v25, v26, oP_some, Nat.add_zero]
        refine hK' _ ?_; clear hK' K'
        refine S_lenl T.el37 rfl ?_
        refine S_bin rfl rfl rfl ?_
        refine S_nil (hK20 _ _ (V_keep [0, 7, 69] (by simp only [proj, lk, reduceIte, Nat.reduceEqDiff]; rfl) ?_)); clear hK20
        refine V_condp rfl (fun c163 => ?_) (fun c163 => ?_)
        · skip
          have hic : i < s.c := by omega
          refine V_skipk [0, 7] (by simp only [proj, lk, reduceIte, Nat.reduceEqDiff]; rfl) ?_
          refine hK19 _ _ ?_; clear hK19
          refine V_seq (fun K21 hK21 => ?_)
          refine V_block ?_
          refine V_reg T.mix (by kernel_rfl) ?_
          refine S_mv rfl ?_
          refine S_nc rfl ?_
          first | refine S_fa0 T.f42_12 rfl ?_ | refine S_fa T.f42_12 rfl ?_
          refine S_ldK T.ag37 rfl (fun K' hK' => ?_)
          simp (disch := omega) only [v0, v1, v2, v3, v4, v5, v6, v7, ve, vi_, v16, v17, v18, v19, v20, v21, v22, v23, v24, v25, v26, oP_some, Nat.add_zero]
          refine hK' _ ?_; clear hK' K'
          refine S_mv rfl ?_
          refine S_bld rfl (T.bld104_0_1 _ _) ?_
          obtain ⟨b, cs, hsa, qb, hbb, hcz, hcj⟩ := stmk.get hic
          have wok : ∀ j, j < cs.size → okPut hk ⟨b, j, none⟩ = true := fun j hj => hbb.ok hj
          have hczn : cs.size = s.c * 2 := hcz
          refine S_ix (b := b) (o := 0) (len := s.c) (cap := s.c) T.el37 (by rw [← hsa]; rfl) rfl (by omega) (by omega) ?_
          rw [Nat.zero_add, Int.toNat_natCast]
          refine S_stl T.sz104 rfl rfl rfl rfl (fun j hj => by simp (disch := omega) only [wok]) ?_
          generalize hh : putsH _ _ _ _ = h4
          obtain ⟨hle, stm1⟩ := stm_step (st := STE) (by decide) hsa qb hbb hcz hcj hic
          have kp2 := kpk.stE qb hbb hle
          have hEh4 : Ext (fun z => z = b) hk h4 := by rw [← hh]; exact Ext.puts (S := fun z => z = b) rfl _ _ _
          change Stm _ _ (putsH hk b (i * 2) STE) _ _ _ at stm1
          rw [show putsH hk b (i * 2) STE = h4 from hh] at stm1 kp2
          clear hh
          have hXb := (kpk.q b qb).1
          have db4 := dbk.ext hEh4 (fun e => by omega)
          have hE4 : Ext (fun z => z = X ∨ blkA s.a = some z) h h4 := hEk.trans (hEh4.mono fun z e => .inr (by rw [hsa, e]; rfl))
          refine S_nilk [0, 7] (by simp only [proj, lk, reduceIte, Nat.reduceEqDiff]; rfl) ?_
          refine hK21 _ _ ?_; clear hK21
          refine V_reg T.mix (by kernel_rfl) ?_
          refine S_mv rfl ?_
          refine S_addN (i + 1) rfl rfl (by omega) (by omega) ?_
          refine S_as rfl ?_
          refine S_nilk [0, 7] (by simp only [proj, lk, reduceIte, Nat.reduceEqDiff]; rfl) ?_
          exact hK18 _ _ ⟨_, by omega, i + 1, h4, by omega, db4, kp2, stm1, hE4, rfl, rfl, rfl⟩
        · skip
          refine V_exitk [] rfl (by simp only [proj, lk, reduceIte, Nat.reduceEqDiff]; rfl) ?_
          -- end
          refine hR _ _ (ret0 rfl ?_)
          exact ⟨rfl, _, dbk, ⟨kpk.q, kpk.ls, kpk.ln, kpk.l5, kpk.oe, kpk.oi, stmk.sk (by omega) hs, kpk.he, kpk.hl, kpk.fi, kpk.hi, kpk.ne, kpk.ni, kpk.ae, kpk.ai⟩, ⟨rfl, rfl, rfl, rfl, rfl, rfl, rfl, rfl, rfl⟩, rfl, hEk⟩
set_option maxHeartbeats 3200000 in
theorem holdi_spec (h : Heap) (X : Nat) (Q : Nat → Prop) (d : DR) (L : List En) (N : Nat) (db : DB h X d) (kp : KP h X Q d L N) (s : SL) (kb : KB 122 3 h Q s) (hs : s.c ≤ 9) (pn : Bool) (hN : N ≤ 9000000000000) :
    FC Tryz.prog 59 (#[.pointer (some ⟨X, 0, none⟩), .slice s.a s.n s.c, .bool pn] : Array Value) h fun rv h' => rv = .tuple #[] ∧ ∃ d', DB h' X d' ∧ KP h' X Q d' L (N + 1) ∧ SM d d' ∧ d'.pl = d.pl ∧ Ext (fun z => z = X ∨ blkA s.a = some z) h h' := by
  try clear v0 v1 v2 v3 v4 v5 v6 v7 ve vi_ v16 v17 v18 v19 v20 v21 v22 v23 v24 v25 v26 vok
  obtain ⟨v0, v1, v2, v3, v4, v5, v6, v7, ve, vi_, v16, v17, v18, v19, v20, v21, v22, v23, v24, v25, v26, vok⟩ := ddq (db)
  have hae := kp.ai
  refine FC_of [(0, .pointer (some ⟨X, 0, none⟩)), (1, .slice s.a s.n s.c), (2, .bool pn)] Tryz.func59 rfl Tryz.ntmps59 (by simp) rfl (fun R hR => ?_)
  refine V_seq (fun K1 hK1 => ?_)
  refine V_sr T.mix (by kernel_rfl) (fun K2 hK2 => ?_)
  refine S_mv rfl ?_
  refine S_capl T.el38 rfl ?_
  refine S_bin rfl rfl rfl ?_
  refine S_nil (hK2 _ _ (V_keep [0, 1, 2, 10] (by simp only [proj, lk, reduceIte, Nat.reduceEqDiff]; rfl) ?_)); clear hK2
  refine V_condp rfl (fun c183 => ?_) (fun c183 => ?_)
  · skip
    refine V_ret ?_
    refine hR _ _ (ret0 rfl ?_)
    exact ⟨rfl, d, db, ⟨kp.q, kp.ls, kp.ln, kp.l5, kp.oe, kp.oi, kp.fe, kp.he, kp.hl, kp.fi, kp.hi, kp.ne, kp.ni, Nat.le_succ_of_le kp.ae, Nat.le_succ_of_le kp.ai⟩, SM.refl d, rfl, Ext.refl _ _⟩
  · skip
    refine V_skipk [0, 1, 2] (by simp only [proj, lk, reduceIte, Nat.reduceEqDiff]; rfl) ?_
    refine hK1 _ _ ?_; clear hK1
    refine V_sr T.mix (by kernel_rfl) (fun K3 hK3 => ?_)
    refine S_mv rfl ?_
    refine S_nc rfl ?_
    first | refine S_fa0 T.f42_15 rfl ?_ | refine S_fa T.f42_15 rfl ?_
    refine S_ldK T.ag3 rfl (fun K' hK' => ?_)
    simp (disch := omega) only [v0, v1, v2, v3, v4, v5, v6, v7, ve, vi_, v16, v17, v18, v19, v20, v21, v22, v23, v24, v25, v26, oP_some, Nat.add_zero]
    refine hK' _ ?_; clear hK' K'
    refine S_addN (d.ai + 1) rfl rfl (by omega) (by omega) ?_
    refine S_nc rfl ?_
    first | refine S_fa0 T.f42_15 rfl ?_ | refine S_fa T.f42_15 rfl ?_
    refine S_st T.sz3 rfl rfl rfl rfl (by simp (disch := omega) only [vok]) ?_
    generalize hh : putH _ _ _ = h1
    have db1 : DB h1 X { d with ai := d.ai + 1 } := by rw [← hh]; exact (db.putA 21 _).cong (arr_ext (dk27 rfl rfl rfl rfl rfl rfl rfl rfl rfl rfl rfl rfl rfl rfl rfl rfl rfl rfl rfl rfl rfl rfl rfl rfl rfl rfl rfl))
    have hEh1 : Ext (fun z => z = X) h h1 := by rw [← hh]; exact Ext.put _ _ rfl
    clear hh
    try clear v0 v1 v2 v3 v4 v5 v6 v7 ve vi_ v16 v17 v18 v19 v20 v21 v22 v23 v24 v25 v26 vok
    obtain ⟨v0, v1, v2, v3, v4, v5, v6, v7, ve, vi_, v16, v17, v18, v19, v20, v21, v22, v23, v24, v25, v26, vok⟩ := ddq (db1)
    have kp1 : KP h1 X Q { d with ai := d.ai + 1 } L (N + 1) := (show KP h X Q { d with ai := d.ai + 1 } L (N + 1) from ⟨kp.q, kp.ls, kp.ln, kp.l5, kp.oe, kp.oi, kp.fe, kp.he, kp.hl, kp.fi, kp.hi, kp.ne, kp.ni, Nat.le_succ_of_le kp.ae, Nat.succ_le_succ kp.ai⟩).desk hEh1
    have kb1 : KB 122 3 h1 Q s := by rcases kb with kb | ⟨b, cs, e1, e2, e3, e4⟩; (exact .inl kb); (exact .inr ⟨b, cs, e1, e2, e3.ext hEh1 (fun e => by have h9 := (kp.q b e2).1; omega), e4⟩)
    refine S_nil (hK3 _ _ (V_keep [0, 1, 2] (by simp only [proj, lk, reduceIte, Nat.reduceEqDiff]; rfl) ?_)); clear hK3
    refine V_seq (fun K4 hK4 => ?_)
    refine V_sr T.mix (by kernel_rfl) (fun K5 hK5 => ?_)
    refine S_mv rfl ?_
    refine S_nil (hK5 _ _ (V_keep [0, 1, 18] (by simp only [proj, lk, reduceIte, Nat.reduceEqDiff]; rfl) ?_)); clear hK5
    refine V_condb rfl (fun c187 => ?_) (fun c187 => ?_)
    · skip
      refine V_sr T.mix (by kernel_rfl) (fun K6 hK6 => ?_)
      refine S_mv rfl ?_
      refine S_mv rfl ?_
      refine S_mv rfl ?_
      refine S_capl T.el38 rfl ?_
      refine S_sl rfl rfl rfl (sliceV_cap T.el38 kb.nz) ?_
      refine S_nc rfl ?_
      first | refine S_fa0 T.f42_18 rfl ?_ | refine S_fa T.f42_18 rfl ?_
      refine S_st T.sz38 rfl rfl rfl rfl (by simp (disch := omega) only [vok]) ?_
      generalize hh : putH _ _ _ = h3
      have db3 : DB h3 X { d with ai := d.ai + 1, hi := ⟨s.a, s.c, s.c⟩ } := by rw [← hh]; exact (db1.putA 24 _).cong (arr_ext (dk27 rfl rfl rfl rfl rfl rfl rfl rfl rfl rfl rfl rfl rfl rfl rfl rfl rfl rfl rfl rfl rfl rfl rfl rfl rfl rfl rfl))
      have hEh3 : Ext (fun z => z = X) h1 h3 := by rw [← hh]; exact Ext.put _ _ rfl
      clear hh
      try clear v0 v1 v2 v3 v4 v5 v6 v7 ve vi_ v16 v17 v18 v19 v20 v21 v22 v23 v24 v25 v26 vok
      obtain ⟨v0, v1, v2, v3, v4, v5, v6, v7, ve, vi_, v16, v17, v18, v19, v20, v21, v22, v23, v24, v25, v26, vok⟩ := ddq (db3)
      have hE13 := hEh1.trans hEh3
      refine S_nil (hK6 _ _ (V_keep [0] (by simp only [proj, lk, reduceIte, Nat.reduceEqDiff]; rfl) ?_)); clear hK6
      refine V_seq (fun K7 hK7 => ?_)
      refine V_sr T.mix (by kernel_rfl) (fun K8 hK8 => ?_)
      refine S_as rfl ?_
      refine S_nil (hK8 _ _ (V_keep [0, 6] (by simp only [proj, lk, reduceIte, Nat.reduceEqDiff]; rfl) ?_)); clear hK8
      refine V_block ?_
      refine V_loop (fun m l h' => ∃ (i : Nat) (hk : Heap), (i ≤ s.c) ∧ (DB hk X { d with ai := d.ai + 1, hi := ⟨s.a, s.c, s.c⟩ }) ∧ (KP hk X Q { d with ai := d.ai + 1 } L (N + 1)) ∧ (Stm 122 STI hk Q s i) ∧ (Ext (fun z => z = X ∨ blkA s.a = some z) h hk) ∧ m = s.c - i ∧ l = [(0, .pointer (some ⟨X, 0, none⟩)), (6, .int .i64 (i : Int))] ∧ hk = h') _ ⟨0, h3, Nat.zero_le _, db3, kp1.desk hEh3, (KB.stm (st := STI) kb).ext hE13 (fun b q e => by have h9 := (kp.q b q).1; omega), hE13.mono fun _ e => .inl e, rfl, rfl, rfl⟩ ?_
      rintro m l h' ⟨i, hk, hi, dbk, kpk, stmk, hEk, rfl, rfl, rfl⟩ K9 hK9
      try clear v0 v1 v2 v3 v4 v5 v6 v7 ve vi_ v16 v17 v18 v19 v20 v21 v22 v23 v24 v25 v26 vok
      obtain ⟨v0, v1, v2, v3, v4, v5, v6, v7, ve, vi_, v16, v17, v18, v19, v20, v21, v22, v23, v24, v25, v26, vok⟩ := ddq (dbk)
      refine V_seq (fun K10 hK10 => ?_)
      refine V_sr T.mix (by kernel_rfl) (fun K11 hK11 => ?_)
      refine S_mv rfl ?_
      refine S_mv rfl ?_
      refine S_nc rfl ?_
      first | refine S_fa0 T.f42_18 rfl ?_ | refine S_fa T.f42_18 rfl ?_
      refine S_ldK T.ag38 rfl (fun K' hK' => ?_)
      simp (disch := omega) only [v0, v1, v2, v3, v4, v5, v6, v7, ve, vi_, v16, v17, v18, v19, v20, v21, v22, v23, v24, v25, v26, oP_some, Nat.add_zero]
      refine hK' _ ?_; clear hK' K'
      refine S_lenl T.el38 rfl ?_
      refine S_bin rfl rfl rfl ?_
      refine S_nil (hK11 _ _ (V_keep [0, 6, 32] (by simp only [proj, lk, reduceIte, Nat.reduceEqDiff]; rfl) ?_)); clear hK11
      refine V_condp rfl (fun c189 => ?_) (fun c189 => ?_)
      · skip
        have hic : i < s.c := by omega
        refine V_skipk [0, 6] (by simp only [proj, lk, reduceIte, Nat.reduceEqDiff]; rfl) ?_
        refine hK10 _ _ ?_; clear hK10
        refine V_seq (fun K12 hK12 => ?_)
        refine V_block ?_
        refine V_reg T.mix (by kernel_rfl) ?_
        refine S_mv rfl ?_
        refine S_nc rfl ?_
        first | refine S_fa0 T.f42_18 rfl ?_ | refine S_fa T.f42_18 rfl ?_
        refine S_ldK T.ag38 rfl (fun K' hK' => ?_)
        simp (disch := omega) only [v0, v1, v2, v3, v4, v5, v6, v7, ve, vi_, v16, v17, v18, v19, v20, v21, v22, v23, v24, v25, v26, oP_some, Nat.add_zero]
        refine hK' _ ?_; clear hK' K'
        refine S_mv rfl ?_
        refine S_bld rfl (T.bld122_0_1_2 _ _ _) ?_
        obtain ⟨b, cs, hsa, qb, hbb, hcz, hcj⟩ := stmk.get hic
        have wok : ∀ j, j < cs.size → okPut hk ⟨b, j, none⟩ = true := fun j hj => hbb.ok hj
        have hczn : cs.size = s.c * 3 := hcz
        refine S_ix (b := b) (o := 0) (len := s.c) (cap := s.c) T.el38 (by rw [← hsa]; rfl) rfl (by omega) (by omega) ?_
        rw [Nat.zero_add, Int.toNat_natCast]
        refine S_stl T.sz122 rfl rfl rfl rfl (fun j hj => by simp (disch := omega) only [wok]) ?_
        generalize hh : putsH _ _ _ _ = h4
        obtain ⟨hle, stm1⟩ := stm_step (st := STI) (by decide) hsa qb hbb hcz hcj hic
        have kp2 := kpk.stI qb hbb hle
        have hEh4 : Ext (fun z => z = b) hk h4 := by rw [← hh]; exact Ext.puts (S := fun z => z = b) rfl _ _ _
        change Stm _ _ (putsH hk b (i * 3) STI) _ _ _ at stm1
        rw [show putsH hk b (i * 3) STI = h4 from hh] at stm1 kp2
        clear hh
        have hXb := (kpk.q b qb).1
        have db4 := dbk.ext hEh4 (fun e => by omega)
        have hE4 : Ext (fun z => z = X ∨ blkA s.a = some z) h h4 := hEk.trans (hEh4.mono fun z e => .inr (by rw [hsa, e]; rfl))
        refine S_nilk [0, 6] (by simp only [proj, lk, reduceIte, Nat.reduceEqDiff]; rfl) ?_
        refine hK12 _ _ ?_; clear hK12
        refine V_reg T.mix (by kernel_rfl) ?_
        refine S_mv rfl ?_
        refine S_addN (i + 1) rfl rfl (by omega) (by omega) ?_
        refine S_as rfl ?_
        refine S_nilk [0, 6] (by simp only [proj, lk, reduceIte, Nat.reduceEqDiff]; rfl) ?_
        exact hK9 _ _ ⟨_, by omega, i + 1, h4, by omega, db4, kp2, stm1, hE4, rfl, rfl, rfl⟩
      · skip
        refine V_exitk [] rfl (by simp only [proj, lk, reduceIte, Nat.reduceEqDiff]; rfl) ?_
        refine hK7 _ _ ?_; clear hK7
        refine V_ret ?_
        refine hR _ _ (ret0 rfl ?_)
        exact ⟨rfl, _, dbk, ⟨kpk.q, kpk.ls, kpk.ln, kpk.l5, kpk.oe, kpk.oi, kpk.fe, kpk.he, kpk.hl, kpk.fi, stmk.sk (by omega) hs, kpk.ne, kpk.ni, kpk.ae, kpk.ai⟩, ⟨rfl, rfl, rfl, rfl, rfl, rfl, rfl, rfl, rfl⟩, rfl, hEk⟩
    · skip
      refine V_skipk [0, 1] (by simp only [proj, lk, reduceIte, Nat.reduceEqDiff]; rfl) ?_
      refine hK4 _ _ ?_; clear hK4
      refine V_seq (fun K13 hK13 => ?_)
      refine V_sr T.mix (by kernel_rfl) (fun K14 hK14 => ?_)
      refine S_mv rfl ?_
      refine S_nc rfl ?_
      first | refine S_fa0 T.f42_15 rfl ?_ | refine S_fa T.f42_15 rfl ?_
      refine S_ldK T.ag3 rfl (fun K' hK' => ?_)
      simp (disch := omega) only [v0, v1, v2, v3, v4, v5, v6, v7, ve, vi_, v16, v17, v18, v19, v20, v21, v22, v23, v24, v25, v26, oP_some, Nat.add_zero]
      refine hK' _ ?_; clear hK' K'
      refine S_mv rfl ?_
      refine S_nc rfl ?_
      first | refine S_fa0 T.f42_15 rfl ?_ | refine S_fa T.f42_15 rfl ?_
      refine S_ldK T.ag3 rfl (fun K' hK' => ?_)
      simp (disch := omega) only [v0, v1, v2, v3, v4, v5, v6, v7, ve, vi_, v16, v17, v18, v19, v20, v21, v22, v23, v24, v25, v26, oP_some, Nat.add_zero]
      refine hK' _ ?_; clear hK' K'
      refine S_subN d.ai rfl rfl (by omega) (by omega) ?_
      refine S_nand (d.ai + 1) d.ai ((d.ai + 1) &&& d.ai) rfl rfl rfl rfl rfl (BitW.top_i64 (by omega)) (BitW.top_i64 (by omega)) ?_
      obtain ⟨pw, epw⟩ : ∃ x, x = (d.ai + 1) &&& d.ai := ⟨_, rfl⟩
      rw [← epw]
      refine S_bin rfl rfl rfl ?_
      refine S_nil (hK14 _ _ (V_keep [0, 1, 52] (by simp only [proj, lk, reduceIte, Nat.reduceEqDiff]; rfl) ?_)); clear hK14
      refine V_condp rfl (fun c194 => ?_) (fun c194 => ?_)
      · skip
        refine V_sr T.mix (by kernel_rfl) (fun K15 hK15 => ?_)
        refine S_mv rfl ?_
        refine S_mv rfl ?_
        refine S_call T.hb76 rfl ?_
        refine FC.mono (keepi_spec h1 X Q _ L (N + 1) db1 kp1 s (kb1) hs) ?_
        rintro v' h2 ⟨rfl, d2, db2, kp2, sm2, pl2, hE2⟩
        refine S_nil (hK15 _ _ (V_keep [] (by simp only [proj, lk, reduceIte, Nat.reduceEqDiff]; rfl) ?_)); clear hK15
        refine V_ret ?_
        refine hR _ _ (ret0 rfl ?_)
        exact ⟨rfl, d2, db2, kp2, ⟨sm2.nm, sm2.dt, sm2.rw, sm2.ls, sm2.ex, sm2.em, sm2.ix, sm2.im, sm2.pn⟩, pl2, (hEh1.mono fun _ e => .inl e).trans hE2⟩
      · skip
        refine V_skipk [0, 1] (by simp only [proj, lk, reduceIte, Nat.reduceEqDiff]; rfl) ?_
        refine hK13 _ _ ?_; clear hK13
        refine V_sr T.mix (by kernel_rfl) (fun K16 hK16 => ?_)
        refine S_mv rfl ?_
        refine S_mv rfl ?_
        refine S_mv rfl ?_
        refine S_capl T.el38 rfl ?_
        refine S_sl rfl rfl rfl (sliceV_cap T.el38 kb.nz) ?_
        refine S_nc rfl ?_
        first | refine S_fa0 T.f42_13 rfl ?_ | refine S_fa T.f42_13 rfl ?_
        refine S_st T.sz38 rfl rfl rfl rfl (by simp (disch := omega) only [vok]) ?_
        generalize hh : putH _ _ _ = h3
        have db3 : DB h3 X { d with ai := d.ai + 1, fi := ⟨s.a, s.c, s.c⟩ } := by rw [← hh]; exact (db1.putA 19 _).cong (arr_ext (dk27 rfl rfl rfl rfl rfl rfl rfl rfl rfl rfl rfl rfl rfl rfl rfl rfl rfl rfl rfl rfl rfl rfl rfl rfl rfl rfl rfl))
        have hEh3 : Ext (fun z => z = X) h1 h3 := by rw [← hh]; exact Ext.put _ _ rfl
        clear hh
        try clear v0 v1 v2 v3 v4 v5 v6 v7 ve vi_ v16 v17 v18 v19 v20 v21 v22 v23 v24 v25 v26 vok
        obtain ⟨v0, v1, v2, v3, v4, v5, v6, v7, ve, vi_, v16, v17, v18, v19, v20, v21, v22, v23, v24, v25, v26, vok⟩ := ddq (db3)
        have hE13 := hEh1.trans hEh3
        refine S_nil (hK16 _ _ (V_keep [0] (by simp only [proj, lk, reduceIte, Nat.reduceEqDiff]; rfl) ?_)); clear hK16
        refine V_sr T.mix (by kernel_rfl) (fun K17 hK17 => ?_)
        refine S_as rfl ?_
        refine S_nil (hK17 _ _ (V_keep [0, 7] (by simp only [proj, lk, reduceIte, Nat.reduceEqDiff]; rfl) ?_)); clear hK17
        refine V_block ?_
        refine V_loop (fun m l h' => ∃ (i : Nat) (hk : Heap), (i ≤ s.c) ∧ (DB hk X { d with ai := d.ai + 1, fi := ⟨s.a, s.c, s.c⟩ }) ∧ (KP hk X Q { d with ai := d.ai + 1 } L (N + 1)) ∧ (Stm 122 STI hk Q s i) ∧ (Ext (fun z => z = X ∨ blkA s.a = some z) h hk) ∧ m = s.c - i ∧ l = [(0, .pointer (some ⟨X, 0, none⟩)), (7, .int .i64 (i : Int))] ∧ hk = h') _ ⟨0, h3, Nat.zero_le _, db3, kp1.desk hEh3, (KB.stm (st := STI) kb).ext hE13 (fun b q e => by have h9 := (kp.q b q).1; omega), hE13.mono fun _ e => .inl e, rfl, rfl, rfl⟩ ?_
        rintro m l h' ⟨i, hk, hi, dbk, kpk, stmk, hEk, rfl, rfl, rfl⟩ K18 hK18
        try clear v0 v1 v2 v3 v4 v5 v6 v7 ve vi_ v16 v17 v18 v19 v20 v21 v22 v23 v24 v25 v26 vok
        obtain ⟨v0, v1, v2, v3, v4, v5, v6, v7, ve, vi_, v16, v17, v18, v19, v20, v21, v22, v23, v24, v25, v26, vok⟩ := ddq (dbk)
        refine V_seq (fun K19 hK19 => ?_)
        refine V_sr T.mix (by kernel_rfl) (fun K20 hK20 => ?_)
        refine S_mv rfl ?_
        refine S_mv rfl ?_
        refine S_nc rfl ?_
        first | refine S_fa0 T.f42_13 rfl ?_ | refine S_fa T.f42_13 rfl ?_
        refine S_ldK T.ag38 rfl (fun K' hK' => ?_)
        simp (disch := omega) only [v0, v1, v2, v3, v4, v5, v6, v7, ve, vi_, v16, v17, v18, v19, v20, v21, v22, v23, v24, v25, v26, oP_some, Nat.add_zero]
        refine hK' _ ?_; clear hK' K'
        refine S_lenl T.el38 rfl ?_
        refine S_bin rfl rfl rfl ?_
        refine S_nil (hK20 _ _ (V_keep [0, 7, 69] (by simp only [proj, lk, reduceIte, Nat.reduceEqDiff]; rfl) ?_)); clear hK20
        refine V_condp rfl (fun c199 => ?_) (fun c199 => ?_)
        · skip
          have hic : i < s.c := by omega
          refine V_skipk [0, 7] (by simp only [proj, lk, reduceIte, Nat.reduceEqDiff]; rfl) ?_
          refine hK19 _ _ ?_; clear hK19
          refine V_seq (fun K21 hK21 => ?_)
          refine V_block ?_
          refine V_reg T.mix (by kernel_rfl) ?_
          refine S_mv rfl ?_
          refine S_nc rfl ?_
          first | refine S_fa0 T.f42_13 rfl ?_ | refine S_fa T.f42_13 rfl ?_
          refine S_ldK T.ag38 rfl (fun K' hK' => ?_)
          simp (disch := omega) only [v0, v1, v2, v3, v4, v5, v6, v7, ve, vi_, v16, v17, v18, v19, v20, v21, v22, v23, v24, v25, v26, oP_some, Nat.add_zero]
          refine hK' _ ?_; clear hK' K'
          refine S_mv rfl ?_
          refine S_bld rfl (T.bld122_0_1_2 _ _ _) ?_
          obtain ⟨b, cs, hsa, qb, hbb, hcz, hcj⟩ := stmk.get hic
          have wok : ∀ j, j < cs.size → okPut hk ⟨b, j, none⟩ = true := fun j hj => hbb.ok hj
          have hczn : cs.size = s.c * 3 := hcz
          refine S_ix (b := b) (o := 0) (len := s.c) (cap := s.c) T.el38 (by rw [← hsa]; rfl) rfl (by omega) (by omega) ?_
          rw [Nat.zero_add, Int.toNat_natCast]
          refine S_stl T.sz122 rfl rfl rfl rfl (fun j hj => by simp (disch := omega) only [wok]) ?_
          generalize hh : putsH _ _ _ _ = h4
          obtain ⟨hle, stm1⟩ := stm_step (st := STI) (by decide) hsa qb hbb hcz hcj hic
          have kp2 := kpk.stI qb hbb hle
          have hEh4 : Ext (fun z => z = b) hk h4 := by rw [← hh]; exact Ext.puts (S := fun z => z = b) rfl _ _ _
          change Stm _ _ (putsH hk b (i * 3) STI) _ _ _ at stm1
          rw [show putsH hk b (i * 3) STI = h4 from hh] at stm1 kp2
          clear hh
          have hXb := (kpk.q b qb).1
          have db4 := dbk.ext hEh4 (fun e => by omega)
          have hE4 : Ext (fun z => z = X ∨ blkA s.a = some z) h h4 := hEk.trans (hEh4.mono fun z e => .inr (by rw [hsa, e]; rfl))
          refine S_nilk [0, 7] (by simp only [proj, lk, reduceIte, Nat.reduceEqDiff]; rfl) ?_
          refine hK21 _ _ ?_; clear hK21
          refine V_reg T.mix (by kernel_rfl) ?_
          refine S_mv rfl ?_
          refine S_addN (i + 1) rfl rfl (by omega) (by omega) ?_
          refine S_as rfl ?_
          refine S_nilk [0, 7] (by simp only [proj, lk, reduceIte, Nat.reduceEqDiff]; rfl) ?_
          exact hK18 _ _ ⟨_, by omega, i + 1, h4, by omega, db4, kp2, stm1, hE4, rfl, rfl, rfl⟩
        · skip
          refine V_exitk [] rfl (by simp only [proj, lk, reduceIte, Nat.reduceEqDiff]; rfl) ?_
          -- end
          refine hR _ _ (ret0 rfl ?_)
          exact ⟨rfl, _, dbk, ⟨kpk.q, kpk.ls, kpk.ln, kpk.l5, kpk.oe, kpk.oi, kpk.fe, kpk.he, kpk.hl, stmk.sk (by omega) hs, kpk.hi, kpk.ne, kpk.ni, kpk.ae, kpk.ai⟩, ⟨rfl, rfl, rfl, rfl, rfl, rfl, rfl, rfl, rfl⟩, rfl, hEk⟩
set_option maxHeartbeats 1600000 in
theorem tooke_spec (h : Heap) (X : Nat) (Q : Nat → Prop) (d : DR) (L : List En) (N : Nat) (db : DB h X d) (kp : KP h X Q d L N) (s : SL) (kb : KB 104 2 h Q s) (hs : s.c ≤ 9) :
    FC Tryz.prog 35 (#[.pointer (some ⟨X, 0, none⟩), .slice s.a s.n s.c] : Array Value) h fun rv h' => rv = .tuple #[] ∧ ∃ d', DB h' X d' ∧ KP h' X Q d' L N ∧ SM d d' ∧ True ∧ Ext (fun z => z = X ∨ blkA s.a = some z) h h' := by
  try clear v0 v1 v2 v3 v4 v5 v6 v7 ve vi_ v16 v17 v18 v19 v20 v21 v22 v23 v24 v25 v26 vok
  obtain ⟨v0, v1, v2, v3, v4, v5, v6, v7, ve, vi_, v16, v17, v18, v19, v20, v21, v22, v23, v24, v25, v26, vok⟩ := ddq (db)
  refine FC_of [(0, .pointer (some ⟨X, 0, none⟩)), (1, .slice s.a s.n s.c)] Tryz.func35 rfl Tryz.ntmps35 (by simp) rfl (fun R hR => ?_)
  refine V_sr T.mix (by kernel_rfl) (fun K1 hK1 => ?_)
  refine S_mv rfl ?_
  refine S_nc rfl ?_
  first | refine S_fa0 T.f42_19 rfl ?_ | refine S_fa T.f42_19 rfl ?_
  refine S_ldK T.ag4 rfl (fun K' hK' => ?_)
  simp (disch := omega) only [v0, v1, v2, v3, v4, v5, v6, v7, ve, vi_, v16, v17, v18, v19, v20, v21, v22, v23, v24, v25, v26, oP_some, Nat.add_zero]
  refine hK' _ ?_; clear hK' K'
  refine S_as rfl ?_
  refine S_nil (hK1 _ _ (V_keep [0, 1, 4] (by simp only [proj, lk, reduceIte, Nat.reduceEqDiff]; rfl) ?_)); clear hK1
  refine V_sr T.mix (by kernel_rfl) (fun K2 hK2 => ?_)
  refine S_mv rfl ?_
  refine S_nc rfl ?_
  first | refine S_fa0 T.f42_19 rfl ?_ | refine S_fa T.f42_19 rfl ?_
  refine S_st T.sz4 rfl rfl rfl rfl (by simp (disch := omega) only [vok]) ?_
  generalize hh : putH _ _ _ = h1
  have db1 : DB h1 X { d with pl := false } := by rw [← hh]; exact (db.putA 25 _).cong (arr_ext (dk27 rfl rfl rfl rfl rfl rfl rfl rfl rfl rfl rfl rfl rfl rfl rfl rfl rfl rfl rfl rfl rfl rfl rfl rfl rfl rfl rfl))
  have hEh1 : Ext (fun z => z = X) h h1 := by rw [← hh]; exact Ext.put _ _ rfl
  clear hh
  try clear v0 v1 v2 v3 v4 v5 v6 v7 ve vi_ v16 v17 v18 v19 v20 v21 v22 v23 v24 v25 v26 vok
  obtain ⟨v0, v1, v2, v3, v4, v5, v6, v7, ve, vi_, v16, v17, v18, v19, v20, v21, v22, v23, v24, v25, v26, vok⟩ := ddq (db1)
  have kp1 : KP h1 X Q { d with pl := false } L N := (show KP h X Q { d with pl := false } L N from ⟨kp.q, kp.ls, kp.ln, kp.l5, kp.oe, kp.oi, kp.fe, kp.he, kp.hl, kp.fi, kp.hi, kp.ne, kp.ni, kp.ae, kp.ai⟩).desk hEh1
  have kb1 : KB 104 2 h1 Q s := by rcases kb with kb | ⟨b, cs, e1, e2, e3, e4⟩; (exact .inl kb); (exact .inr ⟨b, cs, e1, e2, e3.ext hEh1 (fun e => by have h9 := (kp.q b e2).1; omega), e4⟩)
  refine S_nil (hK2 _ _ (V_keep [0, 1, 4] (by simp only [proj, lk, reduceIte, Nat.reduceEqDiff]; rfl) ?_)); clear hK2
  refine V_seq (fun K3 hK3 => ?_)
  refine V_sr T.mix (by kernel_rfl) (fun K4 hK4 => ?_)
  refine S_mv rfl ?_
  refine S_notb rfl ?_
  refine S_nil (hK4 _ _ (V_keep [0, 1, 14] (by simp only [proj, lk, reduceIte, Nat.reduceEqDiff]; rfl) ?_)); clear hK4
  refine V_condb rfl (fun c172 => ?_) (fun c172 => ?_)
  · skip
    refine V_sr T.mix (by kernel_rfl) (fun K5 hK5 => ?_)
    refine S_mv rfl ?_
    refine S_mv rfl ?_
    refine S_call T.hb60 rfl ?_
    refine FC.mono (keepe_spec h1 X Q _ L N db1 kp1 s kb1 hs) ?_
    rintro v' h2 ⟨rfl, d2, db2, kp2, sm2, pl2, hE2⟩
    refine S_nil (hK5 _ _ (V_keep [] (by simp only [proj, lk, reduceIte, Nat.reduceEqDiff]; rfl) ?_)); clear hK5
    refine V_ret ?_
    refine hR _ _ (ret0 rfl ?_)
    exact ⟨rfl, d2, db2, kp2, ⟨sm2.nm, sm2.dt, sm2.rw, sm2.ls, sm2.ex, sm2.em, sm2.ix, sm2.im, sm2.pn⟩, trivial, (hEh1.mono fun _ e => .inl e).trans hE2⟩
  · skip
    refine V_skipk [0, 1] (by simp only [proj, lk, reduceIte, Nat.reduceEqDiff]; rfl) ?_
    refine hK3 _ _ ?_; clear hK3
    refine V_sr T.mix (by kernel_rfl) (fun K6 hK6 => ?_)
    refine S_mv rfl ?_
    refine S_mv rfl ?_
    refine S_mv rfl ?_
    refine S_capl T.el37 rfl ?_
    refine S_sl rfl rfl rfl (sliceV_cap T.el37 kb.nz) ?_
    refine S_nc rfl ?_
    first | refine S_fa0 T.f42_20 rfl ?_ | refine S_fa T.f42_20 rfl ?_
    refine S_st T.sz37 rfl rfl rfl rfl (by simp (disch := omega) only [vok]) ?_
    generalize hh : putH _ _ _ = h3
    have db3 : DB h3 X { d with pl := false, hl := ⟨s.a, s.c, s.c⟩ } := by rw [← hh]; exact (db1.putA 26 _).cong (arr_ext (dk27 rfl rfl rfl rfl rfl rfl rfl rfl rfl rfl rfl rfl rfl rfl rfl rfl rfl rfl rfl rfl rfl rfl rfl rfl rfl rfl rfl))
    have hEh3 : Ext (fun z => z = X) h1 h3 := by rw [← hh]; exact Ext.put _ _ rfl
    clear hh
    try clear v0 v1 v2 v3 v4 v5 v6 v7 ve vi_ v16 v17 v18 v19 v20 v21 v22 v23 v24 v25 v26 vok
    obtain ⟨v0, v1, v2, v3, v4, v5, v6, v7, ve, vi_, v16, v17, v18, v19, v20, v21, v22, v23, v24, v25, v26, vok⟩ := ddq (db3)
    have hE13 := hEh1.trans hEh3
    refine S_nil (hK6 _ _ (V_keep [0] (by simp only [proj, lk, reduceIte, Nat.reduceEqDiff]; rfl) ?_)); clear hK6
    refine V_sr T.mix (by kernel_rfl) (fun K7 hK7 => ?_)
    refine S_as rfl ?_
    refine S_nil (hK7 _ _ (V_keep [0, 5] (by simp only [proj, lk, reduceIte, Nat.reduceEqDiff]; rfl) ?_)); clear hK7
    refine V_block ?_
    refine V_loop (fun m l h' => ∃ (i : Nat) (hk : Heap), (i ≤ s.c) ∧ (DB hk X { d with pl := false, hl := ⟨s.a, s.c, s.c⟩ }) ∧ (KP hk X Q { d with pl := false } L N) ∧ (Stm 104 STE hk Q s i) ∧ (Ext (fun z => z = X ∨ blkA s.a = some z) h hk) ∧ m = s.c - i ∧ l = [(0, .pointer (some ⟨X, 0, none⟩)), (5, .int .i64 (i : Int))] ∧ hk = h') _ ⟨0, h3, Nat.zero_le _, db3, kp1.desk hEh3, (KB.stm (st := STE) kb).ext hE13 (fun b q e => by have h9 := (kp.q b q).1; omega), hE13.mono fun _ e => .inl e, rfl, rfl, rfl⟩ ?_
    rintro m l h' ⟨i, hk, hi, dbk, kpk, stmk, hEk, rfl, rfl, rfl⟩ K8 hK8
    try clear v0 v1 v2 v3 v4 v5 v6 v7 ve vi_ v16 v17 v18 v19 v20 v21 v22 v23 v24 v25 v26 vok
    obtain ⟨v0, v1, v2, v3, v4, v5, v6, v7, ve, vi_, v16, v17, v18, v19, v20, v21, v22, v23, v24, v25, v26, vok⟩ := ddq (dbk)
    refine V_seq (fun K9 hK9 => ?_)
    refine V_sr T.mix (by kernel_rfl) (fun K10 hK10 => ?_)
    refine S_mv rfl ?_
    refine S_mv rfl ?_
    refine S_nc rfl ?_
    first | refine S_fa0 T.f42_20 rfl ?_ | refine S_fa T.f42_20 rfl ?_
    refine S_ldK T.ag37 rfl (fun K' hK' => ?_)
    simp (disch := omega) only [v0, v1, v2, v3, v4, v5, v6, v7, ve, vi_, v16, v17, v18, v19, v20, v21, v22, v23, v24, v25, v26, oP_some, Nat.add_zero]
    refine hK' _ ?_; clear hK' K'
    refine S_lenl T.el37 rfl ?_
    refine S_bin rfl rfl rfl ?_
    refine S_nil (hK10 _ _ (V_keep [0, 5, 31] (by simp only [proj, lk, reduceIte, Nat.reduceEqDiff]; rfl) ?_)); clear hK10
    refine V_condp rfl (fun c177 => ?_) (fun c177 => ?_)
    · skip
      have hic : i < s.c := by omega
      refine V_skipk [0, 5] (by simp only [proj, lk, reduceIte, Nat.reduceEqDiff]; rfl) ?_
      refine hK9 _ _ ?_; clear hK9
      refine V_seq (fun K11 hK11 => ?_)
      refine V_block ?_
      refine V_reg T.mix (by kernel_rfl) ?_
      refine S_mv rfl ?_
      refine S_nc rfl ?_
      first | refine S_fa0 T.f42_20 rfl ?_ | refine S_fa T.f42_20 rfl ?_
      refine S_ldK T.ag37 rfl (fun K' hK' => ?_)
      simp (disch := omega) only [v0, v1, v2, v3, v4, v5, v6, v7, ve, vi_, v16, v17, v18, v19, v20, v21, v22, v23, v24, v25, v26, oP_some, Nat.add_zero]
      refine hK' _ ?_; clear hK' K'
      refine S_mv rfl ?_
      refine S_bld rfl (T.bld104_0_1 _ _) ?_
      obtain ⟨b, cs, hsa, qb, hbb, hcz, hcj⟩ := stmk.get hic
      have wok : ∀ j, j < cs.size → okPut hk ⟨b, j, none⟩ = true := fun j hj => hbb.ok hj
      have hczn : cs.size = s.c * 2 := hcz
      refine S_ix (b := b) (o := 0) (len := s.c) (cap := s.c) T.el37 (by rw [← hsa]; rfl) rfl (by omega) (by omega) ?_
      rw [Nat.zero_add, Int.toNat_natCast]
      refine S_stl T.sz104 rfl rfl rfl rfl (fun j hj => by simp (disch := omega) only [wok]) ?_
      generalize hh : putsH _ _ _ _ = h4
      obtain ⟨hle, stm1⟩ := stm_step (st := STE) (by decide) hsa qb hbb hcz hcj hic
      have kp2 := kpk.stE qb hbb hle
      have hEh4 : Ext (fun z => z = b) hk h4 := by rw [← hh]; exact Ext.puts (S := fun z => z = b) rfl _ _ _
      change Stm _ _ (putsH hk b (i * 2) STE) _ _ _ at stm1
      rw [show putsH hk b (i * 2) STE = h4 from hh] at stm1 kp2
      clear hh
      have hXb := (kpk.q b qb).1
      have db4 := dbk.ext hEh4 (fun e => by omega)
      have hE4 : Ext (fun z => z = X ∨ blkA s.a = some z) h h4 := hEk.trans (hEh4.mono fun z e => .inr (by rw [hsa, e]; rfl))
      refine S_nilk [0, 5] (by simp only [proj, lk, reduceIte, Nat.reduceEqDiff]; rfl) ?_
      refine hK11 _ _ ?_; clear hK11
      refine V_reg T.mix (by kernel_rfl) ?_
      refine S_mv rfl ?_
      refine S_addN (i + 1) rfl rfl (by omega) (by omega) ?_
      refine S_as rfl ?_
      refine S_nilk [0, 5] (by simp only [proj, lk, reduceIte, Nat.reduceEqDiff]; rfl) ?_
      exact hK8 _ _ ⟨_, by omega, i + 1, h4, by omega, db4, kp2, stm1, hE4, rfl, rfl, rfl⟩
    · skip
      refine V_exitk [] rfl (by simp only [proj, lk, reduceIte, Nat.reduceEqDiff]; rfl) ?_
      -- end
      refine hR _ _ (ret0 rfl ?_)
      exact ⟨rfl, _, dbk, ⟨kpk.q, kpk.ls, kpk.ln, kpk.l5, kpk.oe, kpk.oi, kpk.fe, kpk.he, stmk.sk (by omega) hs, kpk.fi, kpk.hi, kpk.ne, kpk.ni, kpk.ae, kpk.ai⟩, ⟨rfl, rfl, rfl, rfl, rfl, rfl, rfl, rfl, rfl⟩, trivial, hEk⟩
set_option maxHeartbeats 6400000 in
theorem untouched_spec (h : Heap) (X : Nat) (Q : Nat → Prop) (d : DR) (L : List En) (N : Nat) (db : DB h X d) (kp : KP h X Q d L N) :
    FC Tryz.prog 57 (#[.pointer (some ⟨X, 0, none⟩)] : Array Value) h fun rv h' => rv = .bool true ∧ h = h' := by
  try clear v0 v1 v2 v3 v4 v5 v6 v7 ve vi_ v16 v17 v18 v19 v20 v21 v22 v23 v24 v25 v26 vok
  obtain ⟨v0, v1, v2, v3, v4, v5, v6, v7, ve, vi_, v16, v17, v18, v19, v20, v21, v22, v23, v24, v25, v26, vok⟩ := ddq (db)
  refine FC_of [(0, .pointer (some ⟨X, 0, none⟩))] Tryz.func57 rfl Tryz.ntmps57 (by simp) rfl (fun R hR => ?_)
  refine V_sr T.mix (by kernel_rfl) (fun K1 hK1 => ?_)
  refine S_as rfl ?_
  refine S_nil (hK1 _ _ (V_keep [0] (by simp only [proj, lk, reduceIte, Nat.reduceEqDiff]; rfl) ?_)); clear hK1
  refine V_seq (fun K2 hK2 => ?_)
  refine V_sr T.mix (by kernel_rfl) (fun K3 hK3 => ?_)
  refine S_as rfl ?_
  refine S_nil (hK3 _ _ (V_keep [0, 3] (by simp only [proj, lk, reduceIte, Nat.reduceEqDiff]; rfl) ?_)); clear hK3
  refine V_block ?_
  refine V_loop (fun m l h' => ∃ (i : Nat), (i ≤ 4) ∧ m = 4 - i ∧ l = [(0, .pointer (some ⟨X, 0, none⟩)), (3, .int .i64 (i : Int))] ∧ h = h') _ ⟨0, Nat.zero_le _, rfl, rfl, rfl⟩ ?_
  rintro m l h' ⟨i, hi, rfl, rfl, rfl⟩ K4 hK4
  refine V_seq (fun K5 hK5 => ?_)
  refine V_sr T.mix (by kernel_rfl) (fun K6 hK6 => ?_)
  refine S_mv rfl ?_
  refine S_bin rfl rfl rfl ?_
  refine S_nil (hK6 _ _ (V_keep [0, 3, 12] (by simp only [proj, lk, reduceIte, Nat.reduceEqDiff]; rfl) ?_)); clear hK6
  refine V_condp rfl (fun c105 => ?_) (fun c105 => ?_)
  · skip
    refine V_skipk [0, 3] (by simp only [proj, lk, reduceIte, Nat.reduceEqDiff]; rfl) ?_
    refine hK5 _ _ ?_; clear hK5
    refine V_seq (fun K7 hK7 => ?_)
    refine V_block ?_
    refine V_seq (fun K8 hK8 => ?_)
    refine V_sr T.mix (by kernel_rfl) (fun K9 hK9 => ?_)
    refine S_as rfl ?_
    refine S_nil (hK9 _ _ (V_keep [0, 3, 4] (by simp only [proj, lk, reduceIte, Nat.reduceEqDiff]; rfl) ?_)); clear hK9
    refine V_block ?_
    refine V_loop (fun m l h' => ∃ (j : Nat), (j ≤ (d.oe i).n) ∧ m = (d.oe i).n - j ∧ l = [(0, .pointer (some ⟨X, 0, none⟩)), (3, .int .i64 (i : Int)), (4, .int .i64 (j : Int))] ∧ h = h') _ ⟨0, Nat.zero_le _, rfl, rfl, rfl⟩ ?_
    rintro m l h' ⟨j, hj, rfl, rfl, rfl⟩ K10 hK10
    have hn9 := (kp.oe i (by omega)).1
    refine V_seq (fun K11 hK11 => ?_)
    refine V_sr T.mix (by kernel_rfl) (fun K12 hK12 => ?_)
    refine S_mv rfl ?_
    refine S_mv rfl ?_
    refine S_mv rfl ?_
    refine S_nc rfl ?_
    first | refine S_fa0 T.f42_8 rfl ?_ | refine S_fa T.f42_8 rfl ?_
    refine S_ixan T.ar39 rfl rfl (by omega) ?_
    refine S_ldK T.ag37 rfl (fun K' hK' => ?_)
    simp (disch := omega) only [v0, v1, v2, v3, v4, v5, v6, v7, ve, vi_, v16, v17, v18, v19, v20, v21, v22, v23, v24, v25, v26, oP_some, Nat.add_zero]
    refine hK' _ ?_; clear hK' K'
    refine S_lenl T.el37 rfl ?_
    refine S_bin rfl rfl rfl ?_
    refine S_nil (hK12 _ _ (V_keep [0, 3, 4, 23] (by simp only [proj, lk, reduceIte, Nat.reduceEqDiff]; rfl) ?_)); clear hK12
    refine V_condp rfl (fun c106 => ?_) (fun c106 => ?_)
    · skip
      obtain ⟨b, hsa, hbl, hcj⟩ := SK.get (kp.oe i (by omega)) (i := j) (by omega)
      have p0 : cellH h ⟨b, j * 2 + 0, none⟩ = some (.string stp) := by have h9 := hcj (j * 2 + 0) (by simp only [STE, List.length_cons, List.length_nil]; omega); rw [show (j * 2 + 0) % STE.length = 0 by simp only [STE, List.length_cons, List.length_nil]; omega] at h9; exact h9
      have p1 : cellH h ⟨b, j * 2 + 1, none⟩ = some (.string stp) := by have h9 := hcj (j * 2 + 1) (by simp only [STE, List.length_cons, List.length_nil]; omega); rw [show (j * 2 + 1) % STE.length = 1 by simp only [STE, List.length_cons, List.length_nil]; omega] at h9; exact h9
      rw [Nat.add_zero] at p0
      refine V_skipk [0, 3, 4] (by simp only [proj, lk, reduceIte, Nat.reduceEqDiff]; rfl) ?_
      refine hK11 _ _ ?_; clear hK11
      refine V_seq (fun K13 hK13 => ?_)
      refine V_block ?_
      refine V_sr T.mix (by kernel_rfl) (fun K14 hK14 => ?_)
      refine S_mv rfl ?_
      refine S_mv rfl ?_
      refine S_nc rfl ?_
      first | refine S_fa0 T.f42_8 rfl ?_ | refine S_fa T.f42_8 rfl ?_
      refine S_ixan T.ar39 rfl rfl (by omega) ?_
      refine S_ldK T.ag37 rfl (fun K' hK' => ?_)
      simp (disch := omega) only [v0, v1, v2, v3, v4, v5, v6, v7, ve, vi_, v16, v17, v18, v19, v20, v21, v22, v23, v24, v25, v26, p0, p1, oP_some, Nat.add_zero]
      refine hK' _ ?_; clear hK' K'
      refine S_mv rfl ?_
      refine S_ix (b := b) (o := 0) (len := (d.oe i).n) (cap := (d.oe i).c) T.el37 (by rw [← hsa]; rfl) rfl (by omega) (by omega) ?_
      rw [Nat.zero_add, Int.toNat_natCast]
      first | refine S_fa0 T.f104_0 rfl ?_ | refine S_fa T.f104_0 rfl ?_
      refine S_ldK T.ag9 rfl (fun K' hK' => ?_)
      simp (disch := omega) only [v0, v1, v2, v3, v4, v5, v6, v7, ve, vi_, v16, v17, v18, v19, v20, v21, v22, v23, v24, v25, v26, p0, p1, oP_some, Nat.add_zero]
      refine hK' _ ?_; clear hK' K'
      refine S_bin rfl rfl rfl ?_
      refine S_mv rfl ?_
      refine S_dec (fun g107 => ?_) (fun g107 => ?_)
      · skip
        exact absurd rfl g107
      · skip
        refine S_gt rfl ?_
        refine S_mv rfl ?_
        refine S_gt rfl ?_
        refine S_mv rfl ?_
        refine S_gt rfl ?_
        refine S_nc rfl ?_
        refine S_gt rfl ?_
        first | refine S_fa0 T.f42_8 rfl ?_ | refine S_fa T.f42_8 rfl ?_
        refine S_gt rfl ?_
        refine S_ixan T.ar39 rfl rfl (by omega) ?_
        refine S_gt rfl ?_
        refine S_ldK T.ag37 rfl (fun K' hK' => ?_)
        simp (disch := omega) only [v0, v1, v2, v3, v4, v5, v6, v7, ve, vi_, v16, v17, v18, v19, v20, v21, v22, v23, v24, v25, v26, p0, p1, oP_some, Nat.add_zero]
        refine hK' _ ?_; clear hK' K'
        refine S_gt rfl ?_
        refine S_mv rfl ?_
        refine S_gt rfl ?_
        refine S_ix (b := b) (o := 0) (len := (d.oe i).n) (cap := (d.oe i).c) T.el37 (by rw [← hsa]; rfl) rfl (by omega) (by omega) ?_
        rw [Nat.zero_add, Int.toNat_natCast]
        refine S_gt rfl ?_
        first | refine S_fa0 T.f104_1 rfl ?_ | refine S_fa T.f104_1 rfl ?_
        refine S_gt rfl ?_
        refine S_ldK T.ag9 rfl (fun K' hK' => ?_)
        simp (disch := omega) only [v0, v1, v2, v3, v4, v5, v6, v7, ve, vi_, v16, v17, v18, v19, v20, v21, v22, v23, v24, v25, v26, p0, p1, oP_some, Nat.add_zero]
        refine hK' _ ?_; clear hK' K'
        refine S_gt rfl ?_
        refine S_bin rfl rfl rfl ?_
        refine S_pf rfl rfl ?_
        refine S_nil (hK14 _ _ (V_keep [0, 3, 4, 49] (by simp only [proj, lk, reduceIte, Nat.reduceEqDiff]; rfl) ?_)); clear hK14
        refine V_condp rfl (fun c107 => ?_) (fun c107 => ?_)
        · skip
          exact absurd rfl c107
        · skip
          refine V_skipk [0, 3, 4] (by simp only [proj, lk, reduceIte, Nat.reduceEqDiff]; rfl) ?_
          refine hK13 _ _ ?_; clear hK13
          refine V_reg T.mix (by kernel_rfl) ?_
          refine S_mv rfl ?_
          refine S_addN (j + 1) rfl rfl (by omega) (by omega) ?_
          refine S_as rfl ?_
          refine S_nilk [0, 3, 4] (by simp only [proj, lk, reduceIte, Nat.reduceEqDiff]; rfl) ?_
          exact hK10 _ _ ⟨_, by omega, j + 1, by omega, rfl, rfl, rfl⟩
    · skip
      refine V_exitk [0, 3] rfl (by simp only [proj, lk, reduceIte, Nat.reduceEqDiff]; rfl) ?_
      refine hK8 _ _ ?_; clear hK8
      refine V_sr T.mix (by kernel_rfl) (fun K15 hK15 => ?_)
      refine S_as rfl ?_
      refine S_nil (hK15 _ _ (V_keep [0, 3, 5] (by simp only [proj, lk, reduceIte, Nat.reduceEqDiff]; rfl) ?_)); clear hK15
      refine V_block ?_
      refine V_loop (fun m l h' => ∃ (j : Nat), (j ≤ (d.oi i).n) ∧ m = (d.oi i).n - j ∧ l = [(0, .pointer (some ⟨X, 0, none⟩)), (3, .int .i64 (i : Int)), (5, .int .i64 (j : Int))] ∧ h = h') _ ⟨0, Nat.zero_le _, rfl, rfl, rfl⟩ ?_
      rintro m l h' ⟨j, hj, rfl, rfl, rfl⟩ K16 hK16
      have hn9 := (kp.oi i (by omega)).1
      refine V_seq (fun K17 hK17 => ?_)
      refine V_sr T.mix (by kernel_rfl) (fun K18 hK18 => ?_)
      refine S_mv rfl ?_
      refine S_mv rfl ?_
      refine S_mv rfl ?_
      refine S_nc rfl ?_
      first | refine S_fa0 T.f42_9 rfl ?_ | refine S_fa T.f42_9 rfl ?_
      refine S_ixan T.ar40 rfl rfl (by omega) ?_
      refine S_ldK T.ag38 rfl (fun K' hK' => ?_)
      simp (disch := omega) only [v0, v1, v2, v3, v4, v5, v6, v7, ve, vi_, v16, v17, v18, v19, v20, v21, v22, v23, v24, v25, v26, oP_some, Nat.add_zero]
      refine hK' _ ?_; clear hK' K'
      refine S_lenl T.el38 rfl ?_
      refine S_bin rfl rfl rfl ?_
      refine S_nil (hK18 _ _ (V_keep [0, 3, 5, 58] (by simp only [proj, lk, reduceIte, Nat.reduceEqDiff]; rfl) ?_)); clear hK18
      refine V_condp rfl (fun c111 => ?_) (fun c111 => ?_)
      · skip
        obtain ⟨b, hsa, hbl, hcj⟩ := SK.get (kp.oi i (by omega)) (i := j) (by omega)
        have p0 : cellH h ⟨b, j * 3 + 0, none⟩ = some (.string stp) := by have h9 := hcj (j * 3 + 0) (by simp only [STI, List.length_cons, List.length_nil]; omega); rw [show (j * 3 + 0) % STI.length = 0 by simp only [STI, List.length_cons, List.length_nil]; omega] at h9; exact h9
        have p1 : cellH h ⟨b, j * 3 + 1, none⟩ = some (.int .i64 (-7)) := by have h9 := hcj (j * 3 + 1) (by simp only [STI, List.length_cons, List.length_nil]; omega); rw [show (j * 3 + 1) % STI.length = 1 by simp only [STI, List.length_cons, List.length_nil]; omega] at h9; exact h9
        have p2 : cellH h ⟨b, j * 3 + 2, none⟩ = some (.int .i64 (-7)) := by have h9 := hcj (j * 3 + 2) (by simp only [STI, List.length_cons, List.length_nil]; omega); rw [show (j * 3 + 2) % STI.length = 2 by simp only [STI, List.length_cons, List.length_nil]; omega] at h9; exact h9
        rw [Nat.add_zero] at p0
        refine V_skipk [0, 3, 5] (by simp only [proj, lk, reduceIte, Nat.reduceEqDiff]; rfl) ?_
        refine hK17 _ _ ?_; clear hK17
        refine V_seq (fun K19 hK19 => ?_)
        refine V_block ?_
        refine V_sr T.mix (by kernel_rfl) (fun K20 hK20 => ?_)
        refine S_mv rfl ?_
        refine S_mv rfl ?_
        refine S_nc rfl ?_
        first | refine S_fa0 T.f42_9 rfl ?_ | refine S_fa T.f42_9 rfl ?_
        refine S_ixan T.ar40 rfl rfl (by omega) ?_
        refine S_ldK T.ag38 rfl (fun K' hK' => ?_)
        simp (disch := omega) only [v0, v1, v2, v3, v4, v5, v6, v7, ve, vi_, v16, v17, v18, v19, v20, v21, v22, v23, v24, v25, v26, p0, p1, p2, oP_some, Nat.add_zero]
        refine hK' _ ?_; clear hK' K'
        refine S_mv rfl ?_
        refine S_ix (b := b) (o := 0) (len := (d.oi i).n) (cap := (d.oi i).c) T.el38 (by rw [← hsa]; rfl) rfl (by omega) (by omega) ?_
        rw [Nat.zero_add, Int.toNat_natCast]
        first | refine S_fa0 T.f122_0 rfl ?_ | refine S_fa T.f122_0 rfl ?_
        refine S_ldK T.ag9 rfl (fun K' hK' => ?_)
        simp (disch := omega) only [v0, v1, v2, v3, v4, v5, v6, v7, ve, vi_, v16, v17, v18, v19, v20, v21, v22, v23, v24, v25, v26, p0, p1, p2, oP_some, Nat.add_zero]
        refine hK' _ ?_; clear hK' K'
        refine S_bin rfl rfl rfl ?_
        refine S_mv rfl ?_
        refine S_dec (fun g112 => ?_) (fun g112 => ?_)
        · skip
          exact absurd rfl g112
        · skip
          refine S_gt rfl ?_
          refine S_mv rfl ?_
          refine S_gt rfl ?_
          refine S_mv rfl ?_
          refine S_gt rfl ?_
          refine S_nc rfl ?_
          refine S_gt rfl ?_
          first | refine S_fa0 T.f42_9 rfl ?_ | refine S_fa T.f42_9 rfl ?_
          refine S_gt rfl ?_
          refine S_ixan T.ar40 rfl rfl (by omega) ?_
          refine S_gt rfl ?_
          refine S_ldK T.ag38 rfl (fun K' hK' => ?_)
          simp (disch := omega) only [v0, v1, v2, v3, v4, v5, v6, v7, ve, vi_, v16, v17, v18, v19, v20, v21, v22, v23, v24, v25, v26, p0, p1, p2, oP_some, Nat.add_zero]
          refine hK' _ ?_; clear hK' K'
          refine S_gt rfl ?_
          refine S_mv rfl ?_
          refine S_gt rfl ?_
          refine S_ix (b := b) (o := 0) (len := (d.oi i).n) (cap := (d.oi i).c) T.el38 (by rw [← hsa]; rfl) rfl (by omega) (by omega) ?_
          rw [Nat.zero_add, Int.toNat_natCast]
          refine S_gt rfl ?_
          first | refine S_fa0 T.f122_1 rfl ?_ | refine S_fa T.f122_1 rfl ?_
          refine S_gt rfl ?_
          refine S_ldK T.ag3 rfl (fun K' hK' => ?_)
          simp (disch := omega) only [v0, v1, v2, v3, v4, v5, v6, v7, ve, vi_, v16, v17, v18, v19, v20, v21, v22, v23, v24, v25, v26, p0, p1, p2, oP_some, Nat.add_zero]
          refine hK' _ ?_; clear hK' K'
          refine S_gt rfl ?_
          refine S_bin rfl rfl rfl ?_
          refine S_pf rfl rfl ?_
          refine S_mv rfl ?_
          refine S_dec (fun g112a => ?_) (fun g112a => ?_)
          · skip
            exact absurd rfl g112a
          · skip
            refine S_gt rfl ?_
            refine S_mv rfl ?_
            refine S_gt rfl ?_
            refine S_mv rfl ?_
            refine S_gt rfl ?_
            refine S_nc rfl ?_
            refine S_gt rfl ?_
            first | refine S_fa0 T.f42_9 rfl ?_ | refine S_fa T.f42_9 rfl ?_
            refine S_gt rfl ?_
            refine S_ixan T.ar40 rfl rfl (by omega) ?_
            refine S_gt rfl ?_
            refine S_ldK T.ag38 rfl (fun K' hK' => ?_)
            simp (disch := omega) only [v0, v1, v2, v3, v4, v5, v6, v7, ve, vi_, v16, v17, v18, v19, v20, v21, v22, v23, v24, v25, v26, p0, p1, p2, oP_some, Nat.add_zero]
            refine hK' _ ?_; clear hK' K'
            refine S_gt rfl ?_
            refine S_mv rfl ?_
            refine S_gt rfl ?_
            refine S_ix (b := b) (o := 0) (len := (d.oi i).n) (cap := (d.oi i).c) T.el38 (by rw [← hsa]; rfl) rfl (by omega) (by omega) ?_
            rw [Nat.zero_add, Int.toNat_natCast]
            refine S_gt rfl ?_
            first | refine S_fa0 T.f122_2 rfl ?_ | refine S_fa T.f122_2 rfl ?_
            refine S_gt rfl ?_
            refine S_ldK T.ag3 rfl (fun K' hK' => ?_)
            simp (disch := omega) only [v0, v1, v2, v3, v4, v5, v6, v7, ve, vi_, v16, v17, v18, v19, v20, v21, v22, v23, v24, v25, v26, p0, p1, p2, oP_some, Nat.add_zero]
            refine hK' _ ?_; clear hK' K'
            refine S_gt rfl ?_
            refine S_bin rfl rfl rfl ?_
            refine S_pf rfl rfl ?_
            refine S_nil (hK20 _ _ (V_keep [0, 3, 5, 97] (by simp only [proj, lk, reduceIte, Nat.reduceEqDiff]; rfl) ?_)); clear hK20
            refine V_condp rfl (fun c112 => ?_) (fun c112 => ?_)
            · skip
              exact absurd rfl c112
            · skip
              refine V_skipk [0, 3, 5] (by simp only [proj, lk, reduceIte, Nat.reduceEqDiff]; rfl) ?_
              refine hK19 _ _ ?_; clear hK19
              refine V_reg T.mix (by kernel_rfl) ?_
              refine S_mv rfl ?_
              refine S_addN (j + 1) rfl rfl (by omega) (by omega) ?_
              refine S_as rfl ?_
              refine S_nilk [0, 3, 5] (by simp only [proj, lk, reduceIte, Nat.reduceEqDiff]; rfl) ?_
              exact hK16 _ _ ⟨_, by omega, j + 1, by omega, rfl, rfl, rfl⟩
      · skip
        refine V_exitk [0, 3] rfl (by simp only [proj, lk, reduceIte, Nat.reduceEqDiff]; rfl) ?_
        refine hK7 _ _ ?_; clear hK7
        refine V_reg T.mix (by kernel_rfl) ?_
        refine S_mv rfl ?_
        refine S_addN (i + 1) rfl rfl (by omega) (by omega) ?_
        refine S_as rfl ?_
        refine S_nilk [0, 3] (by simp only [proj, lk, reduceIte, Nat.reduceEqDiff]; rfl) ?_
        exact hK4 _ _ ⟨_, by omega, i + 1, by omega, rfl, rfl, rfl⟩
  · skip
    refine V_exitk [0] rfl (by simp only [proj, lk, reduceIte, Nat.reduceEqDiff]; rfl) ?_
    refine hK2 _ _ ?_; clear hK2
    refine V_seq (fun K21 hK21 => ?_)
    refine V_sr T.mix (by kernel_rfl) (fun K22 hK22 => ?_)
    refine S_as rfl ?_
    refine S_nil (hK22 _ _ (V_keep [0, 6] (by simp only [proj, lk, reduceIte, Nat.reduceEqDiff]; rfl) ?_)); clear hK22
    refine V_block ?_
    refine V_loop (fun m l h' => ∃ (j : Nat), (j ≤ d.fe.n) ∧ m = d.fe.n - j ∧ l = [(0, .pointer (some ⟨X, 0, none⟩)), (6, .int .i64 (j : Int))] ∧ h = h') _ ⟨0, Nat.zero_le _, rfl, rfl, rfl⟩ ?_
    rintro m l h' ⟨j, hj, rfl, rfl, rfl⟩ K23 hK23
    have hn9 := kp.fe.1
    refine V_seq (fun K24 hK24 => ?_)
    refine V_sr T.mix (by kernel_rfl) (fun K25 hK25 => ?_)
    refine S_mv rfl ?_
    refine S_mv rfl ?_
    refine S_nc rfl ?_
    first | refine S_fa0 T.f42_12 rfl ?_ | refine S_fa T.f42_12 rfl ?_
    refine S_ldK T.ag37 rfl (fun K' hK' => ?_)
    simp (disch := omega) only [v0, v1, v2, v3, v4, v5, v6, v7, ve, vi_, v16, v17, v18, v19, v20, v21, v22, v23, v24, v25, v26, oP_some, Nat.add_zero]
    refine hK' _ ?_; clear hK' K'
    refine S_lenl T.el37 rfl ?_
    refine S_bin rfl rfl rfl ?_
    refine S_nil (hK25 _ _ (V_keep [0, 6, 104] (by simp only [proj, lk, reduceIte, Nat.reduceEqDiff]; rfl) ?_)); clear hK25
    refine V_condp rfl (fun c117 => ?_) (fun c117 => ?_)
    · skip
      obtain ⟨b, hsa, hbl, hcj⟩ := SK.get kp.fe (i := j) (by omega)
      have p0 : cellH h ⟨b, j * 2 + 0, none⟩ = some (.string stp) := by have h9 := hcj (j * 2 + 0) (by simp only [STE, List.length_cons, List.length_nil]; omega); rw [show (j * 2 + 0) % STE.length = 0 by simp only [STE, List.length_cons, List.length_nil]; omega] at h9; exact h9
      have p1 : cellH h ⟨b, j * 2 + 1, none⟩ = some (.string stp) := by have h9 := hcj (j * 2 + 1) (by simp only [STE, List.length_cons, List.length_nil]; omega); rw [show (j * 2 + 1) % STE.length = 1 by simp only [STE, List.length_cons, List.length_nil]; omega] at h9; exact h9
      rw [Nat.add_zero] at p0
      refine V_skipk [0, 6] (by simp only [proj, lk, reduceIte, Nat.reduceEqDiff]; rfl) ?_
      refine hK24 _ _ ?_; clear hK24
      refine V_seq (fun K26 hK26 => ?_)
      refine V_block ?_
      refine V_sr T.mix (by kernel_rfl) (fun K27 hK27 => ?_)
      refine S_mv rfl ?_
      refine S_nc rfl ?_
      first | refine S_fa0 T.f42_12 rfl ?_ | refine S_fa T.f42_12 rfl ?_
      refine S_ldK T.ag37 rfl (fun K' hK' => ?_)
      simp (disch := omega) only [v0, v1, v2, v3, v4, v5, v6, v7, ve, vi_, v16, v17, v18, v19, v20, v21, v22, v23, v24, v25, v26, p0, p1, oP_some, Nat.add_zero]
      refine hK' _ ?_; clear hK' K'
      refine S_mv rfl ?_
      refine S_ix (b := b) (o := 0) (len := d.fe.n) (cap := d.fe.c) T.el37 (by rw [← hsa]; rfl) rfl (by omega) (by omega) ?_
      rw [Nat.zero_add, Int.toNat_natCast]
      first | refine S_fa0 T.f104_0 rfl ?_ | refine S_fa T.f104_0 rfl ?_
      refine S_ldK T.ag9 rfl (fun K' hK' => ?_)
      simp (disch := omega) only [v0, v1, v2, v3, v4, v5, v6, v7, ve, vi_, v16, v17, v18, v19, v20, v21, v22, v23, v24, v25, v26, p0, p1, oP_some, Nat.add_zero]
      refine hK' _ ?_; clear hK' K'
      refine S_bin rfl rfl rfl ?_
      refine S_mv rfl ?_
      refine S_dec (fun g118 => ?_) (fun g118 => ?_)
      · skip
        exact absurd rfl g118
      · skip
        refine S_gt rfl ?_
        refine S_mv rfl ?_
        refine S_gt rfl ?_
        refine S_nc rfl ?_
        refine S_gt rfl ?_
        first | refine S_fa0 T.f42_12 rfl ?_ | refine S_fa T.f42_12 rfl ?_
        refine S_gt rfl ?_
        refine S_ldK T.ag37 rfl (fun K' hK' => ?_)
        simp (disch := omega) only [v0, v1, v2, v3, v4, v5, v6, v7, ve, vi_, v16, v17, v18, v19, v20, v21, v22, v23, v24, v25, v26, p0, p1, oP_some, Nat.add_zero]
        refine hK' _ ?_; clear hK' K'
        refine S_gt rfl ?_
        refine S_mv rfl ?_
        refine S_gt rfl ?_
        refine S_ix (b := b) (o := 0) (len := d.fe.n) (cap := d.fe.c) T.el37 (by rw [← hsa]; rfl) rfl (by omega) (by omega) ?_
        rw [Nat.zero_add, Int.toNat_natCast]
        refine S_gt rfl ?_
        first | refine S_fa0 T.f104_1 rfl ?_ | refine S_fa T.f104_1 rfl ?_
        refine S_gt rfl ?_
        refine S_ldK T.ag9 rfl (fun K' hK' => ?_)
        simp (disch := omega) only [v0, v1, v2, v3, v4, v5, v6, v7, ve, vi_, v16, v17, v18, v19, v20, v21, v22, v23, v24, v25, v26, p0, p1, oP_some, Nat.add_zero]
        refine hK' _ ?_; clear hK' K'
        refine S_gt rfl ?_
        refine S_bin rfl rfl rfl ?_
        refine S_pf rfl rfl ?_
        refine S_nil (hK27 _ _ (V_keep [0, 6, 126] (by simp only [proj, lk, reduceIte, Nat.reduceEqDiff]; rfl) ?_)); clear hK27
        refine V_condp rfl (fun c118 => ?_) (fun c118 => ?_)
        · skip
          exact absurd rfl c118
        · skip
          refine V_skipk [0, 6] (by simp only [proj, lk, reduceIte, Nat.reduceEqDiff]; rfl) ?_
          refine hK26 _ _ ?_; clear hK26
          refine V_reg T.mix (by kernel_rfl) ?_
          refine S_mv rfl ?_
          refine S_addN (j + 1) rfl rfl (by omega) (by omega) ?_
          refine S_as rfl ?_
          refine S_nilk [0, 6] (by simp only [proj, lk, reduceIte, Nat.reduceEqDiff]; rfl) ?_
          exact hK23 _ _ ⟨_, by omega, j + 1, by omega, rfl, rfl, rfl⟩
    · skip
      refine V_exitk [0] rfl (by simp only [proj, lk, reduceIte, Nat.reduceEqDiff]; rfl) ?_
      refine hK21 _ _ ?_; clear hK21
      refine V_seq (fun K28 hK28 => ?_)
      refine V_sr T.mix (by kernel_rfl) (fun K29 hK29 => ?_)
      refine S_as rfl ?_
      refine S_nil (hK29 _ _ (V_keep [0, 7] (by simp only [proj, lk, reduceIte, Nat.reduceEqDiff]; rfl) ?_)); clear hK29
      refine V_block ?_
      refine V_loop (fun m l h' => ∃ (j : Nat), (j ≤ d.fi.n) ∧ m = d.fi.n - j ∧ l = [(0, .pointer (some ⟨X, 0, none⟩)), (7, .int .i64 (j : Int))] ∧ h = h') _ ⟨0, Nat.zero_le _, rfl, rfl, rfl⟩ ?_
      rintro m l h' ⟨j, hj, rfl, rfl, rfl⟩ K30 hK30
      have hn9 := kp.fi.1
      refine V_seq (fun K31 hK31 => ?_)
      refine V_sr T.mix (by kernel_rfl) (fun K32 hK32 => ?_)
      refine S_mv rfl ?_
      refine S_mv rfl ?_
      refine S_nc rfl ?_
      first | refine S_fa0 T.f42_13 rfl ?_ | refine S_fa T.f42_13 rfl ?_
      refine S_ldK T.ag38 rfl (fun K' hK' => ?_)
      simp (disch := omega) only [v0, v1, v2, v3, v4, v5, v6, v7, ve, vi_, v16, v17, v18, v19, v20, v21, v22, v23, v24, v25, v26, oP_some, Nat.add_zero]
      refine hK' _ ?_; clear hK' K'
      refine S_lenl T.el38 rfl ?_
      refine S_bin rfl rfl rfl ?_
      refine S_nil (hK32 _ _ (V_keep [0, 7, 133] (by simp only [proj, lk, reduceIte, Nat.reduceEqDiff]; rfl) ?_)); clear hK32
      refine V_condp rfl (fun c122 => ?_) (fun c122 => ?_)
      · skip
        obtain ⟨b, hsa, hbl, hcj⟩ := SK.get kp.fi (i := j) (by omega)
        have p0 : cellH h ⟨b, j * 3 + 0, none⟩ = some (.string stp) := by have h9 := hcj (j * 3 + 0) (by simp only [STI, List.length_cons, List.length_nil]; omega); rw [show (j * 3 + 0) % STI.length = 0 by simp only [STI, List.length_cons, List.length_nil]; omega] at h9; exact h9
        have p1 : cellH h ⟨b, j * 3 + 1, none⟩ = some (.int .i64 (-7)) := by have h9 := hcj (j * 3 + 1) (by simp only [STI, List.length_cons, List.length_nil]; omega); rw [show (j * 3 + 1) % STI.length = 1 by simp only [STI, List.length_cons, List.length_nil]; omega] at h9; exact h9
        have p2 : cellH h ⟨b, j * 3 + 2, none⟩ = some (.int .i64 (-7)) := by have h9 := hcj (j * 3 + 2) (by simp only [STI, List.length_cons, List.length_nil]; omega); rw [show (j * 3 + 2) % STI.length = 2 by simp only [STI, List.length_cons, List.length_nil]; omega] at h9; exact h9
        rw [Nat.add_zero] at p0
        refine V_skipk [0, 7] (by simp only [proj, lk, reduceIte, Nat.reduceEqDiff]; rfl) ?_
        refine hK31 _ _ ?_; clear hK31
        refine V_seq (fun K33 hK33 => ?_)
        refine V_block ?_
        refine V_sr T.mix (by kernel_rfl) (fun K34 hK34 => ?_)
        refine S_mv rfl ?_
        refine S_nc rfl ?_
        first | refine S_fa0 T.f42_13 rfl ?_ | refine S_fa T.f42_13 rfl ?_
        refine S_ldK T.ag38 rfl (fun K' hK' => ?_)
        simp (disch := omega) only [v0, v1, v2, v3, v4, v5, v6, v7, ve, vi_, v16, v17, v18, v19, v20, v21, v22, v23, v24, v25, v26, p0, p1, p2, oP_some, Nat.add_zero]
        refine hK' _ ?_; clear hK' K'
        refine S_mv rfl ?_
        refine S_ix (b := b) (o := 0) (len := d.fi.n) (cap := d.fi.c) T.el38 (by rw [← hsa]; rfl) rfl (by omega) (by omega) ?_
        rw [Nat.zero_add, Int.toNat_natCast]
        first | refine S_fa0 T.f122_0 rfl ?_ | refine S_fa T.f122_0 rfl ?_
        refine S_ldK T.ag9 rfl (fun K' hK' => ?_)
        simp (disch := omega) only [v0, v1, v2, v3, v4, v5, v6, v7, ve, vi_, v16, v17, v18, v19, v20, v21, v22, v23, v24, v25, v26, p0, p1, p2, oP_some, Nat.add_zero]
        refine hK' _ ?_; clear hK' K'
        refine S_bin rfl rfl rfl ?_
        refine S_mv rfl ?_
        refine S_dec (fun g123 => ?_) (fun g123 => ?_)
        · skip
          exact absurd rfl g123
        · skip
          refine S_gt rfl ?_
          refine S_mv rfl ?_
          refine S_gt rfl ?_
          refine S_nc rfl ?_
          refine S_gt rfl ?_
          first | refine S_fa0 T.f42_13 rfl ?_ | refine S_fa T.f42_13 rfl ?_
          refine S_gt rfl ?_
          refine S_ldK T.ag38 rfl (fun K' hK' => ?_)
          simp (disch := omega) only [v0, v1, v2, v3, v4, v5, v6, v7, ve, vi_, v16, v17, v18, v19, v20, v21, v22, v23, v24, v25, v26, p0, p1, p2, oP_some, Nat.add_zero]
          refine hK' _ ?_; clear hK' K'
          refine S_gt rfl ?_
          refine S_mv rfl ?_
          refine S_gt rfl ?_
          refine S_ix (b := b) (o := 0) (len := d.fi.n) (cap := d.fi.c) T.el38 (by rw [← hsa]; rfl) rfl (by omega) (by omega) ?_
          rw [Nat.zero_add, Int.toNat_natCast]
          refine S_gt rfl ?_
          first | refine S_fa0 T.f122_1 rfl ?_ | refine S_fa T.f122_1 rfl ?_
          refine S_gt rfl ?_
          refine S_ldK T.ag3 rfl (fun K' hK' => ?_)
          simp (disch := omega) only [v0, v1, v2, v3, v4, v5, v6, v7, ve, vi_, v16, v17, v18, v19, v20, v21, v22, v23, v24, v25, v26, p0, p1, p2, oP_some, Nat.add_zero]
          refine hK' _ ?_; clear hK' K'
          refine S_gt rfl ?_
          refine S_bin rfl rfl rfl ?_
          refine S_pf rfl rfl ?_
          refine S_mv rfl ?_
          refine S_dec (fun g123a => ?_) (fun g123a => ?_)
          · skip
            exact absurd rfl g123a
          · skip
            refine S_gt rfl ?_
            refine S_mv rfl ?_
            refine S_gt rfl ?_
            refine S_nc rfl ?_
            refine S_gt rfl ?_
            first | refine S_fa0 T.f42_13 rfl ?_ | refine S_fa T.f42_13 rfl ?_
            refine S_gt rfl ?_
            refine S_ldK T.ag38 rfl (fun K' hK' => ?_)
            simp (disch := omega) only [v0, v1, v2, v3, v4, v5, v6, v7, ve, vi_, v16, v17, v18, v19, v20, v21, v22, v23, v24, v25, v26, p0, p1, p2, oP_some, Nat.add_zero]
            refine hK' _ ?_; clear hK' K'
            refine S_gt rfl ?_
            refine S_mv rfl ?_
            refine S_gt rfl ?_
            refine S_ix (b := b) (o := 0) (len := d.fi.n) (cap := d.fi.c) T.el38 (by rw [← hsa]; rfl) rfl (by omega) (by omega) ?_
            rw [Nat.zero_add, Int.toNat_natCast]
            refine S_gt rfl ?_
            first | refine S_fa0 T.f122_2 rfl ?_ | refine S_fa T.f122_2 rfl ?_
            refine S_gt rfl ?_
            refine S_ldK T.ag3 rfl (fun K' hK' => ?_)
            simp (disch := omega) only [v0, v1, v2, v3, v4, v5, v6, v7, ve, vi_, v16, v17, v18, v19, v20, v21, v22, v23, v24, v25, v26, p0, p1, p2, oP_some, Nat.add_zero]
            refine hK' _ ?_; clear hK' K'
            refine S_gt rfl ?_
            refine S_bin rfl rfl rfl ?_
            refine S_pf rfl rfl ?_
            refine S_nil (hK34 _ _ (V_keep [0, 7, 166] (by simp only [proj, lk, reduceIte, Nat.reduceEqDiff]; rfl) ?_)); clear hK34
            refine V_condp rfl (fun c123 => ?_) (fun c123 => ?_)
            · skip
              exact absurd rfl c123
            · skip
              refine V_skipk [0, 7] (by simp only [proj, lk, reduceIte, Nat.reduceEqDiff]; rfl) ?_
              refine hK33 _ _ ?_; clear hK33
              refine V_reg T.mix (by kernel_rfl) ?_
              refine S_mv rfl ?_
              refine S_addN (j + 1) rfl rfl (by omega) (by omega) ?_
              refine S_as rfl ?_
              refine S_nilk [0, 7] (by simp only [proj, lk, reduceIte, Nat.reduceEqDiff]; rfl) ?_
              exact hK30 _ _ ⟨_, by omega, j + 1, by omega, rfl, rfl, rfl⟩
      · skip
        refine V_exitk [0] rfl (by simp only [proj, lk, reduceIte, Nat.reduceEqDiff]; rfl) ?_
        refine hK28 _ _ ?_; clear hK28
        refine V_seq (fun K35 hK35 => ?_)
        refine V_sr T.mix (by kernel_rfl) (fun K36 hK36 => ?_)
        refine S_as rfl ?_
        refine S_nil (hK36 _ _ (V_keep [0, 8] (by simp only [proj, lk, reduceIte, Nat.reduceEqDiff]; rfl) ?_)); clear hK36
        refine V_block ?_
        refine V_loop (fun m l h' => ∃ (j : Nat), (j ≤ d.he.n) ∧ m = d.he.n - j ∧ l = [(0, .pointer (some ⟨X, 0, none⟩)), (8, .int .i64 (j : Int))] ∧ h = h') _ ⟨0, Nat.zero_le _, rfl, rfl, rfl⟩ ?_
        rintro m l h' ⟨j, hj, rfl, rfl, rfl⟩ K37 hK37
        have hn9 := kp.he.1
        refine V_seq (fun K38 hK38 => ?_)
        refine V_sr T.mix (by kernel_rfl) (fun K39 hK39 => ?_)
        refine S_mv rfl ?_
        refine S_mv rfl ?_
        refine S_nc rfl ?_
        first | refine S_fa0 T.f42_17 rfl ?_ | refine S_fa T.f42_17 rfl ?_
        refine S_ldK T.ag37 rfl (fun K' hK' => ?_)
        simp (disch := omega) only [v0, v1, v2, v3, v4, v5, v6, v7, ve, vi_, v16, v17, v18, v19, v20, v21, v22, v23, v24, v25, v26, oP_some, Nat.add_zero]
        refine hK' _ ?_; clear hK' K'
        refine S_lenl T.el37 rfl ?_
        refine S_bin rfl rfl rfl ?_
        refine S_nil (hK39 _ _ (V_keep [0, 8, 173] (by simp only [proj, lk, reduceIte, Nat.reduceEqDiff]; rfl) ?_)); clear hK39
        refine V_condp rfl (fun c127 => ?_) (fun c127 => ?_)
        · skip
          obtain ⟨b, hsa, hbl, hcj⟩ := SK.get kp.he (i := j) (by omega)
          have p0 : cellH h ⟨b, j * 2 + 0, none⟩ = some (.string stp) := by have h9 := hcj (j * 2 + 0) (by simp only [STE, List.length_cons, List.length_nil]; omega); rw [show (j * 2 + 0) % STE.length = 0 by simp only [STE, List.length_cons, List.length_nil]; omega] at h9; exact h9
          have p1 : cellH h ⟨b, j * 2 + 1, none⟩ = some (.string stp) := by have h9 := hcj (j * 2 + 1) (by simp only [STE, List.length_cons, List.length_nil]; omega); rw [show (j * 2 + 1) % STE.length = 1 by simp only [STE, List.length_cons, List.length_nil]; omega] at h9; exact h9
          rw [Nat.add_zero] at p0
          refine V_skipk [0, 8] (by simp only [proj, lk, reduceIte, Nat.reduceEqDiff]; rfl) ?_
          refine hK38 _ _ ?_; clear hK38
          refine V_seq (fun K40 hK40 => ?_)
          refine V_block ?_
          refine V_sr T.mix (by kernel_rfl) (fun K41 hK41 => ?_)
          refine S_mv rfl ?_
          refine S_nc rfl ?_
          first | refine S_fa0 T.f42_17 rfl ?_ | refine S_fa T.f42_17 rfl ?_
          refine S_ldK T.ag37 rfl (fun K' hK' => ?_)
          simp (disch := omega) only [v0, v1, v2, v3, v4, v5, v6, v7, ve, vi_, v16, v17, v18, v19, v20, v21, v22, v23, v24, v25, v26, p0, p1, oP_some, Nat.add_zero]
          refine hK' _ ?_; clear hK' K'
          refine S_mv rfl ?_
          refine S_ix (b := b) (o := 0) (len := d.he.n) (cap := d.he.c) T.el37 (by rw [← hsa]; rfl) rfl (by omega) (by omega) ?_
          rw [Nat.zero_add, Int.toNat_natCast]
          first | refine S_fa0 T.f104_0 rfl ?_ | refine S_fa T.f104_0 rfl ?_
          refine S_ldK T.ag9 rfl (fun K' hK' => ?_)
          simp (disch := omega) only [v0, v1, v2, v3, v4, v5, v6, v7, ve, vi_, v16, v17, v18, v19, v20, v21, v22, v23, v24, v25, v26, p0, p1, oP_some, Nat.add_zero]
          refine hK' _ ?_; clear hK' K'
          refine S_bin rfl rfl rfl ?_
          refine S_mv rfl ?_
          refine S_dec (fun g128 => ?_) (fun g128 => ?_)
          · skip
            exact absurd rfl g128
          · skip
            refine S_gt rfl ?_
            refine S_mv rfl ?_
            refine S_gt rfl ?_
            refine S_nc rfl ?_
            refine S_gt rfl ?_
            first | refine S_fa0 T.f42_17 rfl ?_ | refine S_fa T.f42_17 rfl ?_
            refine S_gt rfl ?_
            refine S_ldK T.ag37 rfl (fun K' hK' => ?_)
            simp (disch := omega) only [v0, v1, v2, v3, v4, v5, v6, v7, ve, vi_, v16, v17, v18, v19, v20, v21, v22, v23, v24, v25, v26, p0, p1, oP_some, Nat.add_zero]
            refine hK' _ ?_; clear hK' K'
            refine S_gt rfl ?_
            refine S_mv rfl ?_
            refine S_gt rfl ?_
            refine S_ix (b := b) (o := 0) (len := d.he.n) (cap := d.he.c) T.el37 (by rw [← hsa]; rfl) rfl (by omega) (by omega) ?_
            rw [Nat.zero_add, Int.toNat_natCast]
            refine S_gt rfl ?_
            first | refine S_fa0 T.f104_1 rfl ?_ | refine S_fa T.f104_1 rfl ?_
            refine S_gt rfl ?_
            refine S_ldK T.ag9 rfl (fun K' hK' => ?_)
            simp (disch := omega) only [v0, v1, v2, v3, v4, v5, v6, v7, ve, vi_, v16, v17, v18, v19, v20, v21, v22, v23, v24, v25, v26, p0, p1, oP_some, Nat.add_zero]
            refine hK' _ ?_; clear hK' K'
            refine S_gt rfl ?_
            refine S_bin rfl rfl rfl ?_
            refine S_pf rfl rfl ?_
            refine S_nil (hK41 _ _ (V_keep [0, 8, 195] (by simp only [proj, lk, reduceIte, Nat.reduceEqDiff]; rfl) ?_)); clear hK41
            refine V_condp rfl (fun c128 => ?_) (fun c128 => ?_)
            · skip
              exact absurd rfl c128
            · skip
              refine V_skipk [0, 8] (by simp only [proj, lk, reduceIte, Nat.reduceEqDiff]; rfl) ?_
              refine hK40 _ _ ?_; clear hK40
              refine V_reg T.mix (by kernel_rfl) ?_
              refine S_mv rfl ?_
              refine S_addN (j + 1) rfl rfl (by omega) (by omega) ?_
              refine S_as rfl ?_
              refine S_nilk [0, 8] (by simp only [proj, lk, reduceIte, Nat.reduceEqDiff]; rfl) ?_
              exact hK37 _ _ ⟨_, by omega, j + 1, by omega, rfl, rfl, rfl⟩
        · skip
          refine V_exitk [0] rfl (by simp only [proj, lk, reduceIte, Nat.reduceEqDiff]; rfl) ?_
          refine hK35 _ _ ?_; clear hK35
          refine V_seq (fun K42 hK42 => ?_)
          refine V_sr T.mix (by kernel_rfl) (fun K43 hK43 => ?_)
          refine S_as rfl ?_
          refine S_nil (hK43 _ _ (V_keep [0, 9] (by simp only [proj, lk, reduceIte, Nat.reduceEqDiff]; rfl) ?_)); clear hK43
          refine V_block ?_
          refine V_loop (fun m l h' => ∃ (j : Nat), (j ≤ d.hl.n) ∧ m = d.hl.n - j ∧ l = [(0, .pointer (some ⟨X, 0, none⟩)), (9, .int .i64 (j : Int))] ∧ h = h') _ ⟨0, Nat.zero_le _, rfl, rfl, rfl⟩ ?_
          rintro m l h' ⟨j, hj, rfl, rfl, rfl⟩ K44 hK44
          have hn9 := kp.hl.1
          refine V_seq (fun K45 hK45 => ?_)
          refine V_sr T.mix (by kernel_rfl) (fun K46 hK46 => ?_)
          refine S_mv rfl ?_
          refine S_mv rfl ?_
          refine S_nc rfl ?_
          first | refine S_fa0 T.f42_20 rfl ?_ | refine S_fa T.f42_20 rfl ?_
          refine S_ldK T.ag37 rfl (fun K' hK' => ?_)
          simp (disch := omega) only [v0, v1, v2, v3, v4, v5, v6, v7, ve, vi_, v16, v17, v18, v19, v20, v21, v22, v23, v24, v25, v26, oP_some, Nat.add_zero]
          refine hK' _ ?_; clear hK' K'
          refine S_lenl T.el37 rfl ?_
          refine S_bin rfl rfl rfl ?_
          refine S_nil (hK46 _ _ (V_keep [0, 9, 202] (by simp only [proj, lk, reduceIte, Nat.reduceEqDiff]; rfl) ?_)); clear hK46
          refine V_condp rfl (fun c132 => ?_) (fun c132 => ?_)
          · skip
            obtain ⟨b, hsa, hbl, hcj⟩ := SK.get kp.hl (i := j) (by omega)
            have p0 : cellH h ⟨b, j * 2 + 0, none⟩ = some (.string stp) := by have h9 := hcj (j * 2 + 0) (by simp only [STE, List.length_cons, List.length_nil]; omega); rw [show (j * 2 + 0) % STE.length = 0 by simp only [STE, List.length_cons, List.length_nil]; omega] at h9; exact h9
            have p1 : cellH h ⟨b, j * 2 + 1, none⟩ = some (.string stp) := by have h9 := hcj (j * 2 + 1) (by simp only [STE, List.length_cons, List.length_nil]; omega); rw [show (j * 2 + 1) % STE.length = 1 by simp only [STE, List.length_cons, List.length_nil]; omega] at h9; exact h9
            rw [Nat.add_zero] at p0
            refine V_skipk [0, 9] (by simp only [proj, lk, reduceIte, Nat.reduceEqDiff]; rfl) ?_
            refine hK45 _ _ ?_; clear hK45
            refine V_seq (fun K47 hK47 => ?_)
            refine V_block ?_
            refine V_sr T.mix (by kernel_rfl) (fun K48 hK48 => ?_)
            refine S_mv rfl ?_
            refine S_nc rfl ?_
            first | refine S_fa0 T.f42_20 rfl ?_ | refine S_fa T.f42_20 rfl ?_
            refine S_ldK T.ag37 rfl (fun K' hK' => ?_)
            simp (disch := omega) only [v0, v1, v2, v3, v4, v5, v6, v7, ve, vi_, v16, v17, v18, v19, v20, v21, v22, v23, v24, v25, v26, p0, p1, oP_some, Nat.add_zero]
            refine hK' _ ?_; clear hK' K'
            refine S_mv rfl ?_
            refine S_ix (b := b) (o := 0) (len := d.hl.n) (cap := d.hl.c) T.el37 (by rw [← hsa]; rfl) rfl (by omega) (by omega) ?_
            rw [Nat.zero_add, Int.toNat_natCast]
            first | refine S_fa0 T.f104_0 rfl ?_ | refine S_fa T.f104_0 rfl ?_
            refine S_ldK T.ag9 rfl (fun K' hK' => ?_)
            simp (disch := omega) only [v0, v1, v2, v3, v4, v5, v6, v7, ve, vi_, v16, v17, v18, v19, v20, v21, v22, v23, v24, v25, v26, p0, p1, oP_some, Nat.add_zero]
            refine hK' _ ?_; clear hK' K'
            refine S_bin rfl rfl rfl ?_
            refine S_mv rfl ?_
            refine S_dec (fun g133 => ?_) (fun g133 => ?_)
            · skip
              exact absurd rfl g133
            · skip
              refine S_gt rfl ?_
              refine S_mv rfl ?_
              refine S_gt rfl ?_
              refine S_nc rfl ?_
              refine S_gt rfl ?_
              first | refine S_fa0 T.f42_20 rfl ?_ | refine S_fa T.f42_20 rfl ?_
              refine S_gt rfl ?_
              refine S_ldK T.ag37 rfl (fun K' hK' => ?_)
              simp (disch := omega) only [v0, v1, v2, v3, v4, v5, v6, v7, ve, vi_, v16, v17, v18, v19, v20, v21, v22, v23, v24, v25, v26, p0, p1, oP_some, Nat.add_zero]
              refine hK' _ ?_; clear hK' K'
              refine S_gt rfl ?_
              refine S_mv rfl ?_
              refine S_gt rfl ?_
              refine S_ix (b := b) (o := 0) (len := d.hl.n) (cap := d.hl.c) T.el37 (by rw [← hsa]; rfl) rfl (by omega) (by omega) ?_
              rw [Nat.zero_add, Int.toNat_natCast]
              refine S_gt rfl ?_
              first | refine S_fa0 T.f104_1 rfl ?_ | refine S_fa T.f104_1 rfl ?_
              refine S_gt rfl ?_
              refine S_ldK T.ag9 rfl (fun K' hK' => ?_)
              simp (disch := omega) only [v0, v1, v2, v3, v4, v5, v6, v7, ve, vi_, v16, v17, v18, v19, v20, v21, v22, v23, v24, v25, v26, p0, p1, oP_some, Nat.add_zero]
              refine hK' _ ?_; clear hK' K'
              refine S_gt rfl ?_
              refine S_bin rfl rfl rfl ?_
              refine S_pf rfl rfl ?_
              refine S_nil (hK48 _ _ (V_keep [0, 9, 224] (by simp only [proj, lk, reduceIte, Nat.reduceEqDiff]; rfl) ?_)); clear hK48
              refine V_condp rfl (fun c133 => ?_) (fun c133 => ?_)
              · skip
                exact absurd rfl c133
              · skip
                refine V_skipk [0, 9] (by simp only [proj, lk, reduceIte, Nat.reduceEqDiff]; rfl) ?_
                refine hK47 _ _ ?_; clear hK47
                refine V_reg T.mix (by kernel_rfl) ?_
                refine S_mv rfl ?_
                refine S_addN (j + 1) rfl rfl (by omega) (by omega) ?_
                refine S_as rfl ?_
                refine S_nilk [0, 9] (by simp only [proj, lk, reduceIte, Nat.reduceEqDiff]; rfl) ?_
                exact hK44 _ _ ⟨_, by omega, j + 1, by omega, rfl, rfl, rfl⟩
          · skip
            refine V_exitk [0] rfl (by simp only [proj, lk, reduceIte, Nat.reduceEqDiff]; rfl) ?_
            refine hK42 _ _ ?_; clear hK42
            refine V_seq (fun K49 hK49 => ?_)
            refine V_sr T.mix (by kernel_rfl) (fun K50 hK50 => ?_)
            refine S_as rfl ?_
            refine S_nil (hK50 _ _ (V_keep [0, 10] (by simp only [proj, lk, reduceIte, Nat.reduceEqDiff]; rfl) ?_)); clear hK50
            refine V_block ?_
            refine V_loop (fun m l h' => ∃ (j : Nat), (j ≤ d.hi.n) ∧ m = d.hi.n - j ∧ l = [(0, .pointer (some ⟨X, 0, none⟩)), (10, .int .i64 (j : Int))] ∧ h = h') _ ⟨0, Nat.zero_le _, rfl, rfl, rfl⟩ ?_
            rintro m l h' ⟨j, hj, rfl, rfl, rfl⟩ K51 hK51
            have hn9 := kp.hi.1
            refine V_seq (fun K52 hK52 => ?_)
            refine V_sr T.mix (by kernel_rfl) (fun K53 hK53 => ?_)
            refine S_mv rfl ?_
            refine S_mv rfl ?_
            refine S_nc rfl ?_
            first | refine S_fa0 T.f42_18 rfl ?_ | refine S_fa T.f42_18 rfl ?_
            refine S_ldK T.ag38 rfl (fun K' hK' => ?_)
            simp (disch := omega) only [v0, v1, v2, v3, v4, v5, v6, v7, ve, vi_, v16, v17, v18, v19, v20, v21, v22, v23, v24, v25, v26, oP_some, Nat.add_zero]
            refine hK' _ ?_; clear hK' K'
            refine S_lenl T.el38 rfl ?_
            refine S_bin rfl rfl rfl ?_
            refine S_nil (hK53 _ _ (V_keep [0, 10, 231] (by simp only [proj, lk, reduceIte, Nat.reduceEqDiff]; rfl) ?_)); clear hK53
            refine V_condp rfl (fun c137 => ?_) (fun c137 => ?_)
            · skip
              obtain ⟨b, hsa, hbl, hcj⟩ := SK.get kp.hi (i := j) (by omega)
              have p0 : cellH h ⟨b, j * 3 + 0, none⟩ = some (.string stp) := by have h9 := hcj (j * 3 + 0) (by simp only [STI, List.length_cons, List.length_nil]; omega); rw [show (j * 3 + 0) % STI.length = 0 by simp only [STI, List.length_cons, List.length_nil]; omega] at h9; exact h9
              have p1 : cellH h ⟨b, j * 3 + 1, none⟩ = some (.int .i64 (-7)) := by have h9 := hcj (j * 3 + 1) (by simp only [STI, List.length_cons, List.length_nil]; omega); rw [show (j * 3 + 1) % STI.length = 1 by simp only [STI, List.length_cons, List.length_nil]; omega] at h9; exact h9
              have p2 : cellH h ⟨b, j * 3 + 2, none⟩ = some (.int .i64 (-7)) := by have h9 := hcj (j * 3 + 2) (by simp only [STI, List.length_cons, List.length_nil]; omega); rw [show (j * 3 + 2) % STI.length = 2 by simp only [STI, List.length_cons, List.length_nil]; omega] at h9; exact h9
              rw [Nat.add_zero] at p0
              refine V_skipk [0, 10] (by simp only [proj, lk, reduceIte, Nat.reduceEqDiff]; rfl) ?_
              refine hK52 _ _ ?_; clear hK52
              refine V_seq (fun K54 hK54 => ?_)
              refine V_block ?_
              refine V_sr T.mix (by kernel_rfl) (fun K55 hK55 => ?_)
              refine S_mv rfl ?_
              refine S_nc rfl ?_
              first | refine S_fa0 T.f42_18 rfl ?_ | refine S_fa T.f42_18 rfl ?_
              refine S_ldK T.ag38 rfl (fun K' hK' => ?_)
              simp (disch := omega) only [v0, v1, v2, v3, v4, v5, v6, v7, ve, vi_, v16, v17, v18, v19, v20, v21, v22, v23, v24, v25, v26, p0, p1, p2, oP_some, Nat.add_zero]
              refine hK' _ ?_; clear hK' K'
              refine S_mv rfl ?_
              refine S_ix (b := b) (o := 0) (len := d.hi.n) (cap := d.hi.c) T.el38 (by rw [← hsa]; rfl) rfl (by omega) (by omega) ?_
              rw [Nat.zero_add, Int.toNat_natCast]
              first | refine S_fa0 T.f122_0 rfl ?_ | refine S_fa T.f122_0 rfl ?_
              refine S_ldK T.ag9 rfl (fun K' hK' => ?_)
              simp (disch := omega) only [v0, v1, v2, v3, v4, v5, v6, v7, ve, vi_, v16, v17, v18, v19, v20, v21, v22, v23, v24, v25, v26, p0, p1, p2, oP_some, Nat.add_zero]
              refine hK' _ ?_; clear hK' K'
              refine S_bin rfl rfl rfl ?_
              refine S_mv rfl ?_
              refine S_dec (fun g138 => ?_) (fun g138 => ?_)
              · skip
                exact absurd rfl g138
              · skip
                refine S_gt rfl ?_
                refine S_mv rfl ?_
                refine S_gt rfl ?_
                refine S_nc rfl ?_
                refine S_gt rfl ?_
                first | refine S_fa0 T.f42_18 rfl ?_ | refine S_fa T.f42_18 rfl ?_
                refine S_gt rfl ?_
                refine S_ldK T.ag38 rfl (fun K' hK' => ?_)
                simp (disch := omega) only [v0, v1, v2, v3, v4, v5, v6, v7, ve, vi_, v16, v17, v18, v19, v20, v21, v22, v23, v24, v25, v26, p0, p1, p2, oP_some, Nat.add_zero]
                refine hK' _ ?_; clear hK' K'
                refine S_gt rfl ?_
                refine S_mv rfl ?_
                refine S_gt rfl ?_
                refine S_ix (b := b) (o := 0) (len := d.hi.n) (cap := d.hi.c) T.el38 (by rw [← hsa]; rfl) rfl (by omega) (by omega) ?_
                rw [Nat.zero_add, Int.toNat_natCast]
                refine S_gt rfl ?_
                first | refine S_fa0 T.f122_1 rfl ?_ | refine S_fa T.f122_1 rfl ?_
                refine S_gt rfl ?_
                refine S_ldK T.ag3 rfl (fun K' hK' => ?_)
                simp (disch := omega) only [v0, v1, v2, v3, v4, v5, v6, v7, ve, vi_, v16, v17, v18, v19, v20, v21, v22, v23, v24, v25, v26, p0, p1, p2, oP_some, Nat.add_zero]
                refine hK' _ ?_; clear hK' K'
                refine S_gt rfl ?_
                refine S_bin rfl rfl rfl ?_
                refine S_pf rfl rfl ?_
                refine S_mv rfl ?_
                refine S_dec (fun g138a => ?_) (fun g138a => ?_)
                · skip
                  exact absurd rfl g138a
                · skip
                  refine S_gt rfl ?_
                  refine S_mv rfl ?_
                  refine S_gt rfl ?_
                  refine S_nc rfl ?_
                  refine S_gt rfl ?_
                  first | refine S_fa0 T.f42_18 rfl ?_ | refine S_fa T.f42_18 rfl ?_
                  refine S_gt rfl ?_
                  refine S_ldK T.ag38 rfl (fun K' hK' => ?_)
                  simp (disch := omega) only [v0, v1, v2, v3, v4, v5, v6, v7, ve, vi_, v16, v17, v18, v19, v20, v21, v22, v23, v24, v25, v26, p0, p1, p2, oP_some, Nat.add_zero]
                  refine hK' _ ?_; clear hK' K'
                  refine S_gt rfl ?_
                  refine S_mv rfl ?_
                  refine S_gt rfl ?_
                  refine S_ix (b := b) (o := 0) (len := d.hi.n) (cap := d.hi.c) T.el38 (by rw [← hsa]; rfl) rfl (by omega) (by omega) ?_
                  rw [Nat.zero_add, Int.toNat_natCast]
                  refine S_gt rfl ?_
                  first | refine S_fa0 T.f122_2 rfl ?_ | refine S_fa T.f122_2 rfl ?_
                  refine S_gt rfl ?_
                  refine S_ldK T.ag3 rfl (fun K' hK' => ?_)
                  simp (disch := omega) only [v0, v1, v2, v3, v4, v5, v6, v7, ve, vi_, v16, v17, v18, v19, v20, v21, v22, v23, v24, v25, v26, p0, p1, p2, oP_some, Nat.add_zero]
                  refine hK' _ ?_; clear hK' K'
                  refine S_gt rfl ?_
                  refine S_bin rfl rfl rfl ?_
                  refine S_pf rfl rfl ?_
                  refine S_nil (hK55 _ _ (V_keep [0, 10, 264] (by simp only [proj, lk, reduceIte, Nat.reduceEqDiff]; rfl) ?_)); clear hK55
                  refine V_condp rfl (fun c138 => ?_) (fun c138 => ?_)
                  · skip
                    exact absurd rfl c138
                  · skip
                    refine V_skipk [0, 10] (by simp only [proj, lk, reduceIte, Nat.reduceEqDiff]; rfl) ?_
                    refine hK54 _ _ ?_; clear hK54
                    refine V_reg T.mix (by kernel_rfl) ?_
                    refine S_mv rfl ?_
                    refine S_addN (j + 1) rfl rfl (by omega) (by omega) ?_
                    refine S_as rfl ?_
                    refine S_nilk [0, 10] (by simp only [proj, lk, reduceIte, Nat.reduceEqDiff]; rfl) ?_
                    exact hK51 _ _ ⟨_, by omega, j + 1, by omega, rfl, rfl, rfl⟩
            · skip
              refine V_exitk [] rfl (by simp only [proj, lk, reduceIte, Nat.reduceEqDiff]; rfl) ?_
              refine hK49 _ _ ?_; clear hK49
              refine V_sr T.mix (by kernel_rfl) (fun K56 hK56 => ?_)
              refine S_as rfl ?_
              refine S_nil (hK56 _ _ (V_keep [2] (by simp only [proj, lk, reduceIte, Nat.reduceEqDiff]; rfl) ?_)); clear hK56
              refine V_ret ?_
              refine hR _ _ (ret1 rfl rfl ?_)
              exact ⟨rfl, rfl⟩
end Go.Proofs.Qxb6500404aGreat
