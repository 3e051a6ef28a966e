import Derived.Test.Qxb6500404aGreatUj
set_option linter.unusedVariables false
set_option linter.unusedSimpArgs false
namespace Go.Proofs.Qxb6500404aGreat
open Go.Eng Go.Bits Go.Blk HufW Go.Arc

structure CF where
  W : WA
  V : SA
  A : Nat
  M : Nat
  P : Nat
  zz : Nat
  kk : Nat
  X : Nat
  B0 : Nat
structure Cs (c : CF) : Prop where
  hW : ∀ z, WT c.W z → c.B0 ≤ z ∧ z < c.A
  hV : ∀ z, WTs c.V z → c.B0 ≤ z ∧ z < c.A
  dj : ∀ z, WT c.W z → ¬ WTs c.V z
  b0 : c.B0 ≤ c.A
  a1 : c.A + 4 < c.P
  a2 : c.P < c.M
  a3 : c.M < c.X
def MS (c : CF) (z : Nat) : Prop := WT c.W z ∨ WTs c.V z ∨ AT c.A z ∨ c.X ≤ z
theorem ms_hi {c : CF} {z : Nat} (h : c.X ≤ z) : MS c z := .inr (.inr (.inr h))
theorem MS.lo {c : CF} (s : Cs c) {z : Nat} (e : MS c z) : c.B0 ≤ z := by
  have h1 := s.a1; have h2 := s.a2; have h3 := s.a3; have h0 := s.b0
  rcases e with e | e | e | e
  · exact (s.hW z e).1
  · exact (s.hV z e).1
  · rw [at_def] at e; omega
  · omega
structure RW (h : Heap) (c : CF) : Prop where
  ws : WSe h c.W
  ds : ∃ st out, DS h c.V st out
  ax : ∃ t fo ft gn, AX h c.A c.W.P c.V.D t fo ft gn
  mw : MW h c.M c.P c.zz c.kk
theorem RW.hi {h h' : Heap} {c : CF} {S : Nat → Prop} (r : RW h c) (s : Cs c) (he : Ext S h h') (hs : ∀ z, S z → c.X ≤ z) : RW h' c := by
  have a1 := s.a1; have a2 := s.a2; have a3 := s.a3
  obtain ⟨st, out, d⟩ := r.ds
  obtain ⟨t, fo, ft, gn, a⟩ := r.ax
  refine ⟨r.ws.ext he (fun z e y => ?_), ⟨st, out, d.ext he (fun z e y => ?_)⟩, ⟨t, fo, ft, gn, a.ext he (fun z e y => ?_)⟩, r.mw.ext he (fun y => ?_) (fun y => ?_)⟩
  · have := (s.hW z e).2; have := hs z y; omega
  · have := (s.hV z e).2; have := hs z y; omega
  · rw [at_def] at e; have := hs z y; omega
  · have := hs _ y; omega
  · have := hs _ y; omega
structure LW (h : Heap) (c : CF) (Q : Nat → Prop) (d : DR) (L E : List En) (I : List In) (N : Nat) : Prop where
  s : Cs c
  r : RW h c
  db : DB h c.X d
  kp : KP h c.X Q d L N
  ex : EQ h Q d.ex E
  em : EQ h Q d.em E
  ix : IQ h Q d.ix I
  im : IQ h Q d.im I
  z0 : d.nm.size ≤ 9223372036854775807
  z1 : d.dt.size ≤ 9223372036854775807
  z2 : d.rw.size ≤ 9223372036854775807
def LWE (h : Heap) (c : CF) (N : Nat) : Prop := ∃ Q d L E I, LW h c Q d L E I N
section lw
variable {h h' : Heap} {c : CF} {Q : Nat → Prop} {d : DR} {L E : List En} {I : List In} {N : Nat}
theorem LW.e (w : LW h c Q d L E I N) : LWE h c N := ⟨Q, d, L, E, I, w⟩
/-- a turn of the real side alone, or of nothing -/
theorem LW.low {S : Nat → Prop} (w : LW h c Q d L E I N) (he : Ext S h h') (r : RW h' c) (hs : ∀ z, S z → z < c.X) : LW h' c Q d L E I N := by
  have hQ : ∀ b, Q b → ¬ S b := fun b q y => by have := (w.kp.q b q).1; have := hs b y; omega
  exact ⟨w.s, r, w.db.ext he (fun y => by have := hs _ y; omega), w.kp.ext he hQ (fun b e y => by have := w.kp.lsb e; have := hs b y; omega), w.ex.ext he hQ, w.em.ext he hQ, w.ix.ext he hQ, w.im.ext he hQ, w.z0, w.z1, w.z2⟩
theorem LW.new (w : LW h c Q d L E I N) (he : Ext (fun _ => False) h h') : LW h' c Q d L E I N :=
  w.low he (w.r.hi w.s he (fun z f => f.elim)) (fun z f => f.elim)
theorem LW.xlt (w : LW h c Q d L E I N) : c.X < h.size := w.db.lt
theorem KP.grow {X b : Nat} (k : KP h X Q d L N) (h1 : X < b) (h2 : b < h.size) (h3 : blkA d.ls.a ≠ some b) : KP h X (fun z => Q z ∨ z = b) d L N :=
  have m : ∀ z, Q z → (Q z ∨ z = b) := fun z q => .inl q
  ⟨fun z q => by rcases q with q | q; (exact k.q z q); (rw [q]; exact ⟨h1, h2, h3⟩), k.ls, k.ln, k.l5, fun i hi => (k.oe i hi).mono m, fun i hi => (k.oi i hi).mono m, k.fe.mono m, k.he.mono m, k.hl.mono m, k.fi.mono m, k.hi.mono m, k.ne, k.ni, k.ae, k.ai⟩
theorem KP.mono {X : Nat} {Q' : Nat → Prop} (k : KP h X Q d L N) (m : ∀ z, Q z → Q' z) (hq : ∀ b, Q' b → X < b ∧ b < h.size ∧ blkA d.ls.a ≠ some b) : KP h X Q' d L N :=
  ⟨hq, k.ls, k.ln, k.l5, fun i hi => (k.oe i hi).mono m, fun i hi => (k.oi i hi).mono m, k.fe.mono m, k.he.mono m, k.hl.mono m, k.fi.mono m, k.hi.mono m, k.ne, k.ni, k.ae, k.ai⟩
/-- the same desk under another name for its list -/
theorem KP.up {X N' : Nat} (k : KP h X Q d L N) (hN : N ≤ N') : KP h X Q d L N' := ⟨k.q, k.ls, k.ln, k.l5, k.oe, k.oi, k.fe, k.he, k.hl, k.fi, k.hi, k.ne, k.ni, Nat.le_trans k.ae hN, Nat.le_trans k.ai hN⟩
theorem LW.up {N' : Nat} (w : LW h c Q d L E I N) (hN : N ≤ N') : LW h c Q d L E I N' := ⟨w.s, w.r, w.db, w.kp.up hN, w.ex, w.em, w.ix, w.im, w.z0, w.z1, w.z2⟩
end lw
theorem EA.eq {lo : Nat} {h : Heap} {a : Option Addr} {E : List En} {Q : Nat → Prop} (v : EA lo h a E) (hq : ∀ z, blkA a = some z → Q z) (h9 : E.length ≤ 9) : EQ h Q ⟨a, E.length, E.length⟩ E := by
  refine ⟨rfl, rfl, h9, ?_⟩
  rcases v with v | ⟨b, cs, e, h1, r⟩
  · exact .inl v
  · exact .inr ⟨b, cs, e, hq b (by rw [e]; rfl), r⟩
theorem IA.iq {lo : Nat} {h : Heap} {a : Option Addr} {L : List In} {Q : Nat → Prop} (v : IA lo h a L) (hq : ∀ z, blkA a = some z → Q z) (h9 : L.length ≤ 9) : IQ h Q ⟨a, L.length, L.length⟩ L := by
  refine ⟨rfl, rfl, h9, ?_⟩
  rcases v with v | ⟨b, cs, e, h1, r⟩
  · exact .inl v
  · exact .inr ⟨b, cs, e, hq b (by rw [e]; rfl), r⟩
theorem EA.blk {lo : Nat} {h : Heap} {a : Option Addr} {E : List En} (v : EA lo h a E) {z : Nat} (e : blkA a = some z) : lo ≤ z ∧ z < h.size := by
  rcases v with ⟨v, _⟩ | ⟨b, cs, e1, h1, h2, r⟩
  · rw [v] at e; cases e
  · rw [e1] at e
    have z2 : b = z := by simpa [blkA] using e
    subst z2; exact ⟨h1, h2.lt⟩
theorem IA.blk {lo : Nat} {h : Heap} {a : Option Addr} {L : List In} (v : IA lo h a L) {z : Nat} (e : blkA a = some z) : lo ≤ z ∧ z < h.size := by
  rcases v with ⟨v, _⟩ | ⟨b, cs, e1, h1, h2, r⟩
  · rw [v] at e; cases e
  · rw [e1] at e
    have z2 : b = z := by simpa [blkA] using e
    subst z2; exact ⟨h1, h2.lt⟩
theorem liL_le {raw : ByteArray} {L : List In} (h : L = (if (liE raw).1 = 0 then liL raw else [])) : L.length ≤ 4 := by
  by_cases c : (liE raw).1 = 0
  · rw [if_pos c] at h; rw [h, liL_len]; exact (li_ok c).1.c
  · rw [if_neg c] at h; rw [h]; exact Nat.zero_le _
theorem unL_le {raw : ByteArray} {L : List En} (h : L = (if (unG raw).1 = 0 then unL raw else [])) : L.length ≤ 4 := by
  by_cases c : (unG raw).1 = 0
  · rw [if_pos c] at h; rw [h, unL_len]
    have : (liE raw).1 = 0 := Classical.byContradiction fun z => by rw [li_un z] at c; exact z c
    exact (li_ok this).1.c
  · rw [if_neg c] at h; rw [h]; exact Nat.zero_le _
theorem arF_le {lv : Int} {Q : List En} (h : ckF Q lv = 0) : (arF lv Q).size ≤ 1108 := (rt_all h).sz
set_option maxHeartbeats 6400000 in
theorem samepack_spec (h : Heap) (c : CF) (Q : Nat → Prop) (d : DR) (L F : List En) (I : List In) (N : Nat) (w : LW h c Q d L F I N) (hN : N ≤ 8999999999990) (lv : Int) :
    FC Tryz.prog 19 (#[.pointer (some ⟨c.A, 0, none⟩), .pointer (some ⟨c.M, 0, none⟩), .agg (bel c.W.P c.V.D), .pointer (some ⟨c.X, 0, none⟩), .int .i64 lv] : Array Value) h fun rv h' => rv = .bool true ∧ LWE h' c (N + 2) ∧ Ext (MS c) h h' := by
  have s1 := w.s.a1
  have s2 := w.s.a2
  have s3 := w.s.a3
  have s0 := w.s.b0
  have hXl := w.xlt
  have hln := w.kp.ln
  have hl5 := w.kp.l5
  refine FC_of [(0, .pointer (some ⟨c.A, 0, none⟩)), (1, .pointer (some ⟨c.M, 0, none⟩)), (2, .agg (bel c.W.P c.V.D)), (3, .pointer (some ⟨c.X, 0, none⟩)), (4, .int .i64 lv)] Tryz.func19 rfl Tryz.ntmps19 (by simp) rfl (fun R hR => ?_)
  refine V_sr T.mix (by kernel_rfl) (fun K1 hK1 => ?_)
  refine S_boxA rfl ?_
  generalize hh : Array.push h _ = h1
  have b1 : B h1 h.size (bel c.W.P c.V.D) 30 := by rw [← hh]; exact B.new _ _ _
  have hEh1 : Ext (fun _ => False) h h1 := by rw [← hh]; exact Ext.push _ _ _
  clear hh
  have w1 := w.new hEh1
  have hs1 := hEh1.1
  try clear v0 v1 v2 v3 v4 v5 v6 v7 ve vi_ v16 v17 v18 v19 v20 v21 v22 v23 v24 v25 v26 vok
  obtain ⟨v0, v1, v2, v3, v4, v5, v6, v7, ve, vi_, v16, v17, v18, v19, v20, v21, v22, v23, v24, v25, v26, vok⟩ := ddq (w1.db)
  rw [hln] at v3
  refine S_as rfl ?_
  refine S_nil (hK1 _ _ (V_keep [0, 1, 3, 4, 7] (by simp only [proj, lk, reduceIte, Nat.reduceEqDiff]; rfl) ?_)); clear hK1
  refine V_sr T.mix (by kernel_rfl) (fun K2 hK2 => ?_)
  refine S_mv rfl ?_
  refine S_nc rfl ?_
  first | refine S_fa0 T.f42_3 rfl ?_ | refine S_fa T.f42_3 rfl ?_
  refine S_ldK T.ag37 rfl (fun K' hK' => ?_)
  simp (disch := omega) only [v0, v1, v2, v3, v4, v5, v6, v7, ve, vi_, v16, v17, v18, v19, v20, v21, v22, v23, v24, v25, v26, oP_some, Nat.add_zero]
  refine hK' _ ?_; clear hK' K'
  refine S_call T.hb27 rfl ?_
  refine FC.mono (copyentries_spec h1 (c.X + 1) d.ls.a d.ls.c L w1.kp.ls hl5) ?_
  rintro v' h2 ⟨cx, rfl, hcx, ce2, hE2⟩
  have w2 := w1.new hE2
  have hs2 := hE2.1
  try clear v0 v1 v2 v3 v4 v5 v6 v7 ve vi_ v16 v17 v18 v19 v20 v21 v22 v23 v24 v25 v26 vok
  obtain ⟨v0, v1, v2, v3, v4, v5, v6, v7, ve, vi_, v16, v17, v18, v19, v20, v21, v22, v23, v24, v25, v26, vok⟩ := ddq (w2.db)
  rw [hln] at v3
  refine S_as rfl ?_
  refine S_nil (hK2 _ _ (V_keep [0, 1, 3, 4, 7, 11] (by simp only [proj, lk, reduceIte, Nat.reduceEqDiff]; rfl) ?_)); clear hK2
  refine V_sr T.mix (by kernel_rfl) (fun K3 hK3 => ?_)
  refine S_mv rfl ?_
  refine S_nc rfl ?_
  first | refine S_fa0 T.f42_3 rfl ?_ | refine S_fa T.f42_3 rfl ?_
  refine S_ldK T.ag37 rfl (fun K' hK' => ?_)
  simp (disch := omega) only [v0, v1, v2, v3, v4, v5, v6, v7, ve, vi_, v16, v17, v18, v19, v20, v21, v22, v23, v24, v25, v26, oP_some, Nat.add_zero]
  refine hK' _ ?_; clear hK' K'
  refine S_call T.hb27 rfl ?_
  refine FC.mono (copyentries_spec h2 (c.X + 1) d.ls.a d.ls.c L w2.kp.ls hl5) ?_
  rintro v' h3 ⟨cm, rfl, hcm, cm3, hE3⟩
  have w3 := w2.new hE3
  have hs3 := hE3.1
  try clear v0 v1 v2 v3 v4 v5 v6 v7 ve vi_ v16 v17 v18 v19 v20 v21 v22 v23 v24 v25 v26 vok
  obtain ⟨v0, v1, v2, v3, v4, v5, v6, v7, ve, vi_, v16, v17, v18, v19, v20, v21, v22, v23, v24, v25, v26, vok⟩ := ddq (w3.db)
  rw [hln] at v3
  refine S_as rfl ?_
  refine S_nil (hK3 _ _ (V_keep [0, 1, 3, 4, 7, 11, 12] (by simp only [proj, lk, reduceIte, Nat.reduceEqDiff]; rfl) ?_)); clear hK3
  refine V_sr T.mix (by kernel_rfl) (fun K4 hK4 => ?_)
  refine S_ldn T.ag30 rfl (((b1.ext hE2 (fun f => f)).ext hE3 (fun f => f)).all rfl) ?_
  refine S_call T.hb28 rfl ?_
  obtain ⟨st0, out0, rw0, r0, s0_, ua0, ub0, sw0, rq0⟩ := w3.r.ds
  obtain ⟨sn, esn⟩ : ∃ x, x = (if r0.ph = 9 then 1 else if r0.ph = 10 then 2 else 0 : Nat) := ⟨_, rfl⟩
  have hsh := shot_spec h3 c.V r0 s0_ ua0 ub0 sw0 c.W.P
  rw [← esn] at hsh
  refine FC.mono hsh ?_
  rintro v' h4 ⟨rfl, hEh4⟩
  have w4 := w3.new hEh4
  have sw4 := sw0.new hEh4
  have ce4 := (ce2.ext hE3 (fun f => f)).ext hEh4 (fun f => f)
  have cm4 := cm3.ext hEh4 (fun f => f)
  have b4 := ((b1.ext hE2 (fun f => f)).ext hE3 (fun f => f)).ext hEh4 (fun f => f)
  have hb1 : h.size < h1.size := b1.lt
  refine S_mv rfl ?_
  refine S_ex rfl rfl ?_
  refine S_ex rfl rfl ?_
  refine S_ex rfl rfl ?_
  refine S_as rfl ?_
  refine S_as rfl ?_
  refine S_as rfl ?_
  refine S_nil (hK4 _ _ (V_keep [0, 1, 3, 4, 7, 11, 12, 13, 14, 15] (by simp only [proj, lk, reduceIte, Nat.reduceEqDiff]; rfl) ?_)); clear hK4
  refine V_sr T.mix (by kernel_rfl) (fun K5 hK5 => ?_)
  refine S_mv rfl ?_
  refine S_mv rfl ?_
  refine S_mv rfl ?_
  refine S_call T.hb29 rfl ?_
  obtain ⟨t4, fo4, ft4, gn4, ax4⟩ := w4.r.ax
  have hlo : ∀ z, c.X + 1 ≤ z → ¬ PTA c.W c.A z := fun z hz e => by rcases e with e | e; (have h9 := (w.s.hW z e).2; omega); (rw [at_def] at e; omega)
  have hpk := apack_spec h4 c.W w4.r.ws c.A c.V.D t4 fo4 ft4 gn4 ax4 (fun z e => (w.s.hW z e).2) (c.X + 1) (some ⟨cx, 0, none⟩) (L.length + 2) L (ce4.ev (by omega)) hl5 hlo lv
  obtain ⟨tx, etx⟩ : ∃ x, x = apT L lv := ⟨_, rfl⟩
  obtain ⟨te, ete⟩ : ∃ x, x = ckF L lv := ⟨_, rfl⟩
  rw [← etx, ← ete] at hpk
  refine FC.mono hpk ?_
  rintro v' h5 ⟨rfl, ws5, ⟨t5, fo5, ax5⟩, hE5⟩
  have sw5 := sw4.ext hE5 (fun z e y => by rcases y with y | y; (exact w.s.dj z y e); (have h9 := (w.s.hV z e).2; rw [at_def] at y; omega))
  have pX : ∀ z, PTA c.W c.A z → z < c.X := fun z e => by rcases e with e | e; (have h9 := (w.s.hW z e).2; omega); (rw [at_def] at e; omega)
  have w5 := w4.low hE5 ⟨ws5, ⟨st0, out0, rw0, r0, s0_, ua0, ub0, sw5, rq0⟩, ⟨t5, fo5, ft4, gn4, ax5⟩, w4.r.mw.ext hE5 (fun y => by rcases y with y | y; (have h9 := (w.s.hW _ y).2; omega); (rw [at_def] at y; omega)) (fun y => by rcases y with y | y; (have h9 := (w.s.hW _ y).2; omega); (rw [at_def] at y; omega))⟩ pX
  have b5 := b4.ext hE5 (fun y => by have h9 := pX _ y; omega)
  have ce5 := ce4.ext hE5 (fun y => by have h9 := pX _ y; omega)
  have cm5 := cm4.ext hE5 (fun y => by have h9 := pX _ y; omega)
  refine S_mv rfl ?_
  refine S_ex rfl rfl ?_
  refine S_ex rfl rfl ?_
  refine S_as rfl ?_
  refine S_as rfl ?_
  refine S_nil (hK5 _ _ (V_keep [1, 3, 4, 7, 11, 12, 13, 14, 15, 16, 17] (by simp only [proj, lk, reduceIte, Nat.reduceEqDiff]; rfl) ?_)); clear hK5
  refine V_seq (fun K6 hK6 => ?_)
  refine V_sr T.mix (by kernel_rfl) (fun K7 hK7 => ?_)
  refine S_ldn T.ag30 rfl ((b5).all rfl) ?_
  refine S_mv rfl ?_
  refine S_mv rfl ?_
  refine S_mv rfl ?_
  refine S_call T.hb30 rfl ?_
  refine FC.mono (still_spec h5 c.V r0 s0_ ua0 ub0 sw5 c.W.P sn esn) ?_
  rintro v' h6 ⟨rfl, hE6⟩
  have w6 := w5.new hE6
  have ce6 := ce5.ext hE6 (fun f => f)
  have cm6 := cm5.ext hE6 (fun f => f)
  refine S_notb rfl ?_
  refine S_nil (hK7 _ _ (V_keep [1, 3, 4, 11, 12, 16, 17, 48] (by simp only [proj, lk, reduceIte, Nat.reduceEqDiff]; rfl) ?_)); clear hK7
  refine V_condb rfl (fun c329 => ?_) (fun c329 => ?_)
  · skip
    cases c329
  · skip
    refine V_skipk [1, 3, 4, 11, 12, 16, 17] (by simp only [proj, lk, reduceIte, Nat.reduceEqDiff]; rfl) ?_
    refine hK6 _ _ ?_; clear hK6
    refine V_sr T.mix (by kernel_rfl) (fun K8 hK8 => ?_)
    refine S_mv rfl ?_
    refine S_mv rfl ?_
    refine S_mv rfl ?_
    refine S_call T.hb31 rfl ?_
    have hpm := mapack_spec h6 c.M c.P c.zz c.kk w6.r.mw 0 (some ⟨cm, 0, none⟩) (L.length + 2) L (cm6.ev (Nat.zero_le _)) hl5 lv
    rw [← etx, ← ete] at hpm
    refine FC.mono hpm ?_
    rintro v' h7 ⟨rfl, hE7⟩
    have w7 := w6.new hE7
    have ce7 := ce6.ext hE7 (fun f => f)
    refine S_mv rfl ?_
    refine S_ex rfl rfl ?_
    refine S_ex rfl rfl ?_
    refine S_as rfl ?_
    refine S_as rfl ?_
    refine S_nil (hK8 _ _ (V_keep [1, 3, 4, 11, 16, 17, 18, 19] (by simp only [proj, lk, reduceIte, Nat.reduceEqDiff]; rfl) ?_)); clear hK8
    refine V_seq (fun K9 hK9 => ?_)
    refine V_sr T.mix (by kernel_rfl) (fun K10 hK10 => ?_)
    refine S_mv rfl ?_
    refine S_call T.hb32 rfl ?_
    refine FC.mono (again_spec h7 c.X Q d L N w7.db w7.kp F I w7.ex w7.em w7.ix w7.im hN) ?_
    rintro v' h8 ⟨rfl, d8, db8, kp8, e1_, e2_, e3_, e4_, e5_, e6_, e7_, e8_, e9_, hE8⟩
    have r8 := w7.r.hi w.s hE8 (fun z e => by rcases e with e | e; (omega); (have h9 := (w.kp.q z e).1; omega))
    have ce8 := ce7.ext hE8 (fun e => by rcases e with e | e; (omega); (have h9 := (w.kp.q cx e).2.1; omega))
    try clear v0 v1 v2 v3 v4 v5 v6 v7 ve vi_ v16 v17 v18 v19 v20 v21 v22 v23 v24 v25 v26 vok
    obtain ⟨v0, v1, v2, v3, v4, v5, v6, v7, ve, vi_, v16, v17, v18, v19, v20, v21, v22, v23, v24, v25, v26, vok⟩ := ddq (db8)
    rw [kp8.ln] at v3
    refine S_notb rfl ?_
    refine S_nil (hK10 _ _ (V_keep [1, 3, 4, 11, 16, 17, 18, 19, 58] (by simp only [proj, lk, reduceIte, Nat.reduceEqDiff]; rfl) ?_)); clear hK10
    refine V_condb rfl (fun c333 => ?_) (fun c333 => ?_)
    · skip
      cases c333
    · skip
      refine V_skipk [1, 3, 4, 11, 16, 17, 18, 19] (by simp only [proj, lk, reduceIte, Nat.reduceEqDiff]; rfl) ?_
      refine hK9 _ _ ?_; clear hK9
      refine V_seq (fun K11 hK11 => ?_)
      refine V_sr T.mix (by kernel_rfl) (fun K12 hK12 => ?_)
      refine S_mv rfl ?_
      refine S_mv rfl ?_
      refine S_bin rfl rfl rfl ?_
      refine S_mv rfl ?_
      refine S_dec (fun g336 => ?_) (fun g336 => ?_)
      · skip
        exact absurd rfl g336
      · skip
        refine S_gt rfl ?_
        refine S_mv rfl ?_
        refine S_gt rfl ?_
        refine S_mv rfl ?_
        refine S_gt rfl ?_
        refine S_bin rfl rfl rfl ?_
        refine S_pf rfl rfl ?_
        refine S_nil (hK12 _ _ (V_keep [1, 3, 4, 11, 18, 19, 66] (by simp only [proj, lk, reduceIte, Nat.reduceEqDiff]; rfl) ?_)); clear hK12
        refine V_condp rfl (fun c336 => ?_) (fun c336 => ?_)
        · skip
          exact absurd rfl c336
        · skip
          refine V_skipk [1, 3, 4, 11, 18, 19] (by simp only [proj, lk, reduceIte, Nat.reduceEqDiff]; rfl) ?_
          refine hK11 _ _ ?_; clear hK11
          refine V_seq (fun K13 hK13 => ?_)
          refine V_sr T.mix (by kernel_rfl) (fun K14 hK14 => ?_)
          refine S_mv rfl ?_
          refine S_mv rfl ?_
          refine S_nc rfl ?_
          first | refine S_fa0 T.f42_3 rfl ?_ | refine S_fa T.f42_3 rfl ?_
          refine S_ldK T.ag37 rfl (fun K' hK' => ?_)
          simp (disch := omega) only [v0, v1, v2, v3, v4, v5, v6, v7, ve, vi_, v16, v17, v18, v19, v20, v21, v22, v23, v24, v25, v26, oP_some, Nat.add_zero]
          refine hK' _ ?_; clear hK' K'
          refine S_call T.hb33 rfl ?_
          refine FC.mono (sameentries_spec h8 0 (some ⟨cx, 0, none⟩) d8.ls.a (L.length + 2) d8.ls.c L (ce8.ev (Nat.zero_le _)) ((own_ev kp8.ls).lo (Nat.zero_le _)) (by omega)) ?_
          rintro v' h' ⟨rfl, rfl⟩
          refine S_notb rfl ?_
          refine S_nil (hK14 _ _ (V_keep [1, 3, 4, 11, 18, 19, 73] (by simp only [proj, lk, reduceIte, Nat.reduceEqDiff]; rfl) ?_)); clear hK14
          refine V_condb rfl (fun c339 => ?_) (fun c339 => ?_)
          · skip
            cases c339
          · skip
            refine V_skipk [1, 3, 4, 11, 18, 19] (by simp only [proj, lk, reduceIte, Nat.reduceEqDiff]; rfl) ?_
            refine hK13 _ _ ?_; clear hK13
            refine V_seq (fun K15 hK15 => ?_)
            refine V_sr T.mix (by kernel_rfl) (fun K16 hK16 => ?_)
            refine S_mv rfl ?_
            refine S_call T.hb34 rfl ?_
            refine FC.mono (spare_spec h8 cx L ce8 hl5) ?_
            rintro v' h' ⟨rfl, rfl⟩
            refine S_notb rfl ?_
            refine S_nil (hK16 _ _ (V_keep [1, 3, 4, 11, 18, 19, 76] (by simp only [proj, lk, reduceIte, Nat.reduceEqDiff]; rfl) ?_)); clear hK16
            refine V_condb rfl (fun c342 => ?_) (fun c342 => ?_)
            · skip
              cases c342
            · skip
              refine V_skipk [1, 3, 4, 11, 18, 19] (by simp only [proj, lk, reduceIte, Nat.reduceEqDiff]; rfl) ?_
              refine hK15 _ _ ?_; clear hK15
              refine V_sr T.mix (by kernel_rfl) (fun K17 hK17 => ?_)
              refine S_mv rfl ?_
              refine S_mv rfl ?_
              refine S_call T.hb35 rfl ?_
              have hnl : blkA d8.ls.a ≠ some cx := fun e => by rw [e4_] at e; have h9 := w.kp.lsb e; omega
              have kpg := kp8.grow (b := cx) (by omega) ce8.lt hnl
              obtain ⟨csx, bx, hzx, _, _⟩ := ce8
              refine FC.mono (tooke_spec h8 c.X _ d8 L (N + 2) db8 kpg ⟨some ⟨cx, 0, none⟩, L.length, L.length + 2⟩ (.inr ⟨cx, csx, rfl, .inr rfl, bx, hzx⟩) (by simp only []; omega)) ?_
              rintro v' h9 ⟨rfl, d9, db9, kp9, sm9, _, hE9⟩
              have r9 := r8.hi w.s hE9 (fun z e => by rcases e with e | e; (omega); (have h9 : cx = z := (by simpa [blkA] using e); omega))
              have hEa : Ext (MS c) h h9 := (((((((((hEh1.mono fun _ f => f.elim).trans (hE2.mono fun _ f => f.elim)).trans (hE3.mono fun _ f => f.elim)).trans (hEh4.mono fun _ f => f.elim)).trans (hE5.mono fun z e => by rcases e with e | e; (exact .inl e); (exact .inr (.inr (.inl e))))).trans (hE6.mono fun _ f => f.elim)).trans (hE7.mono fun _ f => f.elim)).trans (hE8.mono fun z e => ms_hi (by rcases e with e | e; (omega); (have h9 := (w.kp.q z e).1; omega)))).trans (hE9.mono fun z e => ms_hi (by rcases e with e | e; (omega); (have h9 : cx = z := (by simpa [blkA] using e); omega))))
              have y1 : d9.ex = SL.z := sm9.ex.trans e6_
              have y2 : d9.em = SL.z := sm9.em.trans e7_
              have y3 : d9.ix = SL.z := sm9.ix.trans e8_
              have y4 : d9.im = SL.z := sm9.im.trans e9_
              have y5 : d9.nm = d.nm := sm9.nm.trans e1_
              have y6 : d9.dt = d.dt := sm9.dt.trans e2_
              have y7 : d9.rw = d.rw := sm9.rw.trans e3_
              try clear v0 v1 v2 v3 v4 v5 v6 v7 ve vi_ v16 v17 v18 v19 v20 v21 v22 v23 v24 v25 v26 vok
              obtain ⟨v0, v1, v2, v3, v4, v5, v6, v7, ve, vi_, v16, v17, v18, v19, v20, v21, v22, v23, v24, v25, v26, vok⟩ := ddq (db9)
              rw [kp9.ln] at v3
              refine S_nil (hK17 _ _ (V_keep [1, 3, 4, 18, 19] (by simp only [proj, lk, reduceIte, Nat.reduceEqDiff]; rfl) ?_)); clear hK17
              refine V_seq (fun K18 hK18 => ?_)
              refine V_sr T.mix (by kernel_rfl) (fun K19 hK19 => ?_)
              refine S_mv rfl ?_
              refine S_bin rfl rfl rfl ?_
              refine S_nil (hK19 _ _ (V_keep [1, 3, 4, 18, 81] (by simp only [proj, lk, reduceIte, Nat.reduceEqDiff]; rfl) ?_)); clear hK19
              refine V_condp rfl (fun c346 => ?_) (fun c346 => ?_)
              · skip
                refine V_sr T.mix (by kernel_rfl) (fun K20 hK20 => ?_)
                refine S_as rfl ?_
                refine S_nil (hK20 _ _ (V_keep [10] (by simp only [proj, lk, reduceIte, Nat.reduceEqDiff]; rfl) ?_)); clear hK20
                refine V_ret ?_
                refine hR _ _ (ret1 rfl rfl ?_)
                have w9 : LW h9 c (fun z => Q z ∨ z = cx) d9 L [] [] (N + 2) := ⟨w.s, r9, db9, kp9, by rw [y1]; exact EQ.nil _ _, by rw [y2]; exact EQ.nil _ _, by rw [y3]; exact IQ.nil _ _, by rw [y4]; exact IQ.nil _ _, by rw [y5]; exact w.z0, by rw [y6]; exact w.z1, by rw [y7]; exact w.z2⟩
                exact ⟨rfl, w9.e, hEa⟩
              · skip
                refine V_skipk [1, 3, 4, 18] (by simp only [proj, lk, reduceIte, Nat.reduceEqDiff]; rfl) ?_
                refine hK18 _ _ ?_; clear hK18
                refine V_sr T.mix (by kernel_rfl) (fun K21 hK21 => ?_)
                refine S_mv rfl ?_
                refine S_mv rfl ?_
                refine S_nc rfl ?_
                first | refine S_fa0 T.f42_2 rfl ?_ | refine S_fa T.f42_2 rfl ?_
                refine S_st T.sz9 rfl rfl rfl rfl (by simp (disch := omega) only [vok]) ?_
                generalize hh : putH _ _ _ = ha
                have dba : DB ha c.X { d9 with rw := tx } := by rw [← hh]; exact (db9.putA 2 _).cong (arr_ext (dk27 rfl rfl rfl rfl rfl rfl rfl rfl rfl rfl rfl rfl rfl rfl rfl rfl rfl rfl rfl rfl rfl rfl rfl rfl rfl rfl rfl))
                have hEha : Ext (fun z => z = c.X) h9 ha := by rw [← hh]; exact Ext.put _ _ rfl
                clear hh
                try clear v0 v1 v2 v3 v4 v5 v6 v7 ve vi_ v16 v17 v18 v19 v20 v21 v22 v23 v24 v25 v26 vok
                obtain ⟨v0, v1, v2, v3, v4, v5, v6, v7, ve, vi_, v16, v17, v18, v19, v20, v21, v22, v23, v24, v25, v26, vok⟩ := ddq (dba)
                have kpa : KP ha c.X (fun z => Q z ∨ z = cx) { d9 with rw := tx } L (N + 2) := (show KP h9 c.X (fun z => Q z ∨ z = cx) { d9 with rw := tx } L (N + 2) from ⟨kp9.q, kp9.ls, kp9.ln, kp9.l5, kp9.oe, kp9.oi, kp9.fe, kp9.he, kp9.hl, kp9.fi, kp9.hi, kp9.ne, kp9.ni, kp9.ae, kp9.ai⟩).desk hEha
                have ra := r9.hi w.s hEha (fun z e => by omega)
                rw [kpa.ln] at v3
                refine S_nil (hK21 _ _ (V_keep [1, 3, 4, 18] (by simp only [proj, lk, reduceIte, Nat.reduceEqDiff]; rfl) ?_)); clear hK21
                refine V_sr T.mix (by kernel_rfl) (fun K22 hK22 => ?_)
                refine S_mv rfl ?_
                refine S_mv rfl ?_
                refine S_nc rfl ?_
                first | refine S_fa0 T.f42_3 rfl ?_ | refine S_fa T.f42_3 rfl ?_
                refine S_ldK T.ag37 rfl (fun K' hK' => ?_)
                simp (disch := omega) only [v0, v1, v2, v3, v4, v5, v6, v7, ve, vi_, v16, v17, v18, v19, v20, v21, v22, v23, v24, v25, v26, oP_some, Nat.add_zero]
                refine hK' _ ?_; clear hK' K'
                refine S_mv rfl ?_
                refine S_mv rfl ?_
                refine S_call T.hb36 rfl ?_
                have hck : ckF L lv = 0 := by omega
                have htx : tx = arF lv L := by rw [etx]; unfold apT; rw [if_pos hck]
                refine FC.mono (akeeps_spec ha c.M (c.X + 1) d9.ls.a d9.ls.c L (own_ev kpa.ls) lv hck tx htx) ?_
                rintro v' hb ⟨rfl, hEb⟩
                refine S_as rfl ?_
                refine S_nil (hK22 _ _ (V_keep [10] (by simp only [proj, lk, reduceIte, Nat.reduceEqDiff]; rfl) ?_)); clear hK22
                refine V_ret ?_
                refine hR _ _ (ret1 rfl rfl ?_)
                have hsz := arF_le hck
                have wa : LW ha c (fun z => Q z ∨ z = cx) { d9 with rw := tx } L [] [] (N + 2) := ⟨w.s, ra, dba, kpa, by show EQ ha _ d9.ex []; rw [y1]; exact EQ.nil _ _, by show EQ ha _ d9.em []; rw [y2]; exact EQ.nil _ _, by show IQ ha _ d9.ix []; rw [y3]; exact IQ.nil _ _, by show IQ ha _ d9.im []; rw [y4]; exact IQ.nil _ _, by show d9.nm.size ≤ _; rw [y5]; exact w.z0, by show d9.dt.size ≤ _; rw [y6]; exact w.z1, by show tx.size ≤ _; rw [htx]; omega⟩
                exact ⟨rfl, (wa.new hEb).e, (hEa.trans (hEha.mono fun z e => ms_hi (by omega))).trans (hEb.mono fun _ f => f.elim)⟩
set_option maxHeartbeats 6400000 in
theorem samelist_spec (h : Heap) (c : CF) (Q : Nat → Prop) (d : DR) (L F : List En) (I : List In) (N : Nat) (w : LW h c Q d L F I N) (hN : N ≤ 8999999999990) :
    FC Tryz.prog 20 (#[.pointer (some ⟨c.A, 0, none⟩), .pointer (some ⟨c.M, 0, none⟩), .agg (bel c.W.P c.V.D), .pointer (some ⟨c.X, 0, none⟩)] : Array Value) h fun rv h' => rv = .bool true ∧ LWE h' c (N + 2) ∧ Ext (MS c) h h' := by
  have s1 := w.s.a1
  have s2 := w.s.a2
  have s3 := w.s.a3
  have s0 := w.s.b0
  have hXl := w.xlt
  refine FC_of [(0, .pointer (some ⟨c.A, 0, none⟩)), (1, .pointer (some ⟨c.M, 0, none⟩)), (2, .agg (bel c.W.P c.V.D)), (3, .pointer (some ⟨c.X, 0, none⟩))] Tryz.func20 rfl Tryz.ntmps20 (by simp) rfl (fun R hR => ?_)
  refine V_sr T.mix (by kernel_rfl) (fun K1 hK1 => ?_)
  refine S_boxA rfl ?_
  generalize hh : Array.push h _ = h1
  have b1 : B h1 h.size (bel c.W.P c.V.D) 30 := by rw [← hh]; exact B.new _ _ _
  have hEh1 : Ext (fun _ => False) h h1 := by rw [← hh]; exact Ext.push _ _ _
  clear hh
  have w1 := w.new hEh1
  have hs1 := hEh1.1
  have hb1 : h.size < h1.size := b1.lt
  refine S_as rfl ?_
  refine S_nil (hK1 _ _ (V_keep [0, 1, 3, 6] (by simp only [proj, lk, reduceIte, Nat.reduceEqDiff]; rfl) ?_)); clear hK1
  refine V_sr T.mix (by kernel_rfl) (fun K2 hK2 => ?_)
  refine S_ldn T.ag30 rfl ((b1).all rfl) ?_
  refine S_call T.hb28 rfl ?_
  obtain ⟨st0, out0, rw0, r0, s0_, ua0, ub0, sw0, rq0⟩ := w1.r.ds
  obtain ⟨sn, esn⟩ : ∃ x, x = (if r0.ph = 9 then 1 else if r0.ph = 10 then 2 else 0 : Nat) := ⟨_, rfl⟩
  have hsh := shot_spec h1 c.V r0 s0_ ua0 ub0 sw0 c.W.P
  rw [← esn] at hsh
  refine FC.mono hsh ?_
  rintro v' h2 ⟨rfl, hEh2⟩
  have w2 := w1.new hEh2
  have sw2 := sw0.new hEh2
  have b2 := b1.ext hEh2 (fun f => f)
  have hs2 := hEh2.1
  try clear v0 v1 v2 v3 v4 v5 v6 v7 ve vi_ v16 v17 v18 v19 v20 v21 v22 v23 v24 v25 v26 vok
  obtain ⟨v0, v1, v2, v3, v4, v5, v6, v7, ve, vi_, v16, v17, v18, v19, v20, v21, v22, v23, v24, v25, v26, vok⟩ := ddq (w2.db)
  refine S_mv rfl ?_
  refine S_ex rfl rfl ?_
  refine S_ex rfl rfl ?_
  refine S_ex rfl rfl ?_
  refine S_as rfl ?_
  refine S_as rfl ?_
  refine S_as rfl ?_
  refine S_nil (hK2 _ _ (V_keep [0, 1, 3, 6, 9, 10, 11] (by simp only [proj, lk, reduceIte, Nat.reduceEqDiff]; rfl) ?_)); clear hK2
  refine V_sr T.mix (by kernel_rfl) (fun K3 hK3 => ?_)
  refine S_mv rfl ?_
  refine S_mv rfl ?_
  refine S_nc rfl ?_
  first | refine S_fa0 T.f42_2 rfl ?_ | refine S_fa T.f42_2 rfl ?_
  refine S_ldK T.ag9 rfl (fun K' hK' => ?_)
  simp (disch := omega) only [v0, v1, v2, v3, v4, v5, v6, v7, ve, vi_, v16, v17, v18, v19, v20, v21, v22, v23, v24, v25, v26, oP_some, Nat.add_zero]
  refine hK' _ ?_; clear hK' K'
  refine S_call T.hb37 rfl ?_
  obtain ⟨t4, fo4, ft4, gn4, ax4⟩ := w2.r.ax
  obtain ⟨le_, ele⟩ : ∃ x, x = (liE d.rw).1 := ⟨_, rfl⟩
  obtain ⟨lp, elp⟩ : ∃ x, x = (liE d.rw).2 := ⟨_, rfl⟩
  have hal := alist_spec h2 c.A c.W.P c.V.D t4 fo4 ft4 gn4 ax4 d.rw
  rw [← ele, ← elp] at hal
  refine FC.mono hal ?_
  rintro v' h4 ⟨pa, pL, hpL, rfl, pia, ⟨ft5, ax5⟩, hE4⟩
  have sw4 := sw2.ext hE4 (fun z e y => by have h9 := (w.s.hV z e).2; rw [at_def] at y; omega)
  have w4 := w2.low hE4 ⟨w2.r.ws.ext hE4 (fun z e y => by have h9 := (w.s.hW z e).2; rw [at_def] at y; omega), ⟨st0, out0, rw0, r0, s0_, ua0, ub0, sw4, rq0⟩, ⟨t4, fo4, ft5, gn4, ax5⟩, w2.r.mw.ext hE4 (fun y => by rw [at_def] at y; omega) (fun y => by rw [at_def] at y; omega)⟩ (fun z e => by rw [at_def] at e; omega)
  have b4 := b2.ext hE4 (fun y => by rw [at_def] at y; omega)
  have hpl := liL_le (L := pL) (raw := d.rw) (by rw [← ele]; exact hpL)
  have hs4 := hE4.1
  refine S_mv rfl ?_
  refine S_ex rfl rfl ?_
  refine S_ex rfl rfl ?_
  refine S_ex rfl rfl ?_
  refine S_as rfl ?_
  refine S_as rfl ?_
  refine S_as rfl ?_
  refine S_nil (hK3 _ _ (V_keep [1, 3, 6, 9, 10, 11, 12, 13, 14] (by simp only [proj, lk, reduceIte, Nat.reduceEqDiff]; rfl) ?_)); clear hK3
  refine V_seq (fun K4 hK4 => ?_)
  refine V_sr T.mix (by kernel_rfl) (fun K5 hK5 => ?_)
  refine S_ldn T.ag30 rfl ((b4).all rfl) ?_
  refine S_mv rfl ?_
  refine S_mv rfl ?_
  refine S_mv rfl ?_
  refine S_call T.hb30 rfl ?_
  refine FC.mono (still_spec h4 c.V r0 s0_ ua0 ub0 sw4 c.W.P sn esn) ?_
  rintro v' h5 ⟨rfl, hE5⟩
  have w5 := w4.new hE5
  have hs5 := hE5.1
  try clear v0 v1 v2 v3 v4 v5 v6 v7 ve vi_ v16 v17 v18 v19 v20 v21 v22 v23 v24 v25 v26 vok
  obtain ⟨v0, v1, v2, v3, v4, v5, v6, v7, ve, vi_, v16, v17, v18, v19, v20, v21, v22, v23, v24, v25, v26, vok⟩ := ddq (w5.db)
  refine S_notb rfl ?_
  refine S_nil (hK5 _ _ (V_keep [1, 3, 12, 13, 14, 39] (by simp only [proj, lk, reduceIte, Nat.reduceEqDiff]; rfl) ?_)); clear hK5
  refine V_condb rfl (fun c357 => ?_) (fun c357 => ?_)
  · skip
    cases c357
  · skip
    refine V_skipk [1, 3, 12, 13, 14] (by simp only [proj, lk, reduceIte, Nat.reduceEqDiff]; rfl) ?_
    refine hK4 _ _ ?_; clear hK4
    refine V_sr T.mix (by kernel_rfl) (fun K6 hK6 => ?_)
    refine S_mv rfl ?_
    refine S_mv rfl ?_
    refine S_nc rfl ?_
    first | refine S_fa0 T.f42_2 rfl ?_ | refine S_fa T.f42_2 rfl ?_
    refine S_ldK T.ag9 rfl (fun K' hK' => ?_)
    simp (disch := omega) only [v0, v1, v2, v3, v4, v5, v6, v7, ve, vi_, v16, v17, v18, v19, v20, v21, v22, v23, v24, v25, v26, oP_some, Nat.add_zero]
    refine hK' _ ?_; clear hK' K'
    refine S_call T.hb38 rfl ?_
    have hml := mlist_spec h5 c.M d.rw
    rw [← ele, ← elp] at hml
    refine FC.mono hml ?_
    rintro v' h6 ⟨qa, qL, hqL, rfl, qia, hE6⟩
    have hqp : qL = pL := by rw [hqL, hpL]
    subst hqp
    have w6 := w5.new hE6
    have p6 := (pia.ext hE5 (fun _ _ _ f => f)).ext hE6 (fun _ _ _ f => f)
    have hs6 := hE6.1
    refine S_mv rfl ?_
    refine S_ex rfl rfl ?_
    refine S_ex rfl rfl ?_
    refine S_ex rfl rfl ?_
    refine S_as rfl ?_
    refine S_as rfl ?_
    refine S_as rfl ?_
    refine S_nil (hK6 _ _ (V_keep [3, 12, 13, 14, 15, 16, 17] (by simp only [proj, lk, reduceIte, Nat.reduceEqDiff]; rfl) ?_)); clear hK6
    refine V_seq (fun K7 hK7 => ?_)
    refine V_sr T.mix (by kernel_rfl) (fun K8 hK8 => ?_)
    refine S_mv rfl ?_
    refine S_call T.hb32 rfl ?_
    refine FC.mono (again_spec h6 c.X Q d L N w6.db w6.kp F I w6.ex w6.em w6.ix w6.im hN) ?_
    rintro v' h8 ⟨rfl, d8, db8, kp8, e1_, e2_, e3_, e4_, e5_, e6_, e7_, e8_, e9_, hE8⟩
    have r8 := w6.r.hi w.s hE8 (fun z e => by rcases e with e | e; (omega); (have h9 := (w.kp.q z e).1; omega))
    have nq : ∀ z, h.size ≤ z → ¬ (z = c.X ∨ Q z) := fun z hz e => by rcases e with e | e; (omega); (have h9 := (w.kp.q z e).2.1; omega)
    try clear v0 v1 v2 v3 v4 v5 v6 v7 ve vi_ v16 v17 v18 v19 v20 v21 v22 v23 v24 v25 v26 vok
    obtain ⟨v0, v1, v2, v3, v4, v5, v6, v7, ve, vi_, v16, v17, v18, v19, v20, v21, v22, v23, v24, v25, v26, vok⟩ := ddq (db8)
    have p8 := p6.ext hE8 (fun z hz e => nq z (by omega))
    have q8 := qia.ext hE8 (fun z hz e => nq z (by omega))
    have hs8 := hE8.1
    refine S_notb rfl ?_
    refine S_nil (hK8 _ _ (V_keep [3, 12, 13, 14, 15, 16, 17, 52] (by simp only [proj, lk, reduceIte, Nat.reduceEqDiff]; rfl) ?_)); clear hK8
    refine V_condb rfl (fun c361 => ?_) (fun c361 => ?_)
    · skip
      cases c361
    · skip
      refine V_skipk [3, 12, 13, 14, 15, 16, 17] (by simp only [proj, lk, reduceIte, Nat.reduceEqDiff]; rfl) ?_
      refine hK7 _ _ ?_; clear hK7
      refine V_seq (fun K9 hK9 => ?_)
      refine V_sr T.mix (by kernel_rfl) (fun K10 hK10 => ?_)
      refine S_mv rfl ?_
      refine S_mv rfl ?_
      refine S_bin rfl rfl rfl ?_
      refine S_mv rfl ?_
      refine S_dec (fun g364 => ?_) (fun g364 => ?_)
      · skip
        exact absurd rfl g364
      · skip
        refine S_gt rfl ?_
        refine S_mv rfl ?_
        refine S_gt rfl ?_
        refine S_mv rfl ?_
        refine S_gt rfl ?_
        refine S_bin rfl rfl rfl ?_
        refine S_pf rfl rfl ?_
        refine S_mv rfl ?_
        refine S_dec (fun g364a => ?_) (fun g364a => ?_)
        · skip
          exact absurd rfl g364a
        · skip
          refine S_gt rfl ?_
          refine S_mv rfl ?_
          refine S_gt rfl ?_
          refine S_capl T.el38 rfl ?_
          refine S_gt rfl ?_
          refine S_mv rfl ?_
          refine S_gt rfl ?_
          refine S_lenl T.el38 rfl ?_
          refine S_gt rfl ?_
          refine S_bin rfl rfl rfl ?_
          refine S_pf rfl rfl ?_
          refine S_nil (hK10 _ _ (V_keep [3, 12, 15, 67] (by simp only [proj, lk, reduceIte, Nat.reduceEqDiff]; rfl) ?_)); clear hK10
          refine V_condp rfl (fun c364 => ?_) (fun c364 => ?_)
          · skip
            exact absurd rfl c364
          · skip
            refine V_skipk [3, 12, 15] (by simp only [proj, lk, reduceIte, Nat.reduceEqDiff]; rfl) ?_
            refine hK9 _ _ ?_; clear hK9
            refine V_seq (fun K11 hK11 => ?_)
            refine V_sr T.mix (by kernel_rfl) (fun K12 hK12 => ?_)
            refine S_mv rfl ?_
            refine S_mv rfl ?_
            refine S_call T.hb39 rfl ?_
            refine FC.mono (sameinfos_spec h8 pa qa qL.length qL.length qL p8.iv q8.iv (by omega)) ?_
            rintro v' h' ⟨rfl, rfl⟩
            obtain ⟨Q2, eQ2⟩ : ∃ Z : Nat → Prop, Z = fun z => Q z ∨ blkA pa = some z ∨ blkA qa = some z := ⟨_, rfl⟩
            have hq2 : ∀ b, Q2 b → c.X < b ∧ b < h8.size ∧ blkA d8.ls.a ≠ some b := fun b q => by
              rw [eQ2] at q
              rcases q with q | q | q
              · exact kp8.q b q
              · have k1 := p8.blk q
                refine ⟨by omega, k1.2, fun e => ?_⟩
                rw [e4_] at e; have h9 := w.kp.lsb e; omega
              · have k1 := q8.blk q
                refine ⟨by omega, k1.2, fun e => ?_⟩
                rw [e4_] at e; have h9 := w.kp.lsb e; omega
            have kpq := kp8.mono (Q' := Q2) (fun z q => by rw [eQ2]; exact .inl q) hq2
            refine S_notb rfl ?_
            refine S_nil (hK12 _ _ (V_keep [3, 12, 15, 71] (by simp only [proj, lk, reduceIte, Nat.reduceEqDiff]; rfl) ?_)); clear hK12
            refine V_condb rfl (fun c367 => ?_) (fun c367 => ?_)
            · skip
              cases c367
            · skip
              refine V_skipk [3, 12, 15] (by simp only [proj, lk, reduceIte, Nat.reduceEqDiff]; rfl) ?_
              refine hK11 _ _ ?_; clear hK11
              refine V_sr T.mix (by kernel_rfl) (fun K13 hK13 => ?_)
              refine S_mv rfl ?_
              refine S_mv rfl ?_
              refine S_nc rfl ?_
              first | refine S_fa0 T.f42_6 rfl ?_ | refine S_fa T.f42_6 rfl ?_
              refine S_st T.sz38 rfl rfl rfl rfl (by simp (disch := omega) only [vok]) ?_
              generalize hh : putH _ _ _ = h9
              have db9 : DB h9 c.X { d8 with ix := ⟨pa, qL.length, qL.length⟩ } := by rw [← hh]; exact (db8.putA 6 _).cong (arr_ext (dk27 rfl rfl rfl rfl rfl rfl rfl rfl rfl rfl rfl rfl rfl rfl rfl rfl rfl rfl rfl rfl rfl rfl rfl rfl rfl rfl rfl))
              have hEh9 : Ext (fun z => z = c.X) h8 h9 := by rw [← hh]; exact Ext.put _ _ rfl
              clear hh
              try clear v0 v1 v2 v3 v4 v5 v6 v7 ve vi_ v16 v17 v18 v19 v20 v21 v22 v23 v24 v25 v26 vok
              obtain ⟨v0, v1, v2, v3, v4, v5, v6, v7, ve, vi_, v16, v17, v18, v19, v20, v21, v22, v23, v24, v25, v26, vok⟩ := ddq (db9)
              refine S_nil (hK13 _ _ (V_keep [3, 15] (by simp only [proj, lk, reduceIte, Nat.reduceEqDiff]; rfl) ?_)); clear hK13
              refine V_sr T.mix (by kernel_rfl) (fun K14 hK14 => ?_)
              refine S_mv rfl ?_
              refine S_mv rfl ?_
              refine S_nc rfl ?_
              first | refine S_fa0 T.f42_7 rfl ?_ | refine S_fa T.f42_7 rfl ?_
              refine S_st T.sz38 rfl rfl rfl rfl (by simp (disch := omega) only [vok]) ?_
              generalize hh : putH _ _ _ = ha
              have dba : DB ha c.X { d8 with ix := ⟨pa, qL.length, qL.length⟩, im := ⟨qa, qL.length, qL.length⟩ } := by rw [← hh]; exact (db9.putA 7 _).cong (arr_ext (dk27 rfl rfl rfl rfl rfl rfl rfl rfl rfl rfl rfl rfl rfl rfl rfl rfl rfl rfl rfl rfl rfl rfl rfl rfl rfl rfl rfl))
              have hEha : Ext (fun z => z = c.X) h9 ha := by rw [← hh]; exact Ext.put _ _ rfl
              clear hh
              try clear v0 v1 v2 v3 v4 v5 v6 v7 ve vi_ v16 v17 v18 v19 v20 v21 v22 v23 v24 v25 v26 vok
              obtain ⟨v0, v1, v2, v3, v4, v5, v6, v7, ve, vi_, v16, v17, v18, v19, v20, v21, v22, v23, v24, v25, v26, vok⟩ := ddq (dba)
              refine S_nil (hK14 _ _ (V_keep [] (by simp only [proj, lk, reduceIte, Nat.reduceEqDiff]; rfl) ?_)); clear hK14
              refine V_sr T.mix (by kernel_rfl) (fun K15 hK15 => ?_)
              refine S_as rfl ?_
              refine S_nil (hK15 _ _ (V_keep [8] (by simp only [proj, lk, reduceIte, Nat.reduceEqDiff]; rfl) ?_)); clear hK15
              refine V_ret ?_
              refine hR _ _ (ret1 rfl rfl ?_)
              have hE8a := hEh9.trans hEha
              have hXq : ∀ z, Q2 z → ¬ (z = c.X) := fun z q e => by have h9 := (hq2 z q).1; omega
              have kpa : KP ha c.X Q2 { d8 with ix := ⟨pa, qL.length, qL.length⟩, im := ⟨qa, qL.length, qL.length⟩ } L (N + 2) := (show KP h8 c.X Q2 { d8 with ix := ⟨pa, qL.length, qL.length⟩, im := ⟨qa, qL.length, qL.length⟩ } L (N + 2) from ⟨kpq.q, kpq.ls, kpq.ln, kpq.l5, kpq.oe, kpq.oi, kpq.fe, kpq.he, kpq.hl, kpq.fi, kpq.hi, kpq.ne, kpq.ni, kpq.ae, kpq.ai⟩).desk hE8a
              have ra := r8.hi w.s hE8a (fun z e => by omega)
              have ixa := (p8.iq (Q := Q2) (fun z e => by rw [eQ2]; exact .inr (.inl e)) (by omega)).ext hE8a hXq
              have ima := (q8.iq (Q := Q2) (fun z e => by rw [eQ2]; exact .inr (.inr e)) (by omega)).ext hE8a hXq
              have wa : LW ha c Q2 { d8 with ix := ⟨pa, qL.length, qL.length⟩, im := ⟨qa, qL.length, qL.length⟩ } L [] qL (N + 2) := ⟨w.s, ra, dba, kpa, by show EQ ha _ d8.ex []; rw [e6_]; exact EQ.nil _ _, by show EQ ha _ d8.em []; rw [e7_]; exact EQ.nil _ _, ixa, ima, by show d8.nm.size ≤ _; rw [e1_]; exact w.z0, by show d8.dt.size ≤ _; rw [e2_]; exact w.z1, by show d8.rw.size ≤ _; rw [e3_]; exact w.z2⟩
              exact ⟨rfl, wa.e, ((((((hEh1.mono fun _ f => f.elim).trans (hEh2.mono fun _ f => f.elim)).trans (hE4.mono fun z e => .inr (.inr (.inl e)))).trans (hE5.mono fun _ f => f.elim)).trans (hE6.mono fun _ f => f.elim)).trans (hE8.mono fun z e => ms_hi (by rcases e with e | e; (omega); (have h9 := (w.kp.q z e).1; omega)))).trans (hE8a.mono fun z e => ms_hi (by omega))⟩
set_option maxHeartbeats 6400000 in
theorem sameunpack_spec (h : Heap) (c : CF) (Q : Nat → Prop) (d : DR) (L F : List En) (I : List In) (N : Nat) (w : LW h c Q d L F I N) (hN : N ≤ 8999999999990) :
    FC Tryz.prog 21 (#[.pointer (some ⟨c.A, 0, none⟩), .pointer (some ⟨c.M, 0, none⟩), .agg (bel c.W.P c.V.D), .pointer (some ⟨c.X, 0, none⟩)] : Array Value) h fun rv h' => rv = .bool true ∧ LWE h' c (N + 2) ∧ Ext (MS c) h h' := by
  have s1 := w.s.a1
  have s2 := w.s.a2
  have s3 := w.s.a3
  have s0 := w.s.b0
  have hXl := w.xlt
  refine FC_of [(0, .pointer (some ⟨c.A, 0, none⟩)), (1, .pointer (some ⟨c.M, 0, none⟩)), (2, .agg (bel c.W.P c.V.D)), (3, .pointer (some ⟨c.X, 0, none⟩))] Tryz.func21 rfl Tryz.ntmps21 (by simp) rfl (fun R hR => ?_)
  refine V_sr T.mix (by kernel_rfl) (fun K1 hK1 => ?_)
  refine S_boxA rfl ?_
  generalize hh : Array.push h _ = h1
  have b1 : B h1 h.size (bel c.W.P c.V.D) 30 := by rw [← hh]; exact B.new _ _ _
  have hEh1 : Ext (fun _ => False) h h1 := by rw [← hh]; exact Ext.push _ _ _
  clear hh
  have w1 := w.new hEh1
  have hs1 := hEh1.1
  have hb1 : h.size < h1.size := b1.lt
  refine S_as rfl ?_
  refine S_nil (hK1 _ _ (V_keep [0, 1, 3, 6] (by simp only [proj, lk, reduceIte, Nat.reduceEqDiff]; rfl) ?_)); clear hK1
  refine V_sr T.mix (by kernel_rfl) (fun K2 hK2 => ?_)
  refine S_ldn T.ag30 rfl ((b1).all rfl) ?_
  refine S_call T.hb28 rfl ?_
  obtain ⟨st0, out0, rw0, r0, s0_, ua0, ub0, sw0, rq0⟩ := w1.r.ds
  obtain ⟨sn, esn⟩ : ∃ x, x = (if r0.ph = 9 then 1 else if r0.ph = 10 then 2 else 0 : Nat) := ⟨_, rfl⟩
  have hsh := shot_spec h1 c.V r0 s0_ ua0 ub0 sw0 c.W.P
  rw [← esn] at hsh
  refine FC.mono hsh ?_
  rintro v' h2 ⟨rfl, hEh2⟩
  have w2 := w1.new hEh2
  have sw2 := sw0.new hEh2
  have b2 := b1.ext hEh2 (fun f => f)
  have hs2 := hEh2.1
  try clear v0 v1 v2 v3 v4 v5 v6 v7 ve vi_ v16 v17 v18 v19 v20 v21 v22 v23 v24 v25 v26 vok
  obtain ⟨v0, v1, v2, v3, v4, v5, v6, v7, ve, vi_, v16, v17, v18, v19, v20, v21, v22, v23, v24, v25, v26, vok⟩ := ddq (w2.db)
  refine S_mv rfl ?_
  refine S_ex rfl rfl ?_
  refine S_ex rfl rfl ?_
  refine S_ex rfl rfl ?_
  refine S_as rfl ?_
  refine S_as rfl ?_
  refine S_as rfl ?_
  refine S_nil (hK2 _ _ (V_keep [0, 1, 3, 6, 9, 10, 11] (by simp only [proj, lk, reduceIte, Nat.reduceEqDiff]; rfl) ?_)); clear hK2
  refine V_sr T.mix (by kernel_rfl) (fun K3 hK3 => ?_)
  refine S_mv rfl ?_
  refine S_mv rfl ?_
  refine S_nc rfl ?_
  first | refine S_fa0 T.f42_2 rfl ?_ | refine S_fa T.f42_2 rfl ?_
  refine S_ldK T.ag9 rfl (fun K' hK' => ?_)
  simp (disch := omega) only [v0, v1, v2, v3, v4, v5, v6, v7, ve, vi_, v16, v17, v18, v19, v20, v21, v22, v23, v24, v25, v26, oP_some, Nat.add_zero]
  refine hK' _ ?_; clear hK' K'
  refine S_call T.hb40 rfl ?_
  obtain ⟨t4, fo4, ft4, gn4, ax4⟩ := w2.r.ax
  obtain ⟨ue, eue⟩ : ∃ x, x = (unG d.rw).1 := ⟨_, rfl⟩
  obtain ⟨up, eup⟩ : ∃ x, x = (unG d.rw).2 := ⟨_, rfl⟩
  have hal := aunpack_spec h2 c.V c.A c.W.P t4 fo4 ft4 gn4 ax4 st0 out0 ⟨rw0, r0, s0_, ua0, ub0, sw2, rq0⟩ (fun z e => (w.s.hV z e).2) d.rw
  rw [← eue, ← eup] at hal
  refine FC.mono hal ?_
  rintro v' h3 ⟨pa, pL, hpL, rfl, pia, ⟨ft5, gn5, ax5⟩, hfr, ⟨st1, out1, ds3, hds3⟩, hE3⟩
  have dX : ∀ z, DTA c.V c.A z → c.B0 ≤ z ∧ z < c.X := fun z e => by rcases e with e | e; (have h9 := w.s.hV z e; omega); (rw [at_def] at e; omega)
  have w3 := w2.low hE3 ⟨w2.r.ws.ext hE3 (fun z e y => by rcases y with y | y; (exact w.s.dj z e y); (have h9 := (w.s.hW z e).2; rw [at_def] at y; omega)), ⟨st1, out1, ds3⟩, ⟨t4, fo4, ft5, gn5, ax5⟩, w2.r.mw.ext hE3 (fun y => by rcases y with y | y; (have h9 := (w.s.hV _ y).2; omega); (rw [at_def] at y; omega)) (fun y => by rcases y with y | y; (have h9 := (w.s.hV _ y).2; omega); (rw [at_def] at y; omega))⟩ (fun z e => (dX z e).2)
  have b3 := b2.ext hE3 (fun y => by have h9 := dX _ y; omega)
  have hpl := unL_le (L := pL) (raw := d.rw) (by rw [← eue]; exact hpL)
  have hs3 := hE3.1
  try clear v0 v1 v2 v3 v4 v5 v6 v7 ve vi_ v16 v17 v18 v19 v20 v21 v22 v23 v24 v25 v26 vok
  obtain ⟨v0, v1, v2, v3, v4, v5, v6, v7, ve, vi_, v16, v17, v18, v19, v20, v21, v22, v23, v24, v25, v26, vok⟩ := ddq (w3.db)
  refine S_mv rfl ?_
  refine S_ex rfl rfl ?_
  refine S_ex rfl rfl ?_
  refine S_ex rfl rfl ?_
  refine S_as rfl ?_
  refine S_as rfl ?_
  refine S_as rfl ?_
  refine S_nil (hK3 _ _ (V_keep [1, 3, 6, 9, 10, 11, 12, 13, 14] (by simp only [proj, lk, reduceIte, Nat.reduceEqDiff]; rfl) ?_)); clear hK3
  refine V_sr T.mix (by kernel_rfl) (fun K4 hK4 => ?_)
  refine S_mv rfl ?_
  refine S_mv rfl ?_
  refine S_nc rfl ?_
  first | refine S_fa0 T.f42_2 rfl ?_ | refine S_fa T.f42_2 rfl ?_
  refine S_ldK T.ag9 rfl (fun K' hK' => ?_)
  simp (disch := omega) only [v0, v1, v2, v3, v4, v5, v6, v7, ve, vi_, v16, v17, v18, v19, v20, v21, v22, v23, v24, v25, v26, oP_some, Nat.add_zero]
  refine hK' _ ?_; clear hK' K'
  refine S_call T.hb38 rfl ?_
  obtain ⟨le_, ele⟩ : ∃ x, x = (liE d.rw).1 := ⟨_, rfl⟩
  obtain ⟨lp, elp⟩ : ∃ x, x = (liE d.rw).2 := ⟨_, rfl⟩
  have hml := mlist_spec h3 c.M d.rw
  rw [← ele, ← elp] at hml
  refine FC.mono hml ?_
  rintro v' h4 ⟨la, lL, _, rfl, _, hE4⟩
  have w4 := w3.new hE4
  have b4 := b3.ext hE4 (fun f => f)
  have p4 := pia.ext hE4 (fun _ _ _ f => f)
  have ds4 := ds3.new hE4
  have hs4 := hE4.1
  refine S_mv rfl ?_
  refine S_ex rfl rfl ?_
  refine S_ex rfl rfl ?_
  refine S_ex rfl rfl ?_
  refine S_as rfl ?_
  refine S_as rfl ?_
  refine S_as rfl ?_
  refine S_nil (hK4 _ _ (V_keep [1, 3, 6, 9, 10, 11, 12, 13, 14, 16] (by simp only [proj, lk, reduceIte, Nat.reduceEqDiff]; rfl) ?_)); clear hK4
  refine V_seqJ (fun l h' => ∃ (h5 : Heap), (Ext (fun _ => False) h4 h5) ∧ l = [(1, .pointer (some ⟨c.M, 0, none⟩)), (3, .pointer (some ⟨c.X, 0, none⟩)), (6, .pointer (some ⟨h.size, 0, none⟩)), (12, .slice pa pL.length pL.length), (13, .int .i64 (ue : Int)), (14, .int .i64 (up : Int))] ∧ h5 = h') ?_ ?_
  · skip
    refine V_sr T.mix (by kernel_rfl) (fun K6 hK6 => ?_)
    refine S_mv rfl ?_
    refine S_bin rfl rfl rfl ?_
    refine S_nil (hK6 _ _ (V_keep [1, 3, 6, 9, 10, 11, 12, 13, 14, 48] (by simp only [proj, lk, reduceIte, Nat.reduceEqDiff]; rfl) ?_)); clear hK6
    refine V_condp rfl (fun c391 => ?_) (fun c391 => ?_)
    · skip
      refine V_sr T.mix (by kernel_rfl) (fun K7 hK7 => ?_)
      refine S_ldn T.ag30 rfl ((b4).all rfl) ?_
      refine S_mv rfl ?_
      refine S_mv rfl ?_
      refine S_mv rfl ?_
      refine S_call T.hb30 rfl ?_
      have hE23 := hfr (by rw [← ele]; omega)
      have sw4 := (sw2.ext hE23 (fun z e y => by have h9 := (w.s.hV z e).2; rw [at_def] at y; omega)).new hE4
      refine FC.mono (still_spec h4 c.V r0 s0_ ua0 ub0 sw4 c.W.P sn esn) ?_
      rintro v' h5 ⟨rfl, hE5⟩
      refine S_notb rfl ?_
      refine S_nil (hK7 _ _ (V_keep [1, 3, 6, 12, 13, 14, 54] (by simp only [proj, lk, reduceIte, Nat.reduceEqDiff]; rfl) ?_)); clear hK7
      refine V_condb rfl (fun c392 => ?_) (fun c392 => ?_)
      · skip
        cases c392
      · skip
        refine V_skipk [1, 3, 6, 12, 13, 14] (by simp only [proj, lk, reduceIte, Nat.reduceEqDiff]; rfl) ?_
        exact ⟨h5, hE5, rfl, rfl⟩
    · skip
      refine V_skipk [1, 3, 6, 12, 13, 14] (by simp only [proj, lk, reduceIte, Nat.reduceEqDiff]; rfl) ?_
      exact ⟨h4, Ext.refl _ _, rfl, rfl⟩
  rintro l h' ⟨h5, hE5, rfl, rfl⟩
  have w5 := w4.new hE5
  have b5 := b4.ext hE5 (fun f => f)
  have p5 := p4.ext hE5 (fun _ _ _ f => f)
  have ds5 := ds4.new hE5
  have hs5 := hE5.1
  try clear v0 v1 v2 v3 v4 v5 v6 v7 ve vi_ v16 v17 v18 v19 v20 v21 v22 v23 v24 v25 v26 vok
  obtain ⟨v0, v1, v2, v3, v4, v5, v6, v7, ve, vi_, v16, v17, v18, v19, v20, v21, v22, v23, v24, v25, v26, vok⟩ := ddq (w5.db)
  refine V_sr T.mix (by kernel_rfl) (fun K8 hK8 => ?_)
  refine S_mv rfl ?_
  refine S_mv rfl ?_
  refine S_nc rfl ?_
  first | refine S_fa0 T.f42_2 rfl ?_ | refine S_fa T.f42_2 rfl ?_
  refine S_ldK T.ag9 rfl (fun K' hK' => ?_)
  simp (disch := omega) only [v0, v1, v2, v3, v4, v5, v6, v7, ve, vi_, v16, v17, v18, v19, v20, v21, v22, v23, v24, v25, v26, oP_some, Nat.add_zero]
  refine hK' _ ?_; clear hK' K'
  refine S_call T.hb41 rfl ?_
  have hml := munpack_spec h5 c.M d.rw
  rw [← eue, ← eup] at hml
  refine FC.mono hml ?_
  rintro v' h6 ⟨qa, qL, hqL, rfl, qia, hE6⟩
  have hqp : qL = pL := by rw [hqL, hpL]
  subst hqp
  have w6 := w5.new hE6
  have b6 := b5.ext hE6 (fun f => f)
  have p6 := p5.ext hE6 (fun _ _ _ f => f)
  have ds6 := ds5.new hE6
  have hs6 := hE6.1
  refine S_mv rfl ?_
  refine S_ex rfl rfl ?_
  refine S_ex rfl rfl ?_
  refine S_ex rfl rfl ?_
  refine S_as rfl ?_
  refine S_as rfl ?_
  refine S_as rfl ?_
  refine S_nil (hK8 _ _ (V_keep [3, 6, 12, 13, 14, 18, 19, 20] (by simp only [proj, lk, reduceIte, Nat.reduceEqDiff]; rfl) ?_)); clear hK8
  refine V_seq (fun K9 hK9 => ?_)
  refine V_sr T.mix (by kernel_rfl) (fun K10 hK10 => ?_)
  refine S_mv rfl ?_
  refine S_call T.hb32 rfl ?_
  refine FC.mono (again_spec h6 c.X Q d L N w6.db w6.kp F I w6.ex w6.em w6.ix w6.im hN) ?_
  rintro v' h8 ⟨rfl, d8, db8, kp8, e1_, e2_, e3_, e4_, e5_, e6_, e7_, e8_, e9_, hE8⟩
  have r8 := w6.r.hi w.s hE8 (fun z e => by rcases e with e | e; (omega); (have h9 := (w.kp.q z e).1; omega))
  have nq : ∀ z, h.size ≤ z → ¬ (z = c.X ∨ Q z) := fun z hz e => by rcases e with e | e; (omega); (have h9 := (w.kp.q z e).2.1; omega)
  try clear v0 v1 v2 v3 v4 v5 v6 v7 ve vi_ v16 v17 v18 v19 v20 v21 v22 v23 v24 v25 v26 vok
  obtain ⟨v0, v1, v2, v3, v4, v5, v6, v7, ve, vi_, v16, v17, v18, v19, v20, v21, v22, v23, v24, v25, v26, vok⟩ := ddq (db8)
  have p8 := p6.ext hE8 (fun z hz e => nq z (by omega))
  have q8 := qia.ext hE8 (fun z hz e => nq z (by omega))
  have hs8 := hE8.1
  have b8 := b6.ext hE8 (nq _ (Nat.le_refl _))
  have ds8 := ds6.ext hE8 (fun z e y => by have h8 := (w.s.hV z e).2; rcases y with y | y; (omega); (have h9 := (w.kp.q z y).1; omega))
  refine S_notb rfl ?_
  refine S_nil (hK10 _ _ (V_keep [3, 6, 12, 13, 14, 18, 19, 20, 67] (by simp only [proj, lk, reduceIte, Nat.reduceEqDiff]; rfl) ?_)); clear hK10
  refine V_condb rfl (fun c397 => ?_) (fun c397 => ?_)
  · skip
    cases c397
  · skip
    refine V_skipk [3, 6, 12, 13, 14, 18, 19, 20] (by simp only [proj, lk, reduceIte, Nat.reduceEqDiff]; rfl) ?_
    refine hK9 _ _ ?_; clear hK9
    refine V_seq (fun K11 hK11 => ?_)
    refine V_sr T.mix (by kernel_rfl) (fun K12 hK12 => ?_)
    refine S_mv rfl ?_
    refine S_mv rfl ?_
    refine S_bin rfl rfl rfl ?_
    refine S_mv rfl ?_
    refine S_dec (fun g400 => ?_) (fun g400 => ?_)
    · skip
      exact absurd rfl g400
    · skip
      refine S_gt rfl ?_
      refine S_mv rfl ?_
      refine S_gt rfl ?_
      refine S_mv rfl ?_
      refine S_gt rfl ?_
      refine S_bin rfl rfl rfl ?_
      refine S_pf rfl rfl ?_
      refine S_mv rfl ?_
      refine S_dec (fun g400a => ?_) (fun g400a => ?_)
      · skip
        exact absurd rfl g400a
      · skip
        refine S_gt rfl ?_
        refine S_mv rfl ?_
        refine S_gt rfl ?_
        refine S_capl T.el37 rfl ?_
        refine S_gt rfl ?_
        refine S_mv rfl ?_
        refine S_gt rfl ?_
        refine S_lenl T.el37 rfl ?_
        refine S_gt rfl ?_
        refine S_bin rfl rfl rfl ?_
        refine S_pf rfl rfl ?_
        refine S_nil (hK12 _ _ (V_keep [3, 6, 12, 18, 82] (by simp only [proj, lk, reduceIte, Nat.reduceEqDiff]; rfl) ?_)); clear hK12
        refine V_condp rfl (fun c400 => ?_) (fun c400 => ?_)
        · skip
          exact absurd rfl c400
        · skip
          refine V_skipk [3, 6, 12, 18] (by simp only [proj, lk, reduceIte, Nat.reduceEqDiff]; rfl) ?_
          refine hK11 _ _ ?_; clear hK11
          refine V_seq (fun K13 hK13 => ?_)
          refine V_sr T.mix (by kernel_rfl) (fun K14 hK14 => ?_)
          refine S_mv rfl ?_
          refine S_mv rfl ?_
          refine S_call T.hb33 rfl ?_
          refine FC.mono (sameentries_spec h8 0 pa qa qL.length qL.length qL (p8.ev.lo (Nat.zero_le _)) (q8.ev.lo (Nat.zero_le _)) (by omega)) ?_
          rintro v' h' ⟨rfl, rfl⟩
          obtain ⟨Q2, eQ2⟩ : ∃ Z : Nat → Prop, Z = fun z => Q z ∨ blkA pa = some z ∨ blkA qa = some z := ⟨_, rfl⟩
          have hq2 : ∀ b, Q2 b → c.X < b ∧ b < h8.size ∧ blkA d8.ls.a ≠ some b := fun b q => by
            rw [eQ2] at q
            rcases q with q | q | q
            · exact kp8.q b q
            · have k1 := p8.blk q
              refine ⟨by omega, k1.2, fun e => ?_⟩
              rw [e4_] at e; have h9 := w.kp.lsb e; omega
            · have k1 := q8.blk q
              refine ⟨by omega, k1.2, fun e => ?_⟩
              rw [e4_] at e; have h9 := w.kp.lsb e; omega
          have kpq := kp8.mono (Q' := Q2) (fun z q => by rw [eQ2]; exact .inl q) hq2
          refine S_notb rfl ?_
          refine S_nil (hK14 _ _ (V_keep [3, 6, 12, 18, 86] (by simp only [proj, lk, reduceIte, Nat.reduceEqDiff]; rfl) ?_)); clear hK14
          refine V_condb rfl (fun c403 => ?_) (fun c403 => ?_)
          · skip
            cases c403
          · skip
            refine V_skipk [3, 6, 12, 18] (by simp only [proj, lk, reduceIte, Nat.reduceEqDiff]; rfl) ?_
            refine hK13 _ _ ?_; clear hK13
            refine V_sr T.mix (by kernel_rfl) (fun K15 hK15 => ?_)
            refine S_mv rfl ?_
            refine S_mv rfl ?_
            refine S_nc rfl ?_
            first | refine S_fa0 T.f42_4 rfl ?_ | refine S_fa T.f42_4 rfl ?_
            refine S_st T.sz37 rfl rfl rfl rfl (by simp (disch := omega) only [vok]) ?_
            generalize hh : putH _ _ _ = h9
            have db9 : DB h9 c.X { d8 with ex := ⟨pa, qL.length, qL.length⟩ } := by rw [← hh]; exact (db8.putA 4 _).cong (arr_ext (dk27 rfl rfl rfl rfl rfl rfl rfl rfl rfl rfl rfl rfl rfl rfl rfl rfl rfl rfl rfl rfl rfl rfl rfl rfl rfl rfl rfl))
            have hEh9 : Ext (fun z => z = c.X) h8 h9 := by rw [← hh]; exact Ext.put _ _ rfl
            clear hh
            try clear v0 v1 v2 v3 v4 v5 v6 v7 ve vi_ v16 v17 v18 v19 v20 v21 v22 v23 v24 v25 v26 vok
            obtain ⟨v0, v1, v2, v3, v4, v5, v6, v7, ve, vi_, v16, v17, v18, v19, v20, v21, v22, v23, v24, v25, v26, vok⟩ := ddq (db9)
            refine S_nil (hK15 _ _ (V_keep [3, 6, 18] (by simp only [proj, lk, reduceIte, Nat.reduceEqDiff]; rfl) ?_)); clear hK15
            refine V_sr T.mix (by kernel_rfl) (fun K16 hK16 => ?_)
            refine S_mv rfl ?_
            refine S_mv rfl ?_
            refine S_nc rfl ?_
            first | refine S_fa0 T.f42_5 rfl ?_ | refine S_fa T.f42_5 rfl ?_
            refine S_st T.sz37 rfl rfl rfl rfl (by simp (disch := omega) only [vok]) ?_
            generalize hh : putH _ _ _ = ha
            have dba : DB ha c.X { d8 with ex := ⟨pa, qL.length, qL.length⟩, em := ⟨qa, qL.length, qL.length⟩ } := by rw [← hh]; exact (db9.putA 5 _).cong (arr_ext (dk27 rfl rfl rfl rfl rfl rfl rfl rfl rfl rfl rfl rfl rfl rfl rfl rfl rfl rfl rfl rfl rfl rfl rfl rfl rfl rfl rfl))
            have hEha : Ext (fun z => z = c.X) h9 ha := by rw [← hh]; exact Ext.put _ _ rfl
            clear hh
            try clear v0 v1 v2 v3 v4 v5 v6 v7 ve vi_ v16 v17 v18 v19 v20 v21 v22 v23 v24 v25 v26 vok
            obtain ⟨v0, v1, v2, v3, v4, v5, v6, v7, ve, vi_, v16, v17, v18, v19, v20, v21, v22, v23, v24, v25, v26, vok⟩ := ddq (dba)
            have ba := (b8.ext hEh9 (fun e => by omega)).ext hEha (fun e => by omega)
            refine S_nil (hK16 _ _ (V_keep [6, 18] (by simp only [proj, lk, reduceIte, Nat.reduceEqDiff]; rfl) ?_)); clear hK16
            refine V_sr T.mix (by kernel_rfl) (fun K17 hK17 => ?_)
            refine S_ldn T.ag30 rfl ((ba).all rfl) ?_
            refine S_mv rfl ?_
            refine S_call T.hb42 rfl ?_
            have hE8a := hEh9.trans hEha
            have dsa := ds8.ext hE8a (fun z e y => by have h8 := (w.s.hV z e).2; omega)
            have qva := (q8.ev.ext hE8a (fun z hz y => by omega)).lo (Nat.zero_le _)
            refine FC.mono (ahanded_spec ha c.V st1 out1 dsa c.W.P 0 qa qL.length qL qva (fun hpos => by
              by_cases z : ue = 0
              · rw [if_pos z] at hqL
                rw [hqL, unL_len] at hpos ⊢
                exact hds3 z hpos
              · rw [if_neg z] at hqL; rw [hqL] at hpos; exact absurd hpos (Nat.not_lt_zero _)) (by omega)) ?_
            rintro v' hb ⟨rfl, hEb⟩
            refine S_as rfl ?_
            refine S_nil (hK17 _ _ (V_keep [8] (by simp only [proj, lk, reduceIte, Nat.reduceEqDiff]; rfl) ?_)); clear hK17
            refine V_ret ?_
            refine hR _ _ (ret1 rfl rfl ?_)
            have hXq : ∀ z, Q2 z → ¬ (z = c.X) := fun z q e => by have h9 := (hq2 z q).1; omega
            have kpa : KP ha c.X Q2 { d8 with ex := ⟨pa, qL.length, qL.length⟩, em := ⟨qa, qL.length, qL.length⟩ } L (N + 2) := (show KP h8 c.X Q2 { d8 with ex := ⟨pa, qL.length, qL.length⟩, em := ⟨qa, qL.length, qL.length⟩ } L (N + 2) from ⟨kpq.q, kpq.ls, kpq.ln, kpq.l5, kpq.oe, kpq.oi, kpq.fe, kpq.he, kpq.hl, kpq.fi, kpq.hi, kpq.ne, kpq.ni, kpq.ae, kpq.ai⟩).desk hE8a
            have ra := r8.hi w.s hE8a (fun z e => by omega)
            have ixa := (p8.eq (Q := Q2) (fun z e => by rw [eQ2]; exact .inr (.inl e)) (by omega)).ext hE8a hXq
            have ima := (q8.eq (Q := Q2) (fun z e => by rw [eQ2]; exact .inr (.inr e)) (by omega)).ext hE8a hXq
            have wa : LW ha c Q2 { d8 with ex := ⟨pa, qL.length, qL.length⟩, em := ⟨qa, qL.length, qL.length⟩ } L qL [] (N + 2) := ⟨w.s, ra, dba, kpa, ixa, ima, by show IQ ha _ d8.ix []; rw [e8_]; exact IQ.nil _ _, by show IQ ha _ d8.im []; rw [e9_]; exact IQ.nil _ _, by show d8.nm.size ≤ _; rw [e1_]; exact w.z0, by show d8.dt.size ≤ _; rw [e2_]; exact w.z1, by show d8.rw.size ≤ _; rw [e3_]; exact w.z2⟩
            exact ⟨rfl, (wa.new hEb).e, ((((((((hEh1.mono fun _ f => f.elim).trans (hEh2.mono fun _ f => f.elim)).trans (hE3.mono fun z e => by rcases e with e | e; (exact .inr (.inl e)); (exact .inr (.inr (.inl e))))).trans (hE4.mono fun _ f => f.elim)).trans (hE5.mono fun _ f => f.elim)).trans (hE6.mono fun _ f => f.elim)).trans (hE8.mono fun z e => ms_hi (by rcases e with e | e; (omega); (have h9 := (w.kp.q z e).1; omega)))).trans (hE8a.mono fun z e => ms_hi (by omega))).trans (hEb.mono fun _ f => f.elim)⟩
end Go.Proofs.Qxb6500404aGreat
