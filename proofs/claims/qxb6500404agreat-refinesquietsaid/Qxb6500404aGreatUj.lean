import Derived.Test.Qxb6500404aGreatUi
set_option linter.unusedVariables false
set_option linter.unusedSimpArgs false
namespace Go.Proofs.Qxb6500404aGreat
open Go.Eng Go.Bits Go.Blk HufW Go.Arc

/-! the answers at hand -/
structure EQ (h : Heap) (Q : Nat → Prop) (s : SL) (E : List En) : Prop where
  n : s.n = E.length
  c : s.c = E.length
  l9 : E.length ≤ 9
  x : (s.a = none ∧ E = []) ∨ ∃ b cs, s.a = some ⟨b, 0, none⟩ ∧ Q b ∧ B h b cs 104 ∧ cs.size = E.length * 2 ∧ ∀ i, i < E.length → cs[i * 2]? = some (.string (ga E i).1) ∧ cs[i * 2 + 1]? = some (.string (ga E i).2)
structure IQ (h : Heap) (Q : Nat → Prop) (s : SL) (L : List In) : Prop where
  n : s.n = L.length
  c : s.c = L.length
  l9 : L.length ≤ 9
  x : (s.a = none ∧ L = []) ∨ ∃ b cs, s.a = some ⟨b, 0, none⟩ ∧ Q b ∧ B h b cs 122 ∧ cs.size = L.length * 3 ∧ ∀ i, i < L.length → cs[i * 3]? = some (.string (gi L i).1) ∧ cs[i * 3 + 1]? = some (.int .i64 (((gi L i).2.1 : Nat) : Int)) ∧ cs[i * 3 + 2]? = some (.int .i64 (((gi L i).2.2 : Nat) : Int))
section eq
variable {h h' : Heap} {Q Q' S : Nat → Prop} {s : SL} {E : List En} {I : List In}
theorem EQ.nil (h : Heap) (Q : Nat → Prop) : EQ h Q SL.z [] := ⟨rfl, rfl, Nat.zero_le _, .inl ⟨rfl, rfl⟩⟩
theorem IQ.nil (h : Heap) (Q : Nat → Prop) : IQ h Q SL.z [] := ⟨rfl, rfl, Nat.zero_le _, .inl ⟨rfl, rfl⟩⟩
theorem EQ.ext (k : EQ h Q s E) (he : Ext S h h') (hs : ∀ b, Q b → ¬ S b) : EQ h' Q s E := by
  refine ⟨k.n, k.c, k.l9, ?_⟩
  rcases k.x with x | ⟨b, cs, e, q, hb, r⟩
  · exact .inl x
  · exact .inr ⟨b, cs, e, q, hb.ext he (hs b q), r⟩
theorem IQ.ext (k : IQ h Q s I) (he : Ext S h h') (hs : ∀ b, Q b → ¬ S b) : IQ h' Q s I := by
  refine ⟨k.n, k.c, k.l9, ?_⟩
  rcases k.x with x | ⟨b, cs, e, q, hb, r⟩
  · exact .inl x
  · exact .inr ⟨b, cs, e, q, hb.ext he (hs b q), r⟩
theorem EQ.mono (k : EQ h Q s E) (hs : ∀ b, Q b → Q' b) : EQ h Q' s E := by
  refine ⟨k.n, k.c, k.l9, ?_⟩
  rcases k.x with x | ⟨b, cs, e, q, r⟩
  · exact .inl x
  · exact .inr ⟨b, cs, e, hs b q, r⟩
theorem IQ.mono (k : IQ h Q s I) (hs : ∀ b, Q b → Q' b) : IQ h Q' s I := by
  refine ⟨k.n, k.c, k.l9, ?_⟩
  rcases k.x with x | ⟨b, cs, e, q, r⟩
  · exact .inl x
  · exact .inr ⟨b, cs, e, hs b q, r⟩
theorem EQ.ev (k : EQ h Q s E) : EV 0 h s.a E := by
  rcases k.x with ⟨_, x⟩ | ⟨b, cs, e, q, hb, h3, h4⟩
  · exact .inl x
  · exact .inr ⟨b, e, Nat.zero_le _, hb.lt, fun i hi => by rw [hb.cell, hb.cell]; exact h4 i hi⟩
theorem IQ.iv (k : IQ h Q s I) : IV h s.a I := by
  rcases k.x with ⟨_, x⟩ | ⟨b, cs, e, q, hb, h3, h4⟩
  · exact .inl x
  · exact .inr ⟨b, e, fun i hi => by rw [hb.cell, hb.cell, hb.cell]; exact h4 i hi⟩
theorem EQ.kb (k : EQ h Q s E) : KB 104 2 h Q ⟨s.a, E.length, E.length⟩ := by
  rcases k.x with ⟨x1, x2⟩ | ⟨b, cs, e, q, hb, h3, _⟩
  · exact .inl ⟨x1, by rw [x2]; rfl⟩
  · exact .inr ⟨b, cs, e, q, hb, h3⟩
theorem IQ.kb (k : IQ h Q s I) : KB 122 3 h Q ⟨s.a, I.length, I.length⟩ := by
  rcases k.x with ⟨x1, x2⟩ | ⟨b, cs, e, q, hb, h3, _⟩
  · exact .inl ⟨x1, by rw [x2]; rfl⟩
  · exact .inr ⟨b, cs, e, q, hb, h3⟩
/-- rows do not lie where entries lie -/
theorem IQ.off {X : Nat} (k : IQ h Q s I) {s2 : SL} {E2 : List En} (e : EQ h Q s2 E2) (hq : ∀ b, Q b → X < b) (he : Ext (fun z => z = X ∨ blkA s2.a = some z) h h') : IQ h' Q s I := by
  refine ⟨k.n, k.c, k.l9, ?_⟩
  rcases k.x with x | ⟨b, cs, e1, q, hb, r⟩
  · exact .inl x
  · refine .inr ⟨b, cs, e1, q, hb.ext he (fun z => ?_), r⟩
    rcases z with z | z
    · have := hq b q; omega
    · rcases e.x with ⟨x1, _⟩ | ⟨b2, cs2, e2, _, hb2, _⟩
      · rw [x1] at z; cases z
      · rw [e2] at z
        have z2 : b2 = b := by simpa [blkA] using z
        subst z2
        exact absurd (hb.uniq hb2).2 (by decide)
end eq
set_option maxHeartbeats 3200000 in
theorem again_spec (h : Heap) (X : Nat) (Q : Nat → Prop) (d : DR) (L : List En) (N : Nat) (db : DB h X d) (kp : KP h X Q d L N) (F : List En) (I : List In) (ex : EQ h Q d.ex F) (em : EQ h Q d.em F) (ix : IQ h Q d.ix I) (im : IQ h Q d.im I) (hN : N ≤ 8999999999990) :
    FC Tryz.prog 32 (#[.pointer (some ⟨X, 0, none⟩)] : Array Value) h fun rv h' => rv = .bool true ∧ ∃ d', DB h' X d' ∧ KP h' X Q d' L (N + 2) ∧ d'.nm = d.nm ∧ d'.dt = d.dt ∧ d'.rw = d.rw ∧ d'.ls = d.ls ∧ d'.pl = d.pl ∧ d'.ex = SL.z ∧ d'.em = SL.z ∧ d'.ix = SL.z ∧ d'.im = SL.z ∧ Ext (fun z => z = X ∨ Q z) h h' := by
  try clear v0 v1 v2 v3 v4 v5 v6 v7 ve vi_ v16 v17 v18 v19 v20 v21 v22 v23 v24 v25 v26 vok
  obtain ⟨v0, v1, v2, v3, v4, v5, v6, v7, ve, vi_, v16, v17, v18, v19, v20, v21, v22, v23, v24, v25, v26, vok⟩ := ddq (db)
  rw [ex.n, ex.c] at v4
  rw [em.n, em.c] at v5
  rw [ix.n, ix.c] at v6
  rw [im.n, im.c] at v7
  refine FC_of [(0, .pointer (some ⟨X, 0, none⟩))] Tryz.func32 rfl Tryz.ntmps32 (by simp) rfl (fun R hR => ?_)
  refine V_sr T.mix (by kernel_rfl) (fun K1 hK1 => ?_)
  refine S_as rfl ?_
  refine S_nil (hK1 _ _ (V_keep [0] (by simp only [proj, lk, reduceIte, Nat.reduceEqDiff]; rfl) ?_)); clear hK1
  refine V_seq (fun K2 hK2 => ?_)
  refine V_sr T.mix (by kernel_rfl) (fun K3 hK3 => ?_)
  refine S_mv rfl ?_
  refine S_call T.hb57 rfl ?_
  refine FC.mono (untouched_spec h X Q d L N db kp) ?_
  rintro v' h' ⟨rfl, rfl⟩
  refine S_notb rfl ?_
  refine S_nil (hK3 _ _ (V_keep [0, 6] (by simp only [proj, lk, reduceIte, Nat.reduceEqDiff]; rfl) ?_)); clear hK3
  refine V_condb rfl (fun c230 => ?_) (fun c230 => ?_)
  · skip
    cases c230
  · skip
    refine V_skipk [0] (by simp only [proj, lk, reduceIte, Nat.reduceEqDiff]; rfl) ?_
    refine hK2 _ _ ?_; clear hK2
    refine V_seq (fun K4 hK4 => ?_)
    refine V_sr T.mix (by kernel_rfl) (fun K5 hK5 => ?_)
    refine S_mv rfl ?_
    refine S_nc rfl ?_
    first | refine S_fa0 T.f42_4 rfl ?_ | refine S_fa T.f42_4 rfl ?_
    refine S_ldK T.ag37 rfl (fun K' hK' => ?_)
    simp (disch := omega) only [v0, v1, v2, v3, v4, v5, v6, v7, ve, vi_, v16, v17, v18, v19, v20, v21, v22, v23, v24, v25, v26, oP_some, Nat.add_zero]
    refine hK' _ ?_; clear hK' K'
    refine S_mv rfl ?_
    refine S_nc rfl ?_
    first | refine S_fa0 T.f42_5 rfl ?_ | refine S_fa T.f42_5 rfl ?_
    refine S_ldK T.ag37 rfl (fun K' hK' => ?_)
    simp (disch := omega) only [v0, v1, v2, v3, v4, v5, v6, v7, ve, vi_, v16, v17, v18, v19, v20, v21, v22, v23, v24, v25, v26, oP_some, Nat.add_zero]
    refine hK' _ ?_; clear hK' K'
    refine S_call T.hb33 rfl ?_
    refine FC.mono (sameentries_spec h 0 d.ex.a d.em.a F.length F.length F ex.ev em.ev ex.l9) ?_
    rintro v' h' ⟨rfl, rfl⟩
    refine S_notb rfl ?_
    refine S_nil (hK5 _ _ (V_keep [0, 16] (by simp only [proj, lk, reduceIte, Nat.reduceEqDiff]; rfl) ?_)); clear hK5
    refine V_condb rfl (fun c233 => ?_) (fun c233 => ?_)
    · skip
      cases c233
    · skip
      refine V_skipk [0] (by simp only [proj, lk, reduceIte, Nat.reduceEqDiff]; rfl) ?_
      refine hK4 _ _ ?_; clear hK4
      refine V_seq (fun K6 hK6 => ?_)
      refine V_sr T.mix (by kernel_rfl) (fun K7 hK7 => ?_)
      refine S_mv rfl ?_
      refine S_nc rfl ?_
      first | refine S_fa0 T.f42_6 rfl ?_ | refine S_fa T.f42_6 rfl ?_
      refine S_ldK T.ag38 rfl (fun K' hK' => ?_)
      simp (disch := omega) only [v0, v1, v2, v3, v4, v5, v6, v7, ve, vi_, v16, v17, v18, v19, v20, v21, v22, v23, v24, v25, v26, oP_some, Nat.add_zero]
      refine hK' _ ?_; clear hK' K'
      refine S_mv rfl ?_
      refine S_nc rfl ?_
      first | refine S_fa0 T.f42_7 rfl ?_ | refine S_fa T.f42_7 rfl ?_
      refine S_ldK T.ag38 rfl (fun K' hK' => ?_)
      simp (disch := omega) only [v0, v1, v2, v3, v4, v5, v6, v7, ve, vi_, v16, v17, v18, v19, v20, v21, v22, v23, v24, v25, v26, oP_some, Nat.add_zero]
      refine hK' _ ?_; clear hK' K'
      refine S_call T.hb39 rfl ?_
      refine FC.mono (sameinfos_spec h d.ix.a d.im.a I.length I.length I ix.iv im.iv ix.l9) ?_
      rintro v' h' ⟨rfl, rfl⟩
      refine S_notb rfl ?_
      refine S_nil (hK7 _ _ (V_keep [0, 26] (by simp only [proj, lk, reduceIte, Nat.reduceEqDiff]; rfl) ?_)); clear hK7
      refine V_condb rfl (fun c236 => ?_) (fun c236 => ?_)
      · skip
        cases c236
      · skip
        refine V_skipk [0] (by simp only [proj, lk, reduceIte, Nat.reduceEqDiff]; rfl) ?_
        refine hK6 _ _ ?_; clear hK6
        refine V_sr T.mix (by kernel_rfl) (fun K8 hK8 => ?_)
        refine S_mv rfl ?_
        refine S_nc rfl ?_
        first | refine S_fa0 T.f42_16 rfl ?_ | refine S_fa T.f42_16 rfl ?_
        refine S_ldK T.ag4 rfl (fun K' hK' => ?_)
        simp (disch := omega) only [v0, v1, v2, v3, v4, v5, v6, v7, ve, vi_, v16, v17, v18, v19, v20, v21, v22, v23, v24, v25, v26, oP_some, Nat.add_zero]
        refine hK' _ ?_; clear hK' K'
        refine S_as rfl ?_
        refine S_nil (hK8 _ _ (V_keep [0, 3] (by simp only [proj, lk, reduceIte, Nat.reduceEqDiff]; rfl) ?_)); clear hK8
        refine V_sr T.mix (by kernel_rfl) (fun K9 hK9 => ?_)
        refine S_mv rfl ?_
        refine S_nc rfl ?_
        first | refine S_fa0 T.f42_16 rfl ?_ | refine S_fa T.f42_16 rfl ?_
        refine S_st T.sz4 rfl rfl rfl rfl (by simp (disch := omega) only [vok]) ?_
        generalize hh : putH _ _ _ = h1
        have db1 : DB h1 X { d with pn := false } := by rw [← hh]; exact (db.putA 22 _).cong (arr_ext (dk27 rfl rfl rfl rfl rfl rfl rfl rfl rfl rfl rfl rfl rfl rfl rfl rfl rfl rfl rfl rfl rfl rfl rfl rfl rfl rfl rfl))
        have hEh1 : Ext (fun z => z = X) h h1 := by rw [← hh]; exact Ext.put _ _ rfl
        clear hh
        try clear v0 v1 v2 v3 v4 v5 v6 v7 ve vi_ v16 v17 v18 v19 v20 v21 v22 v23 v24 v25 v26 vok
        obtain ⟨v0, v1, v2, v3, v4, v5, v6, v7, ve, vi_, v16, v17, v18, v19, v20, v21, v22, v23, v24, v25, v26, vok⟩ := ddq (db1)
        have kp1 : KP h1 X Q { d with pn := false } L N := (show KP h X Q { d with pn := false } L N from ⟨kp.q, kp.ls, kp.ln, kp.l5, kp.oe, kp.oi, kp.fe, kp.he, kp.hl, kp.fi, kp.hi, kp.ne, kp.ni, kp.ae, kp.ai⟩).desk hEh1
        rw [ex.n, ex.c] at v4
        refine S_nil (hK9 _ _ (V_keep [0, 3] (by simp only [proj, lk, reduceIte, Nat.reduceEqDiff]; rfl) ?_)); clear hK9
        refine V_sr T.mix (by kernel_rfl) (fun K10 hK10 => ?_)
        refine S_mv rfl ?_
        refine S_mv rfl ?_
        refine S_nc rfl ?_
        first | refine S_fa0 T.f42_4 rfl ?_ | refine S_fa T.f42_4 rfl ?_
        refine S_ldK T.ag37 rfl (fun K' hK' => ?_)
        simp (disch := omega) only [v0, v1, v2, v3, v4, v5, v6, v7, ve, vi_, v16, v17, v18, v19, v20, v21, v22, v23, v24, v25, v26, oP_some, Nat.add_zero]
        refine hK' _ ?_; clear hK' K'
        refine S_mv rfl ?_
        refine S_call T.hb58 rfl ?_
        refine FC.mono (holde_spec h1 X Q _ L N db1 kp1 ⟨d.ex.a, F.length, F.length⟩ (ex.ext hEh1 (fun b q e => by have h9 := (kp.q b q).1; omega)).kb ex.l9 d.pn (by omega)) ?_
        rintro v' h2 ⟨rfl, d2, db2, kp2, sm2, pl2, hE2⟩
        have ix1 := ix.ext hEh1 (fun b q e => by have h9 := (kp.q b q).1; omega)
        have ex1 := ex.ext hEh1 (fun b q e => by have h9 := (kp.q b q).1; omega)
        have ix2 := ix1.off ex1 (fun b q => (kp.q b q).1) hE2
        have six : d2.ix = d.ix := sm2.ix
        try clear v0 v1 v2 v3 v4 v5 v6 v7 ve vi_ v16 v17 v18 v19 v20 v21 v22 v23 v24 v25 v26 vok
        obtain ⟨v0, v1, v2, v3, v4, v5, v6, v7, ve, vi_, v16, v17, v18, v19, v20, v21, v22, v23, v24, v25, v26, vok⟩ := ddq (db2)
        rw [six, ix.n, ix.c] at v6
        refine S_nil (hK10 _ _ (V_keep [0, 3] (by simp only [proj, lk, reduceIte, Nat.reduceEqDiff]; rfl) ?_)); clear hK10
        refine V_sr T.mix (by kernel_rfl) (fun K11 hK11 => ?_)
        refine S_mv rfl ?_
        refine S_mv rfl ?_
        refine S_nc rfl ?_
        first | refine S_fa0 T.f42_6 rfl ?_ | refine S_fa T.f42_6 rfl ?_
        refine S_ldK T.ag38 rfl (fun K' hK' => ?_)
        simp (disch := omega) only [v0, v1, v2, v3, v4, v5, v6, v7, ve, vi_, v16, v17, v18, v19, v20, v21, v22, v23, v24, v25, v26, oP_some, Nat.add_zero]
        refine hK' _ ?_; clear hK' K'
        refine S_mv rfl ?_
        refine S_call T.hb59 rfl ?_
        refine FC.mono (holdi_spec h2 X Q d2 L (N + 1) db2 kp2 ⟨d.ix.a, I.length, I.length⟩ ix2.kb ix.l9 d.pn (by omega)) ?_
        rintro v' h3 ⟨rfl, d3, db3, kp3, sm3, pl3, hE3⟩
        try clear v0 v1 v2 v3 v4 v5 v6 v7 ve vi_ v16 v17 v18 v19 v20 v21 v22 v23 v24 v25 v26 vok
        obtain ⟨v0, v1, v2, v3, v4, v5, v6, v7, ve, vi_, v16, v17, v18, v19, v20, v21, v22, v23, v24, v25, v26, vok⟩ := ddq (db3)
        refine S_nil (hK11 _ _ (V_keep [0] (by simp only [proj, lk, reduceIte, Nat.reduceEqDiff]; rfl) ?_)); clear hK11
        refine V_sr T.mix (by kernel_rfl) (fun K12 hK12 => ?_)
        refine S_mv rfl ?_
        refine S_nc rfl ?_
        first | refine S_fa0 T.f42_4 rfl ?_ | refine S_fa T.f42_4 rfl ?_
        refine S_st T.sz37 rfl rfl rfl rfl (by simp (disch := omega) only [vok]) ?_
        generalize hh : putH _ _ _ = h4
        have db4 : DB h4 X { d3 with ex := SL.z } := by rw [← hh]; exact (db3.putA 4 _).cong (arr_ext (dk27 rfl rfl rfl rfl rfl rfl rfl rfl rfl rfl rfl rfl rfl rfl rfl rfl rfl rfl rfl rfl rfl rfl rfl rfl rfl rfl rfl))
        have hEh4 : Ext (fun z => z = X) h3 h4 := by rw [← hh]; exact Ext.put _ _ rfl
        clear hh
        try clear v0 v1 v2 v3 v4 v5 v6 v7 ve vi_ v16 v17 v18 v19 v20 v21 v22 v23 v24 v25 v26 vok
        obtain ⟨v0, v1, v2, v3, v4, v5, v6, v7, ve, vi_, v16, v17, v18, v19, v20, v21, v22, v23, v24, v25, v26, vok⟩ := ddq (db4)
        refine S_nil (hK12 _ _ (V_keep [0] (by simp only [proj, lk, reduceIte, Nat.reduceEqDiff]; rfl) ?_)); clear hK12
        refine V_sr T.mix (by kernel_rfl) (fun K13 hK13 => ?_)
        refine S_mv rfl ?_
        refine S_nc rfl ?_
        first | refine S_fa0 T.f42_5 rfl ?_ | refine S_fa T.f42_5 rfl ?_
        refine S_st T.sz37 rfl rfl rfl rfl (by simp (disch := omega) only [vok]) ?_
        generalize hh : putH _ _ _ = h5
        have db5 : DB h5 X { d3 with ex := SL.z, em := SL.z } := by rw [← hh]; exact (db4.putA 5 _).cong (arr_ext (dk27 rfl rfl rfl rfl rfl rfl rfl rfl rfl rfl rfl rfl rfl rfl rfl rfl rfl rfl rfl rfl rfl rfl rfl rfl rfl rfl rfl))
        have hEh5 : Ext (fun z => z = X) h4 h5 := by rw [← hh]; exact Ext.put _ _ rfl
        clear hh
        try clear v0 v1 v2 v3 v4 v5 v6 v7 ve vi_ v16 v17 v18 v19 v20 v21 v22 v23 v24 v25 v26 vok
        obtain ⟨v0, v1, v2, v3, v4, v5, v6, v7, ve, vi_, v16, v17, v18, v19, v20, v21, v22, v23, v24, v25, v26, vok⟩ := ddq (db5)
        refine S_nil (hK13 _ _ (V_keep [0] (by simp only [proj, lk, reduceIte, Nat.reduceEqDiff]; rfl) ?_)); clear hK13
        refine V_sr T.mix (by kernel_rfl) (fun K14 hK14 => ?_)
        refine S_mv rfl ?_
        refine S_nc rfl ?_
        first | refine S_fa0 T.f42_6 rfl ?_ | refine S_fa T.f42_6 rfl ?_
        refine S_st T.sz38 rfl rfl rfl rfl (by simp (disch := omega) only [vok]) ?_
        generalize hh : putH _ _ _ = h6
        have db6 : DB h6 X { d3 with ex := SL.z, em := SL.z, ix := SL.z } := by rw [← hh]; exact (db5.putA 6 _).cong (arr_ext (dk27 rfl rfl rfl rfl rfl rfl rfl rfl rfl rfl rfl rfl rfl rfl rfl rfl rfl rfl rfl rfl rfl rfl rfl rfl rfl rfl rfl))
        have hEh6 : Ext (fun z => z = X) h5 h6 := by rw [← hh]; exact Ext.put _ _ rfl
        clear hh
        try clear v0 v1 v2 v3 v4 v5 v6 v7 ve vi_ v16 v17 v18 v19 v20 v21 v22 v23 v24 v25 v26 vok
        obtain ⟨v0, v1, v2, v3, v4, v5, v6, v7, ve, vi_, v16, v17, v18, v19, v20, v21, v22, v23, v24, v25, v26, vok⟩ := ddq (db6)
        refine S_nil (hK14 _ _ (V_keep [0] (by simp only [proj, lk, reduceIte, Nat.reduceEqDiff]; rfl) ?_)); clear hK14
        refine V_sr T.mix (by kernel_rfl) (fun K15 hK15 => ?_)
        refine S_mv rfl ?_
        refine S_nc rfl ?_
        first | refine S_fa0 T.f42_7 rfl ?_ | refine S_fa T.f42_7 rfl ?_
        refine S_st T.sz38 rfl rfl rfl rfl (by simp (disch := omega) only [vok]) ?_
        generalize hh : putH _ _ _ = h7
        have db7 : DB h7 X { d3 with ex := SL.z, em := SL.z, ix := SL.z, im := SL.z } := by rw [← hh]; exact (db6.putA 7 _).cong (arr_ext (dk27 rfl rfl rfl rfl rfl rfl rfl rfl rfl rfl rfl rfl rfl rfl rfl rfl rfl rfl rfl rfl rfl rfl rfl rfl rfl rfl rfl))
        have hEh7 : Ext (fun z => z = X) h6 h7 := by rw [← hh]; exact Ext.put _ _ rfl
        clear hh
        try clear v0 v1 v2 v3 v4 v5 v6 v7 ve vi_ v16 v17 v18 v19 v20 v21 v22 v23 v24 v25 v26 vok
        obtain ⟨v0, v1, v2, v3, v4, v5, v6, v7, ve, vi_, v16, v17, v18, v19, v20, v21, v22, v23, v24, v25, v26, vok⟩ := ddq (db7)
        refine S_nil (hK15 _ _ (V_keep [] (by simp only [proj, lk, reduceIte, Nat.reduceEqDiff]; rfl) ?_)); clear hK15
        refine V_sr T.mix (by kernel_rfl) (fun K16 hK16 => ?_)
        refine S_as rfl ?_
        refine S_nil (hK16 _ _ (V_keep [2] (by simp only [proj, lk, reduceIte, Nat.reduceEqDiff]; rfl) ?_)); clear hK16
        refine V_ret ?_
        refine hR _ _ (ret1 rfl rfl ?_)
        have hE37 := ((hEh4.trans hEh5).trans hEh6).trans hEh7
        have kp7 : KP h7 X Q { d3 with ex := SL.z, em := SL.z, ix := SL.z, im := SL.z } L (N + 2) := (show KP h3 X Q { d3 with ex := SL.z, em := SL.z, ix := SL.z, im := SL.z } L (N + 2) from ⟨kp3.q, kp3.ls, kp3.ln, kp3.l5, kp3.oe, kp3.oi, kp3.fe, kp3.he, kp3.hl, kp3.fi, kp3.hi, kp3.ne, kp3.ni, kp3.ae, kp3.ai⟩).desk hE37
        have hxa : ∀ z, blkA d.ex.a = some z → Q z := fun z e => by rcases ex.x with ⟨x1, _⟩ | ⟨b, cs, e1, q, _⟩; (rw [x1] at e; cases e); (rw [e1] at e; have z2 : b = z := (by simpa [blkA] using e); rw [← z2]; exact q)
        have hia : ∀ z, blkA d.ix.a = some z → Q z := fun z e => by rcases ix.x with ⟨x1, _⟩ | ⟨b, cs, e1, q, _⟩; (rw [x1] at e; cases e); (rw [e1] at e; have z2 : b = z := (by simpa [blkA] using e); rw [← z2]; exact q)
        exact ⟨rfl, _, db7, kp7, sm3.nm.trans sm2.nm, sm3.dt.trans sm2.dt, sm3.rw.trans sm2.rw, sm3.ls.trans sm2.ls, pl3.trans pl2, rfl, rfl, rfl, rfl, (((hEh1.mono fun _ e => .inl e).trans (hE2.mono fun z e => by rcases e with e | e; (exact .inl e); (exact .inr (hxa z e)))).trans (hE3.mono fun z e => by rcases e with e | e; (exact .inl e); (exact .inr (hia z e)))).trans (hE37.mono fun _ e => .inl e)⟩
set_option maxHeartbeats 3200000 in
theorem akeeps_spec (h : Heap) (M : Nat) (lo : Nat) (a : Option Addr) (c : Nat) (Q : List En) (ev : EV lo h a Q) (lv : Int) (hck : ckF Q lv = 0) (tx : ByteArray) (htx : tx = arF lv Q) :
    FC Tryz.prog 36 (#[.pointer (some ⟨M, 0, none⟩), .slice a Q.length c, .string tx, .int .i64 lv] : Array Value) h fun rv h' => rv = .bool true ∧ Ext (fun _ => False) h h' := by
  obtain ⟨r1, r2, r3, r4, r5, r6⟩ := rt_end hck
  rw [← htx] at r1 r2 r3 r4 r5 r6
  obtain ⟨q4, l0, l2, hcl⟩ := ckF_ok hck
  refine FC_of [(0, .pointer (some ⟨M, 0, none⟩)), (1, .slice a Q.length c), (2, .string tx), (3, .int .i64 lv)] Tryz.func36 rfl Tryz.ntmps36 (by simp) rfl (fun R hR => ?_)
  refine V_sr T.mix (by kernel_rfl) (fun K1 hK1 => ?_)
  refine S_as rfl ?_
  refine S_nil (hK1 _ _ (V_keep [0, 1, 2, 3] (by simp only [proj, lk, reduceIte, Nat.reduceEqDiff]; rfl) ?_)); clear hK1
  refine V_sr T.mix (by kernel_rfl) (fun K2 hK2 => ?_)
  refine S_mv rfl ?_
  refine S_mv rfl ?_
  refine S_call T.hb41 rfl ?_
  refine FC.mono (munpack_spec h M tx) ?_
  rw [r3]
  rintro v' h1 ⟨ua, UL, hUL, rfl, uea, hE1⟩
  rw [if_pos rfl, r4] at hUL
  have hUL := hUL.symm
  subst hUL
  have ev1 := ev.new hE1
  refine S_mv rfl ?_
  refine S_ex rfl rfl ?_
  refine S_ex rfl rfl ?_
  refine S_ex rfl rfl ?_
  refine S_as rfl ?_
  refine S_as rfl ?_
  refine S_as rfl ?_
  refine S_nil (hK2 _ _ (V_keep [0, 1, 2, 3, 9, 10] (by simp only [proj, lk, reduceIte, Nat.reduceEqDiff]; rfl) ?_)); clear hK2
  refine V_seq (fun K3 hK3 => ?_)
  refine V_sr T.mix (by kernel_rfl) (fun K4 hK4 => ?_)
  refine S_mv rfl ?_
  refine S_bin rfl rfl rfl ?_
  refine S_nil (hK4 _ _ (V_keep [0, 1, 2, 3, 9, 24] (by simp only [proj, lk, reduceIte, Nat.reduceEqDiff]; rfl) ?_)); clear hK4
  refine V_condp rfl (fun c288 => ?_) (fun c288 => ?_)
  · skip
    exact absurd rfl c288
  · skip
    refine V_skipk [0, 1, 2, 3, 9] (by simp only [proj, lk, reduceIte, Nat.reduceEqDiff]; rfl) ?_
    refine hK3 _ _ ?_; clear hK3
    refine V_seq (fun K5 hK5 => ?_)
    refine V_sr T.mix (by kernel_rfl) (fun K6 hK6 => ?_)
    refine S_mv rfl ?_
    refine S_mv rfl ?_
    refine S_call T.hb33 rfl ?_
    refine FC.mono (sameentries_spec h1 0 ua a Q.length c Q (uea.ev.lo (Nat.zero_le _)) (ev1.lo (Nat.zero_le _)) (by omega)) ?_
    rintro v' h' ⟨rfl, rfl⟩
    refine S_notb rfl ?_
    refine S_nil (hK6 _ _ (V_keep [0, 1, 2, 3, 28] (by simp only [proj, lk, reduceIte, Nat.reduceEqDiff]; rfl) ?_)); clear hK6
    refine V_condb rfl (fun c291 => ?_) (fun c291 => ?_)
    · skip
      cases c291
    · skip
      refine V_skipk [0, 1, 2, 3] (by simp only [proj, lk, reduceIte, Nat.reduceEqDiff]; rfl) ?_
      refine hK5 _ _ ?_; clear hK5
      refine V_sr T.mix (by kernel_rfl) (fun K7 hK7 => ?_)
      refine S_mv rfl ?_
      refine S_mv rfl ?_
      refine S_call T.hb38 rfl ?_
      refine FC.mono (mlist_spec h1 M tx) ?_
      rw [r1]
      rintro v' h2 ⟨la, LL, hLL, rfl, lia, hE2⟩
      rw [if_pos rfl] at hLL
      have hLn : LL.length = Q.length := by rw [hLL, liL_len, r2]
      have ev2 := ev1.new hE2
      have liv := lia.iv
      refine S_mv rfl ?_
      refine S_ex rfl rfl ?_
      refine S_ex rfl rfl ?_
      refine S_ex rfl rfl ?_
      refine S_as rfl ?_
      refine S_as rfl ?_
      refine S_as rfl ?_
      refine S_nil (hK7 _ _ (V_keep [1, 2, 3, 12, 13] (by simp only [proj, lk, reduceIte, Nat.reduceEqDiff]; rfl) ?_)); clear hK7
      refine V_seq (fun K8 hK8 => ?_)
      refine V_sr T.mix (by kernel_rfl) (fun K9 hK9 => ?_)
      refine S_mv rfl ?_
      refine S_bin rfl rfl rfl ?_
      refine S_mv rfl ?_
      refine S_dec (fun g295 => ?_) (fun g295 => ?_)
      · skip
        exact absurd rfl g295
      · skip
        refine S_gt rfl ?_
        refine S_mv rfl ?_
        refine S_gt rfl ?_
        refine S_lenl T.el38 rfl ?_
        refine S_gt rfl ?_
        refine S_mv rfl ?_
        refine S_gt rfl ?_
        refine S_lenl T.el37 rfl ?_
        refine S_gt rfl ?_
        refine S_bin rfl rfl rfl ?_
        refine S_pf rfl rfl ?_
        refine S_nil (hK9 _ _ (V_keep [1, 2, 3, 12, 44] (by simp only [proj, lk, reduceIte, Nat.reduceEqDiff]; rfl) ?_)); clear hK9
        refine V_condp rfl (fun c295 => ?_) (fun c295 => ?_)
        · skip
          exfalso; omega
        · skip
          refine V_skipk [1, 2, 3, 12] (by simp only [proj, lk, reduceIte, Nat.reduceEqDiff]; rfl) ?_
          refine hK8 _ _ ?_; clear hK8
          refine V_seq (fun K10 hK10 => ?_)
          refine V_sr T.mix (by kernel_rfl) (fun K11 hK11 => ?_)
          refine S_as rfl ?_
          refine S_nil (hK11 _ _ (V_keep [1, 2, 3, 12, 15] (by simp only [proj, lk, reduceIte, Nat.reduceEqDiff]; rfl) ?_)); clear hK11
          refine V_block ?_
          refine V_loop (fun m l h' => ∃ (i : Nat), (i ≤ Q.length) ∧ m = Q.length - i ∧ l = [(1, .slice a Q.length c), (2, .string tx), (3, .int .i64 lv), (12, .slice la LL.length LL.length), (15, .int .i64 (i : Int))] ∧ h2 = h') _ ⟨0, Nat.zero_le _, rfl, rfl, rfl⟩ ?_
          rintro m l h' ⟨i, hi, rfl, rfl, rfl⟩ K12 hK12
          refine V_seq (fun K13 hK13 => ?_)
          refine V_sr T.mix (by kernel_rfl) (fun K14 hK14 => ?_)
          refine S_mv rfl ?_
          refine S_mv rfl ?_
          refine S_lenl T.el37 rfl ?_
          refine S_bin rfl rfl rfl ?_
          refine S_nil (hK14 _ _ (V_keep [1, 2, 3, 12, 15, 48] (by simp only [proj, lk, reduceIte, Nat.reduceEqDiff]; rfl) ?_)); clear hK14
          refine V_condp rfl (fun c298 => ?_) (fun c298 => ?_)
          · skip
            obtain ⟨b1, rfl, _, _, hpc⟩ := ev2.get (i := i) (by omega)
            have p0 := (hpc i (by omega)).1
            have p1 := (hpc i (by omega)).2
            obtain ⟨b2, rfl, hqc⟩ := liv.get (i := i) (by omega)
            have h5 := r5 i (by omega)
            rw [← hLL] at h5
            obtain ⟨q0, q1, q2⟩ := hqc i (by omega)
            rw [h5] at q0 q1 q2
            simp only [] at q0 q1 q2
            have hqi := ckL_at hcl _ (ga_mem (E := Q) (i := i) (by omega))
            refine V_skipk [1, 2, 3, 12, 15] (by simp only [proj, lk, reduceIte, Nat.reduceEqDiff]; rfl) ?_
            refine hK13 _ _ ?_; clear hK13
            refine V_seq (fun K15 hK15 => ?_)
            refine V_block ?_
            refine V_seq (fun K16 hK16 => ?_)
            refine V_sr T.mix (by kernel_rfl) (fun K17 hK17 => ?_)
            refine S_mv rfl ?_
            refine S_mv rfl ?_
            refine S_ix T.el38 rfl rfl (by omega) (by omega) ?_
            rw [Nat.zero_add, Int.toNat_natCast]
            first | refine S_fa0 T.f122_0 rfl ?_ | refine S_fa T.f122_0 rfl ?_
            refine S_ldK T.ag9 rfl (fun K' hK' => ?_)
            simp (disch := omega) only [p0, p1, q0, q1, q2, oP_some, Nat.add_zero]
            refine hK' _ ?_; clear hK' K'
            refine S_mv rfl ?_
            refine S_mv rfl ?_
            refine S_ix T.el37 rfl rfl (by omega) (by omega) ?_
            rw [Nat.zero_add, Int.toNat_natCast]
            first | refine S_fa0 T.f104_0 rfl ?_ | refine S_fa T.f104_0 rfl ?_
            refine S_ldK T.ag9 rfl (fun K' hK' => ?_)
            simp (disch := omega) only [p0, p1, q0, q1, q2, oP_some, Nat.add_zero]
            refine hK' _ ?_; clear hK' K'
            refine S_bin rfl rfl rfl ?_
            refine S_mv rfl ?_
            refine S_dec (fun g299 => ?_) (fun g299 => ?_)
            · skip
              exact absurd rfl g299
            · skip
              refine S_gt rfl ?_
              refine S_mv rfl ?_
              refine S_gt rfl ?_
              refine S_mv rfl ?_
              refine S_gt rfl ?_
              refine S_ix T.el38 rfl rfl (by omega) (by omega) ?_
              rw [Nat.zero_add, Int.toNat_natCast]
              refine S_gt rfl ?_
              first | refine S_fa0 T.f122_1 rfl ?_ | refine S_fa T.f122_1 rfl ?_
              refine S_gt rfl ?_
              refine S_ldK T.ag3 rfl (fun K' hK' => ?_)
              simp (disch := omega) only [p0, p1, q0, q1, q2, oP_some, Nat.add_zero]
              refine hK' _ ?_; clear hK' K'
              refine S_gt rfl ?_
              refine S_mv rfl ?_
              refine S_gt rfl ?_
              refine S_mv rfl ?_
              refine S_gt rfl ?_
              refine S_ix T.el37 rfl rfl (by omega) (by omega) ?_
              rw [Nat.zero_add, Int.toNat_natCast]
              refine S_gt rfl ?_
              first | refine S_fa0 T.f104_1 rfl ?_ | refine S_fa T.f104_1 rfl ?_
              refine S_gt rfl ?_
              refine S_ldK T.ag9 rfl (fun K' hK' => ?_)
              simp (disch := omega) only [p0, p1, q0, q1, q2, oP_some, Nat.add_zero]
              refine hK' _ ?_; clear hK' K'
              refine S_gt rfl ?_
              refine S_lens T.kd9 rfl ?_
              refine S_gt rfl ?_
              refine S_bin rfl rfl rfl ?_
              refine S_pf rfl rfl ?_
              refine S_nil (hK17 _ _ (V_keep [1, 2, 3, 12, 15, 75] (by simp only [proj, lk, reduceIte, Nat.reduceEqDiff]; rfl) ?_)); clear hK17
              refine V_condp rfl (fun c299 => ?_) (fun c299 => ?_)
              · skip
                exact absurd rfl c299
              · skip
                refine V_skipk [1, 2, 3, 12, 15] (by simp only [proj, lk, reduceIte, Nat.reduceEqDiff]; rfl) ?_
                refine hK16 _ _ ?_; clear hK16
                refine V_sr T.mix (by kernel_rfl) (fun K18 hK18 => ?_)
                refine S_mv rfl ?_
                refine S_mv rfl ?_
                refine S_ix T.el37 rfl rfl (by omega) (by omega) ?_
                rw [Nat.zero_add, Int.toNat_natCast]
                first | refine S_fa0 T.f104_1 rfl ?_ | refine S_fa T.f104_1 rfl ?_
                refine S_ldK T.ag9 rfl (fun K' hK' => ?_)
                simp (disch := omega) only [p0, p1, q0, q1, q2, oP_some, Nat.add_zero]
                refine hK' _ ?_; clear hK' K'
                refine S_mv rfl ?_
                refine S_mv rfl ?_
                refine S_mv rfl ?_
                refine S_ix T.el38 rfl rfl (by omega) (by omega) ?_
                rw [Nat.zero_add, Int.toNat_natCast]
                first | refine S_fa0 T.f122_2 rfl ?_ | refine S_fa T.f122_2 rfl ?_
                refine S_ldK T.ag3 rfl (fun K' hK' => ?_)
                simp (disch := omega) only [p0, p1, q0, q1, q2, oP_some, Nat.add_zero]
                refine hK' _ ?_; clear hK' K'
                refine S_call T.hb61 rfl ?_
                have hpz := (pk_size (u := (ga Q i).2) lv).2
                refine FC.mono (work_spec h2 (ga Q i).2 hqi.2.2 lv (pkF (ga Q i).2 lv).size (fun hl p q1 q2 q3 => pk_work q1 q2 q3 hl) (by omega)) ?_
                rintro v' h' ⟨rfl, rfl⟩
                refine S_notb rfl ?_
                refine S_nil (hK18 _ _ (V_keep [1, 2, 3, 12, 15, 88] (by simp only [proj, lk, reduceIte, Nat.reduceEqDiff]; rfl) ?_)); clear hK18
                refine V_condb rfl (fun c302 => ?_) (fun c302 => ?_)
                · skip
                  cases c302
                · skip
                  refine V_skipk [1, 2, 3, 12, 15] (by simp only [proj, lk, reduceIte, Nat.reduceEqDiff]; rfl) ?_
                  refine hK15 _ _ ?_; clear hK15
                  refine V_reg T.mix (by kernel_rfl) ?_
                  refine S_mv rfl ?_
                  refine S_addN (i + 1) rfl rfl (by omega) (by omega) ?_
                  refine S_as rfl ?_
                  refine S_nilk [1, 2, 3, 12, 15] (by simp only [proj, lk, reduceIte, Nat.reduceEqDiff]; rfl) ?_
                  exact hK12 _ _ ⟨_, by omega, i + 1, by omega, rfl, rfl, rfl⟩
          · skip
            refine V_exitk [1, 2] rfl (by simp only [proj, lk, reduceIte, Nat.reduceEqDiff]; rfl) ?_
            refine hK10 _ _ ?_; clear hK10
            refine V_sr T.mix (by kernel_rfl) (fun K19 hK19 => ?_)
            refine S_mv rfl ?_
            refine S_lens T.kd9 rfl ?_
            refine S_mv rfl ?_
            refine S_call T.hb62 rfl ?_
            refine FC.mono (dear_spec h2 lo a c Q ev2 (by omega) (fun x hx => ⟨(ckL_at hcl x hx).2.1, (ckL_at hcl x hx).2.2⟩)) ?_
            rintro v' h' ⟨rfl, rfl⟩
            refine S_bin rfl rfl rfl ?_
            refine S_as rfl ?_
            refine S_nil (hK19 _ _ (V_keep [8] (by simp only [proj, lk, reduceIte, Nat.reduceEqDiff]; rfl) ?_)); clear hK19
            refine V_ret ?_
            refine hR _ _ (ret1 rfl rfl ?_)
            exact ⟨by rw [decide_eq_true (by omega)], hE1.trans hE2⟩
end Go.Proofs.Qxb6500404aGreat
