import Derived.Test.Qxb6500404aGreatUk
set_option linter.unusedVariables false
set_option linter.unusedSimpArgs false
namespace Go.Proofs.Qxb6500404aGreat
open Go.Eng Go.Bits Go.Blk HufW Go.Arc

def Scr (base : Nat) (h : Heap) (sa : Option Addr) (n : Nat) : Prop := ∀ i, i < n → ∃ sb so, sa = some ⟨sb, so, none⟩ ∧ sb < base ∧ ∃ k a b c s u, cellsH h ⟨sb, so + i * 6, none⟩ 0 6 = some [.int .i64 k, .int .i64 a, .int .i64 b, .int .i64 c, .string s, .string u] ∧ s.size ≤ 9223372036854775807 ∧ a < 9223372036854775808
theorem cellsH_same {h h' : Heap} {b o : Nat} (he : h'[b]? = h[b]?) : ∀ (n i : Nat), cellsH h' ⟨b, o, none⟩ i n = cellsH h ⟨b, o, none⟩ i n
  | 0, _ => rfl
  | n + 1, i => by
    have e : cellH h' ((⟨b, o, none⟩ : Addr).add i) = cellH h ((⟨b, o, none⟩ : Addr).add i) := by rw [add_mk]; unfold cellH; simp only [he]
    simp only [cellsH, e, cellsH_same he n (i + 1)]
theorem Scr.ext {base : Nat} {h h' : Heap} {sa : Option Addr} {n : Nat} (hs : Scr base h sa n) (hb : base ≤ h.size) (he : Ext (fun b => base ≤ b) h h') : Scr base h' sa n := by
  intro i hi
  obtain ⟨sb, so, e, hlt, k, a, b, c, s, u, hc, hz⟩ := hs i hi
  exact ⟨sb, so, e, hlt, k, a, b, c, s, u, by rw [cellsH_same (he.2 sb (by omega) (by omega))]; exact hc, hz⟩
theorem oq {h : Heap} {b : Nat} {k oa ob oc : Int} {os ot : ByteArray} {t : TypeId} (hB : B h b #[.int .i64 k, .int .i64 oa, .int .i64 ob, .int .i64 oc, .string os, .string ot] t) : cellH h ⟨b, 0, none⟩ = some (.int .i64 k) ∧ cellH h ⟨b, 1, none⟩ = some (.int .i64 oa) ∧ cellH h ⟨b, 2, none⟩ = some (.int .i64 ob) ∧ cellH h ⟨b, 4, none⟩ = some (.string os) := ⟨hB.cell 0, hB.cell 1, hB.cell 2, hB.cell 4⟩
section lw2
variable {h h' : Heap} {c : CF} {Q : Nat → Prop} {d : DR} {L E : List En} {I : List In} {N : Nat}
theorem LW.reg (w : LW h c Q d L E I N) (he : Ext (fun z => z = c.X) h h') {nm dt rw : ByteArray} {pn pl : Bool} (db : DB h' c.X { d with nm := nm, dt := dt, rw := rw, pn := pn, pl := pl }) (z0 : nm.size ≤ 9223372036854775807) (z1 : dt.size ≤ 9223372036854775807) (z2 : rw.size ≤ 9223372036854775807) : LW h' c Q { d with nm := nm, dt := dt, rw := rw, pn := pn, pl := pl } L E I N := by
  have hq : ∀ b, Q b → ¬ (b = c.X) := fun b q e => by have := (w.kp.q b q).1; omega
  have kp : KP h c.X Q { d with nm := nm, dt := dt, rw := rw, pn := pn, pl := pl } L N := ⟨w.kp.q, w.kp.ls, w.kp.ln, w.kp.l5, w.kp.oe, w.kp.oi, w.kp.fe, w.kp.he, w.kp.hl, w.kp.fi, w.kp.hi, w.kp.ne, w.kp.ni, w.kp.ae, w.kp.ai⟩
  exact ⟨w.s, w.r.hi w.s he (fun z e => by omega), db, kp.desk he, w.ex.ext he hq, w.em.ext he hq, w.ix.ext he hq, w.im.ext he hq, z0, z1, z2⟩
theorem LW.lst (w : LW h c Q d L E I N) (he : Ext (fun z => z = c.X ∨ blkA d.ls.a = some z) h h') {s : SL} {L' : List En} (db : DB h' c.X { d with ls := s }) (ho : OwnR (c.X + 1) h' s.a L'.length s.c (fE L') 104 2) (hn : s.n = L'.length) (h5 : L'.length ≤ 5) (hb : ∀ b, Q b → blkA s.a ≠ some b) : LW h' c Q { d with ls := s } L' E I N := by
  have hq : ∀ b, Q b → ¬ (b = c.X ∨ blkA d.ls.a = some b) := fun b q e => by
    have := w.kp.q b q
    rcases e with e | e
    · omega
    · exact this.2.2 e
  have k := w.kp
  have hz := he.1
  exact ⟨w.s, w.r.hi w.s he (fun z e => by rcases e with e | e; (omega); (have := k.lsb e; omega)), db, ⟨fun b q => ⟨(k.q b q).1, Nat.lt_of_lt_of_le (k.q b q).2.1 hz, hb b q⟩, ho, hn, h5, fun i hi => (k.oe i hi).ext he hq, fun i hi => (k.oi i hi).ext he hq, k.fe.ext he hq, k.he.ext he hq, k.hl.ext he hq, k.fi.ext he hq, k.hi.ext he hq, k.ne, k.ni, k.ae, k.ai⟩, w.ex.ext he hq, w.em.ext he hq, w.ix.ext he hq, w.im.ext he hq, w.z0, w.z1, w.z2⟩
end lw2
theorem fE_snoc (L : List En) (x : En) : fE (L ++ [x]) = fE L ++ [.string x.1, .string x.2] := by rw [fE_app]; rfl

theorem wt_rng {W : WA} {lo hi : Nat} (h1 : lo ≤ W.T) (h2 : lo ≤ W.tb) (sp : Sp W) (hP : W.P + 4 < hi) (hB : W.XB + 10 < hi) (hL : lo ≤ W.P) : ∀ z, WT W z → lo ≤ z ∧ z < hi := fun z e => by
  have l1 := sp.l1; have l2 := sp.l2
  rcases e with e | e | e | e | e | e
  · omega
  · omega
  · rw [ct_def] at e; omega
  · rw [ct_def] at e; omega
  · have := sp.l3 z e; omega
  · rw [pt_def] at e; omega
theorem wts_rng {V : SA} {lo hi : Nat} (h1 : lo ≤ V.T) (h2 : lo ≤ V.tb) (sp : Ss V) (hD : V.D + 3 < hi) : ∀ z, WTs V z → lo ≤ z ∧ z < hi := fun z e => by
  have l1 := sp.l1; have l2 := sp.l2; have l3 := sp.l3
  rcases e with e | e | e | e | e
  · omega
  · omega
  · rw [ct_def] at e; omega
  · rw [ct_def] at e; omega
  · omega
def dz : DR := ⟨⟨#[]⟩, ⟨#[]⟩, ⟨#[]⟩, SL.z, SL.z, SL.z, SL.z, SL.z, fun _ => SL.z, fun _ => SL.z, 0, 0, SL.z, SL.z, 0, 0, false, SL.z, SL.z, false, SL.z⟩
set_option maxHeartbeats 6400000 in
theorem write_spec (h : Heap) (c : CF) (Q : Nat → Prop) (d : DR) (L F : List En) (I : List In) (N : Nat) (w : LW h c Q d L F I N) (hN : N ≤ 8999999999990) (k oa ob oc : Int) (os ot : ByteArray) (hos : os.size ≤ 9223372036854775807) (hoa : oa < 9223372036854775808) :
    FC Tryz.prog 22 (#[.pointer (some ⟨c.X, 0, none⟩), .agg #[.int .i64 k, .int .i64 oa, .int .i64 ob, .int .i64 oc, .string os, .string ot]] : Array Value) h fun rv h' => rv = .tuple #[] ∧ LWE h' c (N + 2) ∧ Ext (MS c) h h' := by
  have s1 := w.s.a1
  have s2 := w.s.a2
  have s3 := w.s.a3
  have s0 := w.s.b0
  have hXl := w.xlt
  refine FC_of [(0, .pointer (some ⟨c.X, 0, none⟩)), (1, .agg #[.int .i64 k, .int .i64 oa, .int .i64 ob, .int .i64 oc, .string os, .string ot])] Tryz.func22 rfl Tryz.ntmps22 (by simp) rfl (fun R hR => ?_)
  refine V_sr T.mix (by kernel_rfl) (fun K1 hK1 => ?_)
  refine S_boxA rfl ?_
  generalize hh : Array.push h _ = h1
  have o_ : B h1 h.size #[.int .i64 k, .int .i64 oa, .int .i64 ob, .int .i64 oc, .string os, .string ot] 46 := by rw [← hh]; exact B.new _ _ _
  have hEh1 : Ext (fun _ => False) h h1 := by rw [← hh]; exact Ext.push _ _ _
  clear hh
  have w1 := w.new hEh1
  have hX1 : Ext (MS c) h h1 := hEh1.mono fun _ f => f.elim
  have wfin : LWE h1 c (N + 2) := (w1.up (by omega)).e
  have hEfin := hX1
  have hz0 := w.z0
  have hz1 := w.z1
  have hz2 := w.z2
  have hln := w.kp.ln
  have hl5 := w.kp.l5
  have hX1l := w1.xlt
  try clear v0 v1 v2 v3 v4 v5 v6 v7 ve vi_ v16 v17 v18 v19 v20 v21 v22 v23 v24 v25 v26 vok
  obtain ⟨v0, v1, v2, v3, v4, v5, v6, v7, ve, vi_, v16, v17, v18, v19, v20, v21, v22, v23, v24, v25, v26, vok⟩ := ddq (w1.db)
  rw [hln] at v3
  try clear o0 o1 o2 o4
  obtain ⟨o0, o1, o2, o4⟩ := oq (o_)
  refine S_nil (hK1 _ _ (V_keep [0, 3] (by simp only [proj, lk, reduceIte, Nat.reduceEqDiff]; rfl) ?_)); clear hK1
  refine V_sr T.mix (by kernel_rfl) (fun K2 hK2 => ?_)
  first | refine S_fa0 T.f46_0 rfl ?_ | refine S_fa T.f46_0 rfl ?_
  refine S_ldK T.ag3 rfl (fun K' hK' => ?_)
  simp (disch := omega) only [v0, v1, v2, v3, v4, v5, v6, v7, ve, vi_, v16, v17, v18, v19, v20, v21, v22, v23, v24, v25, v26, o0, o1, o2, o4, oP_some, Nat.add_zero]
  refine hK' _ ?_; clear hK' K'
  refine S_nil (hK2 _ _ (V_keep [0, 3, 6] (by simp only [proj, lk, reduceIte, Nat.reduceEqDiff]; rfl) ?_)); clear hK2
  refine V_block ?_
  refine V_sr T.mix (by kernel_rfl) (fun K3 hK3 => ?_)
  refine S_bin rfl rfl rfl ?_
  refine S_as rfl ?_
  refine S_nil (hK3 _ _ (V_keep [0, 3, 6, 7] (by simp only [proj, lk, reduceIte, Nat.reduceEqDiff]; rfl) ?_)); clear hK3
  refine V_condp rfl (fun c419 => ?_) (fun c419 => ?_)
  · skip
    refine V_reg T.mix (by kernel_rfl) ?_
    refine S_mv rfl ?_
    refine S_mv rfl ?_
    refine S_nc rfl ?_
    first | refine S_fa0 T.f42_0 rfl ?_ | refine S_fa T.f42_0 rfl ?_
    refine S_ldK T.ag9 rfl (fun K' hK' => ?_)
    simp (disch := omega) only [v0, v1, v2, v3, v4, v5, v6, v7, ve, vi_, v16, v17, v18, v19, v20, v21, v22, v23, v24, v25, v26, o0, o1, o2, o4, oP_some, Nat.add_zero]
    refine hK' _ ?_; clear hK' K'
    first | refine S_fa0 T.f46_4 rfl ?_ | refine S_fa T.f46_4 rfl ?_
    refine S_ldK T.ag9 rfl (fun K' hK' => ?_)
    simp (disch := omega) only [v0, v1, v2, v3, v4, v5, v6, v7, ve, vi_, v16, v17, v18, v19, v20, v21, v22, v23, v24, v25, v26, o0, o1, o2, o4, oP_some, Nat.add_zero]
    refine hK' _ ?_; clear hK' K'
    refine S_call T.hb43 rfl ?_
    have hlg := lengthen_spec d.nm os h1 8 (by omega) w.z0
    refine FC.mono hlg ?_
    rintro v' h' ⟨⟨u2, rfl, hu2⟩, rfl⟩
    refine S_nc rfl ?_
    first | refine S_fa0 T.f42_0 rfl ?_ | refine S_fa T.f42_0 rfl ?_
    refine S_st T.sz9 rfl rfl rfl rfl (by simp (disch := omega) only [vok]) ?_
    generalize hh : putH _ _ _ = h2
    have db9 : DB h2 c.X { d with nm := u2 } := by rw [← hh]; exact (w1.db.putA 0 _).cong (arr_ext (dk27 rfl rfl rfl rfl rfl rfl rfl rfl rfl rfl rfl rfl rfl rfl rfl rfl rfl rfl rfl rfl rfl rfl rfl rfl rfl rfl rfl))
    have hEh2 : Ext (fun z => z = c.X) h1 h2 := by rw [← hh]; exact Ext.put _ _ rfl
    clear hh
    try clear v0 v1 v2 v3 v4 v5 v6 v7 ve vi_ v16 v17 v18 v19 v20 v21 v22 v23 v24 v25 v26 vok
    obtain ⟨v0, v1, v2, v3, v4, v5, v6, v7, ve, vi_, v16, v17, v18, v19, v20, v21, v22, v23, v24, v25, v26, vok⟩ := ddq (db9)
    have w2 := w1.reg hEh2 db9 (by omega) (w.z1) (w.z2)
    clear wfin hEfin
    have wfin : LWE h2 c (N + 2) := (w2.up (by omega)).e
    have hEfin : Ext (MS c) h h2 := (hX1).trans (hEh2.mono fun z e => ms_hi (by omega))
    refine S_nilk [] (by simp only [proj, lk, reduceIte, Nat.reduceEqDiff]; rfl) ?_
    -- end
    refine hR _ _ (ret0 rfl ?_)
    exact ⟨rfl, wfin, hEfin⟩
  · skip
    refine V_sr T.mix (by kernel_rfl) (fun K4 hK4 => ?_)
    refine S_bin rfl rfl rfl ?_
    refine S_as rfl ?_
    refine S_nil (hK4 _ _ (V_keep [0, 3, 6, 19] (by simp only [proj, lk, reduceIte, Nat.reduceEqDiff]; rfl) ?_)); clear hK4
    refine V_condp rfl (fun c421 => ?_) (fun c421 => ?_)
    · skip
      refine V_reg T.mix (by kernel_rfl) ?_
      refine S_mv rfl ?_
      refine S_mv rfl ?_
      refine S_nc rfl ?_
      first | refine S_fa0 T.f42_1 rfl ?_ | refine S_fa T.f42_1 rfl ?_
      refine S_ldK T.ag9 rfl (fun K' hK' => ?_)
      simp (disch := omega) only [v0, v1, v2, v3, v4, v5, v6, v7, ve, vi_, v16, v17, v18, v19, v20, v21, v22, v23, v24, v25, v26, o0, o1, o2, o4, oP_some, Nat.add_zero]
      refine hK' _ ?_; clear hK' K'
      first | refine S_fa0 T.f46_4 rfl ?_ | refine S_fa T.f46_4 rfl ?_
      refine S_ldK T.ag9 rfl (fun K' hK' => ?_)
      simp (disch := omega) only [v0, v1, v2, v3, v4, v5, v6, v7, ve, vi_, v16, v17, v18, v19, v20, v21, v22, v23, v24, v25, v26, o0, o1, o2, o4, oP_some, Nat.add_zero]
      refine hK' _ ?_; clear hK' K'
      refine S_call T.hb43 rfl ?_
      have hlg := lengthen_spec d.dt os h1 256 (by omega) w.z1
      refine FC.mono hlg ?_
      rintro v' h' ⟨⟨u2, rfl, hu2⟩, rfl⟩
      refine S_nc rfl ?_
      first | refine S_fa0 T.f42_1 rfl ?_ | refine S_fa T.f42_1 rfl ?_
      refine S_st T.sz9 rfl rfl rfl rfl (by simp (disch := omega) only [vok]) ?_
      generalize hh : putH _ _ _ = h2
      have db9 : DB h2 c.X { d with dt := u2 } := by rw [← hh]; exact (w1.db.putA 1 _).cong (arr_ext (dk27 rfl rfl rfl rfl rfl rfl rfl rfl rfl rfl rfl rfl rfl rfl rfl rfl rfl rfl rfl rfl rfl rfl rfl rfl rfl rfl rfl))
      have hEh2 : Ext (fun z => z = c.X) h1 h2 := by rw [← hh]; exact Ext.put _ _ rfl
      clear hh
      try clear v0 v1 v2 v3 v4 v5 v6 v7 ve vi_ v16 v17 v18 v19 v20 v21 v22 v23 v24 v25 v26 vok
      obtain ⟨v0, v1, v2, v3, v4, v5, v6, v7, ve, vi_, v16, v17, v18, v19, v20, v21, v22, v23, v24, v25, v26, vok⟩ := ddq (db9)
      have w2 := w1.reg hEh2 db9 (w.z0) (by omega) (w.z2)
      clear wfin hEfin
      have wfin : LWE h2 c (N + 2) := (w2.up (by omega)).e
      have hEfin : Ext (MS c) h h2 := (hX1).trans (hEh2.mono fun z e => ms_hi (by omega))
      refine S_nilk [] (by simp only [proj, lk, reduceIte, Nat.reduceEqDiff]; rfl) ?_
      -- end
      refine hR _ _ (ret0 rfl ?_)
      exact ⟨rfl, wfin, hEfin⟩
    · skip
      refine V_sr T.mix (by kernel_rfl) (fun K5 hK5 => ?_)
      refine S_bin rfl rfl rfl ?_
      refine S_as rfl ?_
      refine S_nil (hK5 _ _ (V_keep [0, 3, 6, 31] (by simp only [proj, lk, reduceIte, Nat.reduceEqDiff]; rfl) ?_)); clear hK5
      refine V_condp rfl (fun c423 => ?_) (fun c423 => ?_)
      · skip
        refine V_seqJ (fun l h' => ∃ (h2 : Heap) (d2 : DR) (L2 : List En), (LW h2 c Q d2 L2 F I N) ∧ (Ext (MS c) h h2) ∧ l = [(0, .pointer (some ⟨c.X, 0, none⟩))] ∧ h2 = h') ?_ ?_
        · skip
          refine V_sr T.mix (by kernel_rfl) (fun K7 hK7 => ?_)
          refine S_mv rfl ?_
          refine S_nc rfl ?_
          first | refine S_fa0 T.f42_3 rfl ?_ | refine S_fa T.f42_3 rfl ?_
          refine S_ldK T.ag37 rfl (fun K' hK' => ?_)
          simp (disch := omega) only [v0, v1, v2, v3, v4, v5, v6, v7, ve, vi_, v16, v17, v18, v19, v20, v21, v22, v23, v24, v25, v26, o0, o1, o2, o4, oP_some, Nat.add_zero]
          refine hK' _ ?_; clear hK' K'
          refine S_lenl T.el37 rfl ?_
          refine S_bin rfl rfl rfl ?_
          refine S_nil (hK7 _ _ (V_keep [0, 38] (by simp only [proj, lk, reduceIte, Nat.reduceEqDiff]; rfl) ?_)); clear hK7
          refine V_condp rfl (fun c424 => ?_) (fun c424 => ?_)
          · skip
            refine V_reg T.mix (by kernel_rfl) ?_
            refine S_mv rfl ?_
            refine S_mv rfl ?_
            refine S_nc rfl ?_
            first | refine S_fa0 T.f42_3 rfl ?_ | refine S_fa T.f42_3 rfl ?_
            refine S_ldK T.ag37 rfl (fun K' hK' => ?_)
            simp (disch := omega) only [v0, v1, v2, v3, v4, v5, v6, v7, ve, vi_, v16, v17, v18, v19, v20, v21, v22, v23, v24, v25, v26, o0, o1, o2, o4, oP_some, Nat.add_zero]
            refine hK' _ ?_; clear hK' K'
            refine S_mv rfl ?_
            refine S_nc rfl ?_
            first | refine S_fa0 T.f42_0 rfl ?_ | refine S_fa T.f42_0 rfl ?_
            refine S_ldK T.ag9 rfl (fun K' hK' => ?_)
            simp (disch := omega) only [v0, v1, v2, v3, v4, v5, v6, v7, ve, vi_, v16, v17, v18, v19, v20, v21, v22, v23, v24, v25, v26, o0, o1, o2, o4, oP_some, Nat.add_zero]
            refine hK' _ ?_; clear hK' K'
            refine S_mv rfl ?_
            refine S_nc rfl ?_
            first | refine S_fa0 T.f42_1 rfl ?_ | refine S_fa T.f42_1 rfl ?_
            refine S_ldK T.ag9 rfl (fun K' hK' => ?_)
            simp (disch := omega) only [v0, v1, v2, v3, v4, v5, v6, v7, ve, vi_, v16, v17, v18, v19, v20, v21, v22, v23, v24, v25, v26, o0, o1, o2, o4, oP_some, Nat.add_zero]
            refine hK' _ ?_; clear hK' K'
            refine S_bld rfl (T.bld104_0_1 _ _) ?_
            refine S_bs T.ei37 rfl (by decide) (by decide) (T.bs37_1_0 _ _) ?_
            refine S_appx (lo := c.X + 1) T.ei37 T.ni37 T.us37 rfl rfl rfl (OwnR.ext w1.kp.ls (Ext.push (fun _ => False) _ _) (fun _ _ f => f)) (by simp; omega) (cellsH_new _ _ _) rfl (by omega) (by decide) (by decide) rfl (fun a6 c6 h6 ho6 hE6x hb6x => ?_)
            have hE16 : Ext (fun z => blkA d.ls.a = some z) h1 h6 := (Ext.push _ _ _).trans hE6x
            have db6 := w1.db.ext hE16 (fun e => by have h9 := w.kp.lsb e; omega)
            have hb6 : blkA a6 = blkA d.ls.a ∨ ∃ b, blkA a6 = some b ∧ h1.size ≤ b := by rcases hb6x with q | q; (exact .inl q); (exact .inr ⟨_, q, by simp⟩)
            try clear v0 v1 v2 v3 v4 v5 v6 v7 ve vi_ v16 v17 v18 v19 v20 v21 v22 v23 v24 v25 v26 vok
            obtain ⟨v0, v1, v2, v3, v4, v5, v6, v7, ve, vi_, v16, v17, v18, v19, v20, v21, v22, v23, v24, v25, v26, vok⟩ := ddq (db6)
            refine S_nc rfl ?_
            first | refine S_fa0 T.f42_3 rfl ?_ | refine S_fa T.f42_3 rfl ?_
            refine S_st T.sz37 rfl rfl rfl rfl (by simp (disch := omega) only [vok]) ?_
            generalize hh : putH _ _ _ = h7
            have db7 : DB h7 c.X { d with ls := ⟨a6, L.length + 1, c6⟩ } := by rw [← hh]; exact (db6.putA 3 _).cong (arr_ext (dk27 rfl rfl rfl rfl rfl rfl rfl rfl rfl rfl rfl rfl rfl rfl rfl rfl rfl rfl rfl rfl rfl rfl rfl rfl rfl rfl rfl))
            have hEh7 : Ext (fun z => z = c.X) h6 h7 := by rw [← hh]; exact Ext.put _ _ rfl
            clear hh
            try clear v0 v1 v2 v3 v4 v5 v6 v7 ve vi_ v16 v17 v18 v19 v20 v21 v22 v23 v24 v25 v26 vok
            obtain ⟨v0, v1, v2, v3, v4, v5, v6, v7, ve, vi_, v16, v17, v18, v19, v20, v21, v22, v23, v24, v25, v26, vok⟩ := ddq (db7)
            have ho7 := OwnR.ext ho6 hEh7 (fun b e z => by rcases hb6 with q | ⟨b2, q, q2⟩; (rw [show blkA a6 = some b by rw [e]; rfl] at q; have h9 := w.kp.lsb q.symm; omega); (rw [show blkA a6 = some b by rw [e]; rfl] at q; have z2 : b = b2 := (by simpa using q); have h9 := w1.xlt; omega))
            have w7 : LW h7 c Q { d with ls := ⟨a6, L.length + 1, c6⟩ } (L ++ [(d.nm, d.dt)]) F I N := w1.lst ((hE16.mono fun _ e => .inr e).trans (hEh7.mono fun _ e => .inl e)) db7 (by rw [fE_snoc, List.length_append]; exact ho7) (by rw [List.length_append]; rfl) (by rw [List.length_append]; simp only [List.length_cons, List.length_nil]; omega) (fun b q e => by rcases hb6 with z | ⟨b2, z, z2⟩; (exact (w.kp.q b q).2.2 (by rw [← z]; exact e)); (have h8 : b2 = b := (by rw [show blkA a6 = some b from e] at z; simpa using z.symm); have h9 := (w1.kp.q b q).2.1; omega))
            have hE7 : Ext (MS c) h h7 := (hX1.trans (hE16.mono fun z e => ms_hi (by have h9 := w.kp.lsb e; omega))).trans (hEh7.mono fun z e => ms_hi (by omega))
            refine S_nilk [0] (by simp only [proj, lk, reduceIte, Nat.reduceEqDiff]; rfl) ?_
            exact ⟨h7, { d with ls := ⟨a6, L.length + 1, c6⟩ }, L ++ [(d.nm, d.dt)], w7, hE7, rfl, rfl⟩
          · skip
            refine V_skipk [0] (by simp only [proj, lk, reduceIte, Nat.reduceEqDiff]; rfl) ?_
            exact ⟨h1, d, L, w1, hX1, rfl, rfl⟩
        rintro l h' ⟨h2, d2, L2, w2, hE2x, rfl, rfl⟩
        clear wfin hEfin
        try clear v0 v1 v2 v3 v4 v5 v6 v7 ve vi_ v16 v17 v18 v19 v20 v21 v22 v23 v24 v25 v26 vok
        obtain ⟨v0, v1, v2, v3, v4, v5, v6, v7, ve, vi_, v16, v17, v18, v19, v20, v21, v22, v23, v24, v25, v26, vok⟩ := ddq (w2.db)
        have wfin := trivial
        have hEfin := trivial
        refine V_sr T.mix (by kernel_rfl) (fun K8 hK8 => ?_)
        refine S_mv rfl ?_
        refine S_nc rfl ?_
        first | refine S_fa0 T.f42_0 rfl ?_ | refine S_fa T.f42_0 rfl ?_
        refine S_st T.sz9 rfl rfl rfl rfl (by simp (disch := omega) only [vok]) ?_
        generalize hh : putH _ _ _ = h8
        have db8 : DB h8 c.X { d2 with nm := ⟨#[]⟩ } := by rw [← hh]; exact (w2.db.putA 0 _).cong (arr_ext (dk27 rfl rfl rfl rfl rfl rfl rfl rfl rfl rfl rfl rfl rfl rfl rfl rfl rfl rfl rfl rfl rfl rfl rfl rfl rfl rfl rfl))
        have hEh8 : Ext (fun z => z = c.X) h2 h8 := by rw [← hh]; exact Ext.put _ _ rfl
        clear hh
        try clear v0 v1 v2 v3 v4 v5 v6 v7 ve vi_ v16 v17 v18 v19 v20 v21 v22 v23 v24 v25 v26 vok
        obtain ⟨v0, v1, v2, v3, v4, v5, v6, v7, ve, vi_, v16, v17, v18, v19, v20, v21, v22, v23, v24, v25, v26, vok⟩ := ddq (db8)
        have w8 := w2.reg hEh8 db8 (Nat.zero_le _) w2.z1 w2.z2
        refine S_nil (hK8 _ _ (V_keep [0] (by simp only [proj, lk, reduceIte, Nat.reduceEqDiff]; rfl) ?_)); clear hK8
        refine V_reg T.mix (by kernel_rfl) ?_
        refine S_mv rfl ?_
        refine S_nc rfl ?_
        first | refine S_fa0 T.f42_1 rfl ?_ | refine S_fa T.f42_1 rfl ?_
        refine S_st T.sz9 rfl rfl rfl rfl (by simp (disch := omega) only [vok]) ?_
        generalize hh : putH _ _ _ = h9
        have db9 : DB h9 c.X { d2 with nm := ⟨#[]⟩, dt := ⟨#[]⟩ } := by rw [← hh]; exact (w8.db.putA 1 _).cong (arr_ext (dk27 rfl rfl rfl rfl rfl rfl rfl rfl rfl rfl rfl rfl rfl rfl rfl rfl rfl rfl rfl rfl rfl rfl rfl rfl rfl rfl rfl))
        have hEh9 : Ext (fun z => z = c.X) h8 h9 := by rw [← hh]; exact Ext.put _ _ rfl
        clear hh
        try clear v0 v1 v2 v3 v4 v5 v6 v7 ve vi_ v16 v17 v18 v19 v20 v21 v22 v23 v24 v25 v26 vok
        obtain ⟨v0, v1, v2, v3, v4, v5, v6, v7, ve, vi_, v16, v17, v18, v19, v20, v21, v22, v23, v24, v25, v26, vok⟩ := ddq (db9)
        have w9 := w8.reg hEh9 db9 (Nat.zero_le _) (Nat.zero_le _) w2.z2
        clear wfin hEfin
        have wfin : LWE h9 c (N + 2) := (w9.up (by omega)).e
        have hEfin : Ext (MS c) h h9 := (hE2x.trans (hEh8.mono fun z e => ms_hi (by omega))).trans (hEh9.mono fun z e => ms_hi (by omega))
        refine S_nilk [] (by simp only [proj, lk, reduceIte, Nat.reduceEqDiff]; rfl) ?_
        -- end
        refine hR _ _ (ret0 rfl ?_)
        exact ⟨rfl, wfin, hEfin⟩
      · skip
        refine V_sr T.mix (by kernel_rfl) (fun K9 hK9 => ?_)
        refine S_bin rfl rfl rfl ?_
        refine S_as rfl ?_
        refine S_nil (hK9 _ _ (V_keep [0, 3, 6, 63] (by simp only [proj, lk, reduceIte, Nat.reduceEqDiff]; rfl) ?_)); clear hK9
        refine V_condp rfl (fun c429 => ?_) (fun c429 => ?_)
        · skip
          refine V_reg T.mix (by kernel_rfl) ?_
          refine S_mv rfl ?_
          refine S_mv rfl ?_
          refine S_nc rfl ?_
          first | refine S_fa0 T.f42_2 rfl ?_ | refine S_fa T.f42_2 rfl ?_
          refine S_ldK T.ag9 rfl (fun K' hK' => ?_)
          simp (disch := omega) only [v0, v1, v2, v3, v4, v5, v6, v7, ve, vi_, v16, v17, v18, v19, v20, v21, v22, v23, v24, v25, v26, o0, o1, o2, o4, oP_some, Nat.add_zero]
          refine hK' _ ?_; clear hK' K'
          first | refine S_fa0 T.f46_4 rfl ?_ | refine S_fa T.f46_4 rfl ?_
          refine S_ldK T.ag9 rfl (fun K' hK' => ?_)
          simp (disch := omega) only [v0, v1, v2, v3, v4, v5, v6, v7, ve, vi_, v16, v17, v18, v19, v20, v21, v22, v23, v24, v25, v26, o0, o1, o2, o4, oP_some, Nat.add_zero]
          refine hK' _ ?_; clear hK' K'
          refine S_call T.hb43 rfl ?_
          have hlg := lengthen_spec d.rw os h1 1200 (by omega) w.z2
          refine FC.mono hlg ?_
          rintro v' h' ⟨⟨u2, rfl, hu2⟩, rfl⟩
          refine S_nc rfl ?_
          first | refine S_fa0 T.f42_2 rfl ?_ | refine S_fa T.f42_2 rfl ?_
          refine S_st T.sz9 rfl rfl rfl rfl (by simp (disch := omega) only [vok]) ?_
          generalize hh : putH _ _ _ = h2
          have db9 : DB h2 c.X { d with rw := u2 } := by rw [← hh]; exact (w1.db.putA 2 _).cong (arr_ext (dk27 rfl rfl rfl rfl rfl rfl rfl rfl rfl rfl rfl rfl rfl rfl rfl rfl rfl rfl rfl rfl rfl rfl rfl rfl rfl rfl rfl))
          have hEh2 : Ext (fun z => z = c.X) h1 h2 := by rw [← hh]; exact Ext.put _ _ rfl
          clear hh
          try clear v0 v1 v2 v3 v4 v5 v6 v7 ve vi_ v16 v17 v18 v19 v20 v21 v22 v23 v24 v25 v26 vok
          obtain ⟨v0, v1, v2, v3, v4, v5, v6, v7, ve, vi_, v16, v17, v18, v19, v20, v21, v22, v23, v24, v25, v26, vok⟩ := ddq (db9)
          have w2 := w1.reg hEh2 db9 (w.z0) (w.z1) (by omega)
          clear wfin hEfin
          have wfin : LWE h2 c (N + 2) := (w2.up (by omega)).e
          have hEfin : Ext (MS c) h h2 := (hX1).trans (hEh2.mono fun z e => ms_hi (by omega))
          refine S_nilk [] (by simp only [proj, lk, reduceIte, Nat.reduceEqDiff]; rfl) ?_
          -- end
          refine hR _ _ (ret0 rfl ?_)
          exact ⟨rfl, wfin, hEfin⟩
        · skip
          refine V_sr T.mix (by kernel_rfl) (fun K10 hK10 => ?_)
          refine S_bin rfl rfl rfl ?_
          refine S_as rfl ?_
          refine S_nil (hK10 _ _ (V_keep [0, 3, 6, 75] (by simp only [proj, lk, reduceIte, Nat.reduceEqDiff]; rfl) ?_)); clear hK10
          refine V_condp rfl (fun c431 => ?_) (fun c431 => ?_)
          · skip
            refine V_sr T.mix (by kernel_rfl) (fun K11 hK11 => ?_)
            first | refine S_fa0 T.f46_1 rfl ?_ | refine S_fa T.f46_1 rfl ?_
            refine S_ldK T.ag3 rfl (fun K' hK' => ?_)
            simp (disch := omega) only [v0, v1, v2, v3, v4, v5, v6, v7, ve, vi_, v16, v17, v18, v19, v20, v21, v22, v23, v24, v25, v26, o0, o1, o2, o4, oP_some, Nat.add_zero]
            refine hK' _ ?_; clear hK' K'
            refine S_bin rfl rfl rfl ?_
            refine S_mv rfl ?_
            refine S_dec (fun g432 => ?_) (fun g432 => ?_)
            · skip
              refine S_gt rfl ?_
              first | refine S_fa0 T.f46_1 rfl ?_ | refine S_fa T.f46_1 rfl ?_
              refine S_gt rfl ?_
              refine S_ldK T.ag3 rfl (fun K' hK' => ?_)
              simp (disch := omega) only [v0, v1, v2, v3, v4, v5, v6, v7, ve, vi_, v16, v17, v18, v19, v20, v21, v22, v23, v24, v25, v26, o0, o1, o2, o4, oP_some, Nat.add_zero]
              refine hK' _ ?_; clear hK' K'
              refine S_gt rfl ?_
              refine S_quo rfl rfl (by omega) (by omega) (by omega) ?_
              refine S_gt rfl ?_
              refine S_mv rfl ?_
              refine S_gt rfl ?_
              refine S_nc rfl ?_
              refine S_gt rfl ?_
              first | refine S_fa0 T.f42_2 rfl ?_ | refine S_fa T.f42_2 rfl ?_
              refine S_gt rfl ?_
              refine S_ldK T.ag9 rfl (fun K' hK' => ?_)
              simp (disch := omega) only [v0, v1, v2, v3, v4, v5, v6, v7, ve, vi_, v16, v17, v18, v19, v20, v21, v22, v23, v24, v25, v26, o0, o1, o2, o4, oP_some, Nat.add_zero]
              refine hK' _ ?_; clear hK' K'
              refine S_gt rfl ?_
              refine S_lens T.kd9 rfl ?_
              refine S_gt rfl ?_
              refine S_bin rfl rfl rfl ?_
              refine S_pt rfl rfl ?_
              refine S_mv rfl ?_
              refine S_dec (fun g432a => ?_) (fun g432a => ?_)
              · skip
                refine S_gt rfl ?_
                refine S_mv rfl ?_
                refine S_gt rfl ?_
                refine S_nc rfl ?_
                refine S_gt rfl ?_
                first | refine S_fa0 T.f42_2 rfl ?_ | refine S_fa T.f42_2 rfl ?_
                refine S_gt rfl ?_
                refine S_ldK T.ag9 rfl (fun K' hK' => ?_)
                simp (disch := omega) only [v0, v1, v2, v3, v4, v5, v6, v7, ve, vi_, v16, v17, v18, v19, v20, v21, v22, v23, v24, v25, v26, o0, o1, o2, o4, oP_some, Nat.add_zero]
                refine hK' _ ?_; clear hK' K'
                refine S_gt rfl ?_
                refine S_lens T.kd9 rfl ?_
                refine S_gt rfl ?_
                refine S_bin rfl rfl rfl ?_
                refine S_pt rfl rfl ?_
                refine S_nil (hK11 _ _ (V_keep [0, 3, 98] (by simp only [proj, lk, reduceIte, Nat.reduceEqDiff]; rfl) ?_)); clear hK11
                refine V_condp rfl (fun c432 => ?_) (fun c432 => ?_)
                · skip
                  refine V_sr T.mix (by kernel_rfl) (fun K12 hK12 => ?_)
                  refine S_mv rfl ?_
                  refine S_nc rfl ?_
                  first | refine S_fa0 T.f42_2 rfl ?_ | refine S_fa T.f42_2 rfl ?_
                  refine S_ldK T.ag9 rfl (fun K' hK' => ?_)
                  simp (disch := omega) only [v0, v1, v2, v3, v4, v5, v6, v7, ve, vi_, v16, v17, v18, v19, v20, v21, v22, v23, v24, v25, v26, o0, o1, o2, o4, oP_some, Nat.add_zero]
                  refine hK' _ ?_; clear hK' K'
                  first | refine S_fa0 T.f46_1 rfl ?_ | refine S_fa T.f46_1 rfl ?_
                  refine S_ldK T.ag3 rfl (fun K' hK' => ?_)
                  simp (disch := omega) only [v0, v1, v2, v3, v4, v5, v6, v7, ve, vi_, v16, v17, v18, v19, v20, v21, v22, v23, v24, v25, v26, o0, o1, o2, o4, oP_some, Nat.add_zero]
                  refine hK' _ ?_; clear hK' K'
                  obtain ⟨ka, hka⟩ : ∃ k : Nat, oa = (k : Int) := ⟨oa.toNat, by omega⟩
                  subst hka
                  refine S_quo rfl rfl (by omega) (by omega) (by omega) ?_
                  rw [show ((ka : Nat) : Int) / 8 = ((ka / 8 : Nat) : Int) by omega]
                  have hk8 : ka / 8 < d.rw.size := by omega
                  refine S_siN (ka / 8) T.kd9 rfl rfl rfl hk8 ?_
                  first | refine S_fa0 T.f46_1 rfl ?_ | refine S_fa T.f46_1 rfl ?_
                  refine S_ldK T.ag3 rfl (fun K' hK' => ?_)
                  simp (disch := omega) only [v0, v1, v2, v3, v4, v5, v6, v7, ve, vi_, v16, v17, v18, v19, v20, v21, v22, v23, v24, v25, v26, o0, o1, o2, o4, oP_some, Nat.add_zero]
                  refine hK' _ ?_; clear hK' K'
                  refine S_rem rfl rfl (by omega) (by omega) ?_
                  rw [show ((ka : Nat) : Int) % 8 = ((ka % 8 : Nat) : Int) by omega]
                  refine S_cvN (ka % 8) T.us3 T.in105 rfl rfl (BitW.top_u64 (by omega)) ?_
                  have h28 : 2 ^ (ka % 8) ≤ 2 ^ 7 := Nat.pow_le_pow_right (by omega) (by omega)
                  refine S_nshlu 1 (ka % 8) (2 ^ (ka % 8)) rfl rfl rfl rfl rfl (by rw [Nat.one_mul]; exact Nat.mod_eq_of_lt (by show 2 ^ (ka % 8) < 2 ^ 8; omega)) (by show ka % 8 ≤ 8; omega) ?_
                  refine S_nxor (bAt d.rw (ka / 8)) (2 ^ (ka % 8)) _ rfl rfl rfl rfl rfl (top_u8 (bAt_lt _ _)) (top_u8 (by omega)) ?_
                  refine S_as rfl ?_
                  refine S_nil (hK12 _ _ (V_keep [0, 3, 4] (by simp only [proj, lk, reduceIte, Nat.reduceEqDiff]; rfl) ?_)); clear hK12
                  refine V_reg T.mix (by kernel_rfl) ?_
                  refine S_mv rfl ?_
                  refine S_mv rfl ?_
                  refine S_nc rfl ?_
                  first | refine S_fa0 T.f42_2 rfl ?_ | refine S_fa T.f42_2 rfl ?_
                  refine S_ldK T.ag9 rfl (fun K' hK' => ?_)
                  simp (disch := omega) only [v0, v1, v2, v3, v4, v5, v6, v7, ve, vi_, v16, v17, v18, v19, v20, v21, v22, v23, v24, v25, v26, o0, o1, o2, o4, oP_some, Nat.add_zero]
                  refine hK' _ ?_; clear hK' K'
                  first | refine S_fa0 T.f46_1 rfl ?_ | refine S_fa T.f46_1 rfl ?_
                  refine S_ldK T.ag3 rfl (fun K' hK' => ?_)
                  simp (disch := omega) only [v0, v1, v2, v3, v4, v5, v6, v7, ve, vi_, v16, v17, v18, v19, v20, v21, v22, v23, v24, v25, v26, o0, o1, o2, o4, oP_some, Nat.add_zero]
                  refine hK' _ ?_; clear hK' K'
                  refine S_quo rfl rfl (by omega) (by omega) (by omega) ?_
                  rw [show ((ka : Nat) : Int) / 8 = ((ka / 8 : Nat) : Int) by omega]
                  refine S_mv rfl ?_
                  refine S_call T.hb44 rfl ?_
                  refine FC.mono (set_spec h1 d.rw (ka / 8) _ hk8 (by omega)) ?_
                  rintro v' h2 ⟨⟨u2, rfl, hu2⟩, hE2⟩
                  have w2 := w1.new hE2
                  try clear v0 v1 v2 v3 v4 v5 v6 v7 ve vi_ v16 v17 v18 v19 v20 v21 v22 v23 v24 v25 v26 vok
                  obtain ⟨v0, v1, v2, v3, v4, v5, v6, v7, ve, vi_, v16, v17, v18, v19, v20, v21, v22, v23, v24, v25, v26, vok⟩ := ddq (w2.db)
                  try clear o0 o1 o2 o4
                  obtain ⟨o0, o1, o2, o4⟩ := oq (o_.ext hE2 (fun f => f))
                  refine S_nc rfl ?_
                  first | refine S_fa0 T.f42_2 rfl ?_ | refine S_fa T.f42_2 rfl ?_
                  refine S_st T.sz9 rfl rfl rfl rfl (by simp (disch := omega) only [vok]) ?_
                  generalize hh : putH _ _ _ = h3
                  have db9 : DB h3 c.X { d with rw := u2 } := by rw [← hh]; exact (w2.db.putA 2 _).cong (arr_ext (dk27 rfl rfl rfl rfl rfl rfl rfl rfl rfl rfl rfl rfl rfl rfl rfl rfl rfl rfl rfl rfl rfl rfl rfl rfl rfl rfl rfl))
                  have hEh3 : Ext (fun z => z = c.X) h2 h3 := by rw [← hh]; exact Ext.put _ _ rfl
                  clear hh
                  try clear v0 v1 v2 v3 v4 v5 v6 v7 ve vi_ v16 v17 v18 v19 v20 v21 v22 v23 v24 v25 v26 vok
                  obtain ⟨v0, v1, v2, v3, v4, v5, v6, v7, ve, vi_, v16, v17, v18, v19, v20, v21, v22, v23, v24, v25, v26, vok⟩ := ddq (db9)
                  have w3 := w2.reg hEh3 db9 (w.z0) (w.z1) (by omega)
                  clear wfin hEfin
                  have wfin : LWE h3 c (N + 2) := (w3.up (by omega)).e
                  have hEfin : Ext (MS c) h h3 := (hX1.trans (hE2.mono fun _ f => f.elim)).trans (hEh3.mono fun z e => ms_hi (by omega))
                  refine S_nilk [] (by simp only [proj, lk, reduceIte, Nat.reduceEqDiff]; rfl) ?_
                  -- end
                  refine hR _ _ (ret0 rfl ?_)
                  exact ⟨rfl, wfin, hEfin⟩
                · skip
                  refine V_skipk [] (by simp only [proj, lk, reduceIte, Nat.reduceEqDiff]; rfl) ?_
                  -- end
                  refine hR _ _ (ret0 rfl ?_)
                  exact ⟨rfl, wfin, hEfin⟩
              · skip
                refine S_gf rfl ?_
                refine S_gf rfl ?_
                refine S_gf rfl ?_
                refine S_gf rfl ?_
                refine S_gf rfl ?_
                refine S_gf rfl ?_
                refine S_pf rfl rfl ?_
                refine S_nil (hK11 _ _ (V_keep [0, 3, 98] (by simp only [proj, lk, reduceIte, Nat.reduceEqDiff]; rfl) ?_)); clear hK11
                refine V_condf rfl ?_
                refine V_skipk [] (by simp only [proj, lk, reduceIte, Nat.reduceEqDiff]; rfl) ?_
                -- end
                refine hR _ _ (ret0 rfl ?_)
                exact ⟨rfl, wfin, hEfin⟩
            · skip
              refine S_gf rfl ?_
              refine S_gf rfl ?_
              refine S_gf rfl ?_
              refine S_gf rfl ?_
              refine S_gf rfl ?_
              refine S_gf rfl ?_
              refine S_gf rfl ?_
              refine S_gf rfl ?_
              refine S_gf rfl ?_
              refine S_pf rfl rfl ?_
              refine S_mv rfl ?_
              refine S_gf rfl ?_
              refine S_gf rfl ?_
              refine S_gf rfl ?_
              refine S_gf rfl ?_
              refine S_gf rfl ?_
              refine S_gf rfl ?_
              refine S_pf rfl rfl ?_
              refine S_nil (hK11 _ _ (V_keep [0, 3, 98] (by simp only [proj, lk, reduceIte, Nat.reduceEqDiff]; rfl) ?_)); clear hK11
              refine V_condf rfl ?_
              refine V_skipk [] (by simp only [proj, lk, reduceIte, Nat.reduceEqDiff]; rfl) ?_
              -- end
              refine hR _ _ (ret0 rfl ?_)
              exact ⟨rfl, wfin, hEfin⟩
          · skip
            refine V_sr T.mix (by kernel_rfl) (fun K13 hK13 => ?_)
            refine S_bin rfl rfl rfl ?_
            refine S_as rfl ?_
            refine S_nil (hK13 _ _ (V_keep [0, 3, 6, 125] (by simp only [proj, lk, reduceIte, Nat.reduceEqDiff]; rfl) ?_)); clear hK13
            refine V_condp rfl (fun c436 => ?_) (fun c436 => ?_)
            · skip
              refine V_sr T.mix (by kernel_rfl) (fun K14 hK14 => ?_)
              first | refine S_fa0 T.f46_1 rfl ?_ | refine S_fa T.f46_1 rfl ?_
              refine S_ldK T.ag3 rfl (fun K' hK' => ?_)
              simp (disch := omega) only [v0, v1, v2, v3, v4, v5, v6, v7, ve, vi_, v16, v17, v18, v19, v20, v21, v22, v23, v24, v25, v26, o0, o1, o2, o4, oP_some, Nat.add_zero]
              refine hK' _ ?_; clear hK' K'
              refine S_bin rfl rfl rfl ?_
              refine S_mv rfl ?_
              refine S_dec (fun g437 => ?_) (fun g437 => ?_)
              · skip
                refine S_gt rfl ?_
                first | refine S_fa0 T.f46_1 rfl ?_ | refine S_fa T.f46_1 rfl ?_
                refine S_gt rfl ?_
                refine S_ldK T.ag3 rfl (fun K' hK' => ?_)
                simp (disch := omega) only [v0, v1, v2, v3, v4, v5, v6, v7, ve, vi_, v16, v17, v18, v19, v20, v21, v22, v23, v24, v25, v26, o0, o1, o2, o4, oP_some, Nat.add_zero]
                refine hK' _ ?_; clear hK' K'
                refine S_gt rfl ?_
                refine S_mv rfl ?_
                refine S_gt rfl ?_
                refine S_nc rfl ?_
                refine S_gt rfl ?_
                first | refine S_fa0 T.f42_2 rfl ?_ | refine S_fa T.f42_2 rfl ?_
                refine S_gt rfl ?_
                refine S_ldK T.ag9 rfl (fun K' hK' => ?_)
                simp (disch := omega) only [v0, v1, v2, v3, v4, v5, v6, v7, ve, vi_, v16, v17, v18, v19, v20, v21, v22, v23, v24, v25, v26, o0, o1, o2, o4, oP_some, Nat.add_zero]
                refine hK' _ ?_; clear hK' K'
                refine S_gt rfl ?_
                refine S_lens T.kd9 rfl ?_
                refine S_gt rfl ?_
                refine S_bin rfl rfl rfl ?_
                refine S_pt rfl rfl ?_
                refine S_mv rfl ?_
                refine S_dec (fun g437a => ?_) (fun g437a => ?_)
                · skip
                  refine S_gt rfl ?_
                  refine S_mv rfl ?_
                  refine S_gt rfl ?_
                  refine S_nc rfl ?_
                  refine S_gt rfl ?_
                  first | refine S_fa0 T.f42_2 rfl ?_ | refine S_fa T.f42_2 rfl ?_
                  refine S_gt rfl ?_
                  refine S_ldK T.ag9 rfl (fun K' hK' => ?_)
                  simp (disch := omega) only [v0, v1, v2, v3, v4, v5, v6, v7, ve, vi_, v16, v17, v18, v19, v20, v21, v22, v23, v24, v25, v26, o0, o1, o2, o4, oP_some, Nat.add_zero]
                  refine hK' _ ?_; clear hK' K'
                  refine S_gt rfl ?_
                  refine S_lens T.kd9 rfl ?_
                  refine S_gt rfl ?_
                  refine S_bin rfl rfl rfl ?_
                  refine S_pt rfl rfl ?_
                  refine S_nil (hK14 _ _ (V_keep [0, 3, 147] (by simp only [proj, lk, reduceIte, Nat.reduceEqDiff]; rfl) ?_)); clear hK14
                  refine V_condp rfl (fun c437 => ?_) (fun c437 => ?_)
                  · skip
                    refine V_reg T.mix (by kernel_rfl) ?_
                    refine S_mv rfl ?_
                    refine S_mv rfl ?_
                    refine S_nc rfl ?_
                    first | refine S_fa0 T.f42_2 rfl ?_ | refine S_fa T.f42_2 rfl ?_
                    refine S_ldK T.ag9 rfl (fun K' hK' => ?_)
                    simp (disch := omega) only [v0, v1, v2, v3, v4, v5, v6, v7, ve, vi_, v16, v17, v18, v19, v20, v21, v22, v23, v24, v25, v26, o0, o1, o2, o4, oP_some, Nat.add_zero]
                    refine hK' _ ?_; clear hK' K'
                    first | refine S_fa0 T.f46_1 rfl ?_ | refine S_fa T.f46_1 rfl ?_
                    refine S_ldK T.ag3 rfl (fun K' hK' => ?_)
                    simp (disch := omega) only [v0, v1, v2, v3, v4, v5, v6, v7, ve, vi_, v16, v17, v18, v19, v20, v21, v22, v23, v24, v25, v26, o0, o1, o2, o4, oP_some, Nat.add_zero]
                    refine hK' _ ?_; clear hK' K'
                    first | refine S_fa0 T.f46_2 rfl ?_ | refine S_fa T.f46_2 rfl ?_
                    refine S_ldK T.ag3 rfl (fun K' hK' => ?_)
                    simp (disch := omega) only [v0, v1, v2, v3, v4, v5, v6, v7, ve, vi_, v16, v17, v18, v19, v20, v21, v22, v23, v24, v25, v26, o0, o1, o2, o4, oP_some, Nat.add_zero]
                    refine hK' _ ?_; clear hK' K'
                    refine S_bin rfl rfl rfl ?_
                    refine S_cv T.us3 T.in5 rfl ?_
                    refine S_call T.hb44 rfl ?_
                    obtain ⟨ka, hka⟩ : ∃ k : Nat, oa = (k : Int) := ⟨oa.toNat, by omega⟩
                    subst hka
                    refine FC.mono (set_spec h1 d.rw ka _ (by omega) (by omega)) ?_
                    rintro v' h2 ⟨⟨u2, rfl, hu2⟩, hE2⟩
                    have w2 := w1.new hE2
                    try clear v0 v1 v2 v3 v4 v5 v6 v7 ve vi_ v16 v17 v18 v19 v20 v21 v22 v23 v24 v25 v26 vok
                    obtain ⟨v0, v1, v2, v3, v4, v5, v6, v7, ve, vi_, v16, v17, v18, v19, v20, v21, v22, v23, v24, v25, v26, vok⟩ := ddq (w2.db)
                    try clear o0 o1 o2 o4
                    obtain ⟨o0, o1, o2, o4⟩ := oq (o_.ext hE2 (fun f => f))
                    refine S_nc rfl ?_
                    first | refine S_fa0 T.f42_2 rfl ?_ | refine S_fa T.f42_2 rfl ?_
                    refine S_st T.sz9 rfl rfl rfl rfl (by simp (disch := omega) only [vok]) ?_
                    generalize hh : putH _ _ _ = h3
                    have db9 : DB h3 c.X { d with rw := u2 } := by rw [← hh]; exact (w2.db.putA 2 _).cong (arr_ext (dk27 rfl rfl rfl rfl rfl rfl rfl rfl rfl rfl rfl rfl rfl rfl rfl rfl rfl rfl rfl rfl rfl rfl rfl rfl rfl rfl rfl))
                    have hEh3 : Ext (fun z => z = c.X) h2 h3 := by rw [← hh]; exact Ext.put _ _ rfl
                    clear hh
                    try clear v0 v1 v2 v3 v4 v5 v6 v7 ve vi_ v16 v17 v18 v19 v20 v21 v22 v23 v24 v25 v26 vok
                    obtain ⟨v0, v1, v2, v3, v4, v5, v6, v7, ve, vi_, v16, v17, v18, v19, v20, v21, v22, v23, v24, v25, v26, vok⟩ := ddq (db9)
                    have w3 := w2.reg hEh3 db9 (w.z0) (w.z1) (by omega)
                    clear wfin hEfin
                    have wfin : LWE h3 c (N + 2) := (w3.up (by omega)).e
                    have hEfin : Ext (MS c) h h3 := (hX1.trans (hE2.mono fun _ f => f.elim)).trans (hEh3.mono fun z e => ms_hi (by omega))
                    refine S_nilk [] (by simp only [proj, lk, reduceIte, Nat.reduceEqDiff]; rfl) ?_
                    -- end
                    refine hR _ _ (ret0 rfl ?_)
                    exact ⟨rfl, wfin, hEfin⟩
                  · skip
                    refine V_skipk [] (by simp only [proj, lk, reduceIte, Nat.reduceEqDiff]; rfl) ?_
                    -- end
                    refine hR _ _ (ret0 rfl ?_)
                    exact ⟨rfl, wfin, hEfin⟩
                · skip
                  refine S_gf rfl ?_
                  refine S_gf rfl ?_
                  refine S_gf rfl ?_
                  refine S_gf rfl ?_
                  refine S_gf rfl ?_
                  refine S_gf rfl ?_
                  refine S_pf rfl rfl ?_
                  refine S_nil (hK14 _ _ (V_keep [0, 3, 147] (by simp only [proj, lk, reduceIte, Nat.reduceEqDiff]; rfl) ?_)); clear hK14
                  refine V_condf rfl ?_
                  refine V_skipk [] (by simp only [proj, lk, reduceIte, Nat.reduceEqDiff]; rfl) ?_
                  -- end
                  refine hR _ _ (ret0 rfl ?_)
                  exact ⟨rfl, wfin, hEfin⟩
              · skip
                refine S_gf rfl ?_
                refine S_gf rfl ?_
                refine S_gf rfl ?_
                refine S_gf rfl ?_
                refine S_gf rfl ?_
                refine S_gf rfl ?_
                refine S_gf rfl ?_
                refine S_gf rfl ?_
                refine S_pf rfl rfl ?_
                refine S_mv rfl ?_
                refine S_gf rfl ?_
                refine S_gf rfl ?_
                refine S_gf rfl ?_
                refine S_gf rfl ?_
                refine S_gf rfl ?_
                refine S_gf rfl ?_
                refine S_pf rfl rfl ?_
                refine S_nil (hK14 _ _ (V_keep [0, 3, 147] (by simp only [proj, lk, reduceIte, Nat.reduceEqDiff]; rfl) ?_)); clear hK14
                refine V_condf rfl ?_
                refine V_skipk [] (by simp only [proj, lk, reduceIte, Nat.reduceEqDiff]; rfl) ?_
                -- end
                refine hR _ _ (ret0 rfl ?_)
                exact ⟨rfl, wfin, hEfin⟩
            · skip
              refine V_sr T.mix (by kernel_rfl) (fun K15 hK15 => ?_)
              refine S_bin rfl rfl rfl ?_
              refine S_as rfl ?_
              refine S_nil (hK15 _ _ (V_keep [0, 3, 6, 162] (by simp only [proj, lk, reduceIte, Nat.reduceEqDiff]; rfl) ?_)); clear hK15
              refine V_condp rfl (fun c440 => ?_) (fun c440 => ?_)
              · skip
                refine V_reg T.mix (by kernel_rfl) ?_
                refine S_mv rfl ?_
                first | refine S_fa0 T.f46_4 rfl ?_ | refine S_fa T.f46_4 rfl ?_
                refine S_ldK T.ag9 rfl (fun K' hK' => ?_)
                simp (disch := omega) only [v0, v1, v2, v3, v4, v5, v6, v7, ve, vi_, v16, v17, v18, v19, v20, v21, v22, v23, v24, v25, v26, o0, o1, o2, o4, oP_some, Nat.add_zero]
                refine hK' _ ?_; clear hK' K'
                refine S_nc rfl ?_
                first | refine S_fa0 T.f42_0 rfl ?_ | refine S_fa T.f42_0 rfl ?_
                refine S_st T.sz9 rfl rfl rfl rfl (by simp (disch := omega) only [vok]) ?_
                generalize hh : putH _ _ _ = h2
                have db9 : DB h2 c.X { d with nm := os } := by rw [← hh]; exact (w1.db.putA 0 _).cong (arr_ext (dk27 rfl rfl rfl rfl rfl rfl rfl rfl rfl rfl rfl rfl rfl rfl rfl rfl rfl rfl rfl rfl rfl rfl rfl rfl rfl rfl rfl))
                have hEh2 : Ext (fun z => z = c.X) h1 h2 := by rw [← hh]; exact Ext.put _ _ rfl
                clear hh
                try clear v0 v1 v2 v3 v4 v5 v6 v7 ve vi_ v16 v17 v18 v19 v20 v21 v22 v23 v24 v25 v26 vok
                obtain ⟨v0, v1, v2, v3, v4, v5, v6, v7, ve, vi_, v16, v17, v18, v19, v20, v21, v22, v23, v24, v25, v26, vok⟩ := ddq (db9)
                have w2 := w1.reg hEh2 db9 (hos) (w.z1) (w.z2)
                clear wfin hEfin
                have wfin : LWE h2 c (N + 2) := (w2.up (by omega)).e
                have hEfin : Ext (MS c) h h2 := (hX1).trans (hEh2.mono fun z e => ms_hi (by omega))
                refine S_nilk [] (by simp only [proj, lk, reduceIte, Nat.reduceEqDiff]; rfl) ?_
                -- end
                refine hR _ _ (ret0 rfl ?_)
                exact ⟨rfl, wfin, hEfin⟩
              · skip
                refine V_sr T.mix (by kernel_rfl) (fun K16 hK16 => ?_)
                refine S_bin rfl rfl rfl ?_
                refine S_as rfl ?_
                refine S_nil (hK16 _ _ (V_keep [0, 3, 6, 169] (by simp only [proj, lk, reduceIte, Nat.reduceEqDiff]; rfl) ?_)); clear hK16
                refine V_condp rfl (fun c442 => ?_) (fun c442 => ?_)
                · skip
                  refine V_reg T.mix (by kernel_rfl) ?_
                  refine S_mv rfl ?_
                  first | refine S_fa0 T.f46_4 rfl ?_ | refine S_fa T.f46_4 rfl ?_
                  refine S_ldK T.ag9 rfl (fun K' hK' => ?_)
                  simp (disch := omega) only [v0, v1, v2, v3, v4, v5, v6, v7, ve, vi_, v16, v17, v18, v19, v20, v21, v22, v23, v24, v25, v26, o0, o1, o2, o4, oP_some, Nat.add_zero]
                  refine hK' _ ?_; clear hK' K'
                  refine S_nc rfl ?_
                  first | refine S_fa0 T.f42_1 rfl ?_ | refine S_fa T.f42_1 rfl ?_
                  refine S_st T.sz9 rfl rfl rfl rfl (by simp (disch := omega) only [vok]) ?_
                  generalize hh : putH _ _ _ = h2
                  have db9 : DB h2 c.X { d with dt := os } := by rw [← hh]; exact (w1.db.putA 1 _).cong (arr_ext (dk27 rfl rfl rfl rfl rfl rfl rfl rfl rfl rfl rfl rfl rfl rfl rfl rfl rfl rfl rfl rfl rfl rfl rfl rfl rfl rfl rfl))
                  have hEh2 : Ext (fun z => z = c.X) h1 h2 := by rw [← hh]; exact Ext.put _ _ rfl
                  clear hh
                  try clear v0 v1 v2 v3 v4 v5 v6 v7 ve vi_ v16 v17 v18 v19 v20 v21 v22 v23 v24 v25 v26 vok
                  obtain ⟨v0, v1, v2, v3, v4, v5, v6, v7, ve, vi_, v16, v17, v18, v19, v20, v21, v22, v23, v24, v25, v26, vok⟩ := ddq (db9)
                  have w2 := w1.reg hEh2 db9 (w.z0) (hos) (w.z2)
                  clear wfin hEfin
                  have wfin : LWE h2 c (N + 2) := (w2.up (by omega)).e
                  have hEfin : Ext (MS c) h h2 := (hX1).trans (hEh2.mono fun z e => ms_hi (by omega))
                  refine S_nilk [] (by simp only [proj, lk, reduceIte, Nat.reduceEqDiff]; rfl) ?_
                  -- end
                  refine hR _ _ (ret0 rfl ?_)
                  exact ⟨rfl, wfin, hEfin⟩
                · skip
                  refine V_sr T.mix (by kernel_rfl) (fun K17 hK17 => ?_)
                  refine S_bin rfl rfl rfl ?_
                  refine S_as rfl ?_
                  refine S_nil (hK17 _ _ (V_keep [0, 3, 6, 176] (by simp only [proj, lk, reduceIte, Nat.reduceEqDiff]; rfl) ?_)); clear hK17
                  refine V_condp rfl (fun c444 => ?_) (fun c444 => ?_)
                  · skip
                    refine V_reg T.mix (by kernel_rfl) ?_
                    refine S_mv rfl ?_
                    first | refine S_fa0 T.f46_4 rfl ?_ | refine S_fa T.f46_4 rfl ?_
                    refine S_ldK T.ag9 rfl (fun K' hK' => ?_)
                    simp (disch := omega) only [v0, v1, v2, v3, v4, v5, v6, v7, ve, vi_, v16, v17, v18, v19, v20, v21, v22, v23, v24, v25, v26, o0, o1, o2, o4, oP_some, Nat.add_zero]
                    refine hK' _ ?_; clear hK' K'
                    refine S_nc rfl ?_
                    first | refine S_fa0 T.f42_2 rfl ?_ | refine S_fa T.f42_2 rfl ?_
                    refine S_st T.sz9 rfl rfl rfl rfl (by simp (disch := omega) only [vok]) ?_
                    generalize hh : putH _ _ _ = h2
                    have db9 : DB h2 c.X { d with rw := os } := by rw [← hh]; exact (w1.db.putA 2 _).cong (arr_ext (dk27 rfl rfl rfl rfl rfl rfl rfl rfl rfl rfl rfl rfl rfl rfl rfl rfl rfl rfl rfl rfl rfl rfl rfl rfl rfl rfl rfl))
                    have hEh2 : Ext (fun z => z = c.X) h1 h2 := by rw [← hh]; exact Ext.put _ _ rfl
                    clear hh
                    try clear v0 v1 v2 v3 v4 v5 v6 v7 ve vi_ v16 v17 v18 v19 v20 v21 v22 v23 v24 v25 v26 vok
                    obtain ⟨v0, v1, v2, v3, v4, v5, v6, v7, ve, vi_, v16, v17, v18, v19, v20, v21, v22, v23, v24, v25, v26, vok⟩ := ddq (db9)
                    have w2 := w1.reg hEh2 db9 (w.z0) (w.z1) (hos)
                    clear wfin hEfin
                    have wfin : LWE h2 c (N + 2) := (w2.up (by omega)).e
                    have hEfin : Ext (MS c) h h2 := (hX1).trans (hEh2.mono fun z e => ms_hi (by omega))
                    refine S_nilk [] (by simp only [proj, lk, reduceIte, Nat.reduceEqDiff]; rfl) ?_
                    -- end
                    refine hR _ _ (ret0 rfl ?_)
                    exact ⟨rfl, wfin, hEfin⟩
                  · skip
                    refine V_sr T.mix (by kernel_rfl) (fun K18 hK18 => ?_)
                    refine S_bin rfl rfl rfl ?_
                    refine S_as rfl ?_
                    refine S_nil (hK18 _ _ (V_keep [0, 3, 6, 183] (by simp only [proj, lk, reduceIte, Nat.reduceEqDiff]; rfl) ?_)); clear hK18
                    refine V_condp rfl (fun c446 => ?_) (fun c446 => ?_)
                    · skip
                      refine V_sr T.mix (by kernel_rfl) (fun K19 hK19 => ?_)
                      first | refine S_fa0 T.f46_1 rfl ?_ | refine S_fa T.f46_1 rfl ?_
                      refine S_ldK T.ag3 rfl (fun K' hK' => ?_)
                      simp (disch := omega) only [v0, v1, v2, v3, v4, v5, v6, v7, ve, vi_, v16, v17, v18, v19, v20, v21, v22, v23, v24, v25, v26, o0, o1, o2, o4, oP_some, Nat.add_zero]
                      refine hK' _ ?_; clear hK' K'
                      refine S_bin rfl rfl rfl ?_
                      refine S_nil (hK19 _ _ (V_keep [0, 187] (by simp only [proj, lk, reduceIte, Nat.reduceEqDiff]; rfl) ?_)); clear hK19
                      refine V_condp rfl (fun c447 => ?_) (fun c447 => ?_)
                      · skip
                        refine V_reg T.mix (by kernel_rfl) ?_
                        refine S_mv rfl ?_
                        refine S_nc rfl ?_
                        first | refine S_fa0 T.f42_19 rfl ?_ | refine S_fa T.f42_19 rfl ?_
                        refine S_st T.sz4 rfl rfl rfl rfl (by simp (disch := omega) only [vok]) ?_
                        generalize hh : putH _ _ _ = h2
                        have db9 : DB h2 c.X { d with pl := true } := by rw [← hh]; exact (w1.db.putA 25 _).cong (arr_ext (dk27 rfl rfl rfl rfl rfl rfl rfl rfl rfl rfl rfl rfl rfl rfl rfl rfl rfl rfl rfl rfl rfl rfl rfl rfl rfl rfl rfl))
                        have hEh2 : Ext (fun z => z = c.X) h1 h2 := by rw [← hh]; exact Ext.put _ _ rfl
                        clear hh
                        try clear v0 v1 v2 v3 v4 v5 v6 v7 ve vi_ v16 v17 v18 v19 v20 v21 v22 v23 v24 v25 v26 vok
                        obtain ⟨v0, v1, v2, v3, v4, v5, v6, v7, ve, vi_, v16, v17, v18, v19, v20, v21, v22, v23, v24, v25, v26, vok⟩ := ddq (db9)
                        have w2 := w1.reg hEh2 db9 (w.z0) (w.z1) (w.z2)
                        clear wfin hEfin
                        have wfin : LWE h2 c (N + 2) := (w2.up (by omega)).e
                        have hEfin : Ext (MS c) h h2 := (hX1).trans (hEh2.mono fun z e => ms_hi (by omega))
                        refine S_nilk [] (by simp only [proj, lk, reduceIte, Nat.reduceEqDiff]; rfl) ?_
                        -- end
                        refine hR _ _ (ret0 rfl ?_)
                        exact ⟨rfl, wfin, hEfin⟩
                      · skip
                        refine V_reg T.mix (by kernel_rfl) ?_
                        refine S_mv rfl ?_
                        refine S_nc rfl ?_
                        first | refine S_fa0 T.f42_16 rfl ?_ | refine S_fa T.f42_16 rfl ?_
                        refine S_st T.sz4 rfl rfl rfl rfl (by simp (disch := omega) only [vok]) ?_
                        generalize hh : putH _ _ _ = h2
                        have db9 : DB h2 c.X { d with pn := true } := by rw [← hh]; exact (w1.db.putA 22 _).cong (arr_ext (dk27 rfl rfl rfl rfl rfl rfl rfl rfl rfl rfl rfl rfl rfl rfl rfl rfl rfl rfl rfl rfl rfl rfl rfl rfl rfl rfl rfl))
                        have hEh2 : Ext (fun z => z = c.X) h1 h2 := by rw [← hh]; exact Ext.put _ _ rfl
                        clear hh
                        try clear v0 v1 v2 v3 v4 v5 v6 v7 ve vi_ v16 v17 v18 v19 v20 v21 v22 v23 v24 v25 v26 vok
                        obtain ⟨v0, v1, v2, v3, v4, v5, v6, v7, ve, vi_, v16, v17, v18, v19, v20, v21, v22, v23, v24, v25, v26, vok⟩ := ddq (db9)
                        have w2 := w1.reg hEh2 db9 (w.z0) (w.z1) (w.z2)
                        clear wfin hEfin
                        have wfin : LWE h2 c (N + 2) := (w2.up (by omega)).e
                        have hEfin : Ext (MS c) h h2 := (hX1).trans (hEh2.mono fun z e => ms_hi (by omega))
                        refine S_nilk [] (by simp only [proj, lk, reduceIte, Nat.reduceEqDiff]; rfl) ?_
                        -- end
                        refine hR _ _ (ret0 rfl ?_)
                        exact ⟨rfl, wfin, hEfin⟩
                    · skip
                      refine V_sr T.mix (by kernel_rfl) (fun K20 hK20 => ?_)
                      refine S_bin rfl rfl rfl ?_
                      refine S_as rfl ?_
                      refine S_nil (hK20 _ _ (V_keep [0, 194] (by simp only [proj, lk, reduceIte, Nat.reduceEqDiff]; rfl) ?_)); clear hK20
                      refine V_condp rfl (fun c452 => ?_) (fun c452 => ?_)
                      · skip
                        refine V_sr T.mix (by kernel_rfl) (fun K21 hK21 => ?_)
                        refine S_mv rfl ?_
                        refine S_nc rfl ?_
                        first | refine S_fa0 T.f42_0 rfl ?_ | refine S_fa T.f42_0 rfl ?_
                        refine S_st T.sz9 rfl rfl rfl rfl (by simp (disch := omega) only [vok]) ?_
                        generalize hh : putH _ _ _ = h2
                        have db2 : DB h2 c.X { d with nm := ⟨#[]⟩ } := by rw [← hh]; exact (w1.db.putA 0 _).cong (arr_ext (dk27 rfl rfl rfl rfl rfl rfl rfl rfl rfl rfl rfl rfl rfl rfl rfl rfl rfl rfl rfl rfl rfl rfl rfl rfl rfl rfl rfl))
                        have hEh2 : Ext (fun z => z = c.X) h1 h2 := by rw [← hh]; exact Ext.put _ _ rfl
                        clear hh
                        try clear v0 v1 v2 v3 v4 v5 v6 v7 ve vi_ v16 v17 v18 v19 v20 v21 v22 v23 v24 v25 v26 vok
                        obtain ⟨v0, v1, v2, v3, v4, v5, v6, v7, ve, vi_, v16, v17, v18, v19, v20, v21, v22, v23, v24, v25, v26, vok⟩ := ddq (db2)
                        have w2 := w1.reg hEh2 db2 (Nat.zero_le _) w.z1 w.z2
                        refine S_nil (hK21 _ _ (V_keep [0] (by simp only [proj, lk, reduceIte, Nat.reduceEqDiff]; rfl) ?_)); clear hK21
                        refine V_sr T.mix (by kernel_rfl) (fun K22 hK22 => ?_)
                        refine S_mv rfl ?_
                        refine S_nc rfl ?_
                        first | refine S_fa0 T.f42_1 rfl ?_ | refine S_fa T.f42_1 rfl ?_
                        refine S_st T.sz9 rfl rfl rfl rfl (by simp (disch := omega) only [vok]) ?_
                        generalize hh : putH _ _ _ = h3
                        have db3 : DB h3 c.X { d with nm := ⟨#[]⟩, dt := ⟨#[]⟩ } := by rw [← hh]; exact (w2.db.putA 1 _).cong (arr_ext (dk27 rfl rfl rfl rfl rfl rfl rfl rfl rfl rfl rfl rfl rfl rfl rfl rfl rfl rfl rfl rfl rfl rfl rfl rfl rfl rfl rfl))
                        have hEh3 : Ext (fun z => z = c.X) h2 h3 := by rw [← hh]; exact Ext.put _ _ rfl
                        clear hh
                        try clear v0 v1 v2 v3 v4 v5 v6 v7 ve vi_ v16 v17 v18 v19 v20 v21 v22 v23 v24 v25 v26 vok
                        obtain ⟨v0, v1, v2, v3, v4, v5, v6, v7, ve, vi_, v16, v17, v18, v19, v20, v21, v22, v23, v24, v25, v26, vok⟩ := ddq (db3)
                        have w3 := w2.reg hEh3 db3 (Nat.zero_le _) (Nat.zero_le _) w.z2
                        refine S_nil (hK22 _ _ (V_keep [0] (by simp only [proj, lk, reduceIte, Nat.reduceEqDiff]; rfl) ?_)); clear hK22
                        refine V_sr T.mix (by kernel_rfl) (fun K23 hK23 => ?_)
                        refine S_mv rfl ?_
                        refine S_nc rfl ?_
                        first | refine S_fa0 T.f42_2 rfl ?_ | refine S_fa T.f42_2 rfl ?_
                        refine S_st T.sz9 rfl rfl rfl rfl (by simp (disch := omega) only [vok]) ?_
                        generalize hh : putH _ _ _ = h4
                        have db4 : DB h4 c.X { d with nm := ⟨#[]⟩, dt := ⟨#[]⟩, rw := ⟨#[]⟩ } := by rw [← hh]; exact (w3.db.putA 2 _).cong (arr_ext (dk27 rfl rfl rfl rfl rfl rfl rfl rfl rfl rfl rfl rfl rfl rfl rfl rfl rfl rfl rfl rfl rfl rfl rfl rfl rfl rfl rfl))
                        have hEh4 : Ext (fun z => z = c.X) h3 h4 := by rw [← hh]; exact Ext.put _ _ rfl
                        clear hh
                        try clear v0 v1 v2 v3 v4 v5 v6 v7 ve vi_ v16 v17 v18 v19 v20 v21 v22 v23 v24 v25 v26 vok
                        obtain ⟨v0, v1, v2, v3, v4, v5, v6, v7, ve, vi_, v16, v17, v18, v19, v20, v21, v22, v23, v24, v25, v26, vok⟩ := ddq (db4)
                        have w4 := w3.reg hEh4 db4 (Nat.zero_le _) (Nat.zero_le _) (Nat.zero_le _)
                        refine S_nil (hK23 _ _ (V_keep [0] (by simp only [proj, lk, reduceIte, Nat.reduceEqDiff]; rfl) ?_)); clear hK23
                        refine V_reg T.mix (by kernel_rfl) ?_
                        refine S_mv rfl ?_
                        refine S_nc rfl ?_
                        first | refine S_fa0 T.f42_3 rfl ?_ | refine S_fa T.f42_3 rfl ?_
                        refine S_st T.sz37 rfl rfl rfl rfl (by simp (disch := omega) only [vok]) ?_
                        generalize hh : putH _ _ _ = h5
                        have db5 : DB h5 c.X { d with nm := ⟨#[]⟩, dt := ⟨#[]⟩, rw := ⟨#[]⟩, ls := ⟨none, 0, 0⟩ } := by rw [← hh]; exact (w4.db.putA 3 _).cong (arr_ext (dk27 rfl rfl rfl rfl rfl rfl rfl rfl rfl rfl rfl rfl rfl rfl rfl rfl rfl rfl rfl rfl rfl rfl rfl rfl rfl rfl rfl))
                        have hEh5 : Ext (fun z => z = c.X) h4 h5 := by rw [← hh]; exact Ext.put _ _ rfl
                        clear hh
                        try clear v0 v1 v2 v3 v4 v5 v6 v7 ve vi_ v16 v17 v18 v19 v20 v21 v22 v23 v24 v25 v26 vok
                        obtain ⟨v0, v1, v2, v3, v4, v5, v6, v7, ve, vi_, v16, v17, v18, v19, v20, v21, v22, v23, v24, v25, v26, vok⟩ := ddq (db5)
                        have w5 := w4.lst (s := ⟨none, 0, 0⟩) (L' := []) (hEh5.mono fun _ e => .inl e) db5 (OwnR.nil _ _ _ _) rfl (Nat.zero_le _) (fun b q e => by cases e)
                        clear wfin hEfin
                        have wfin : LWE h5 c (N + 2) := (w5.up (by omega)).e
                        have hEfin : Ext (MS c) h h5 := (((hX1.trans (hEh2.mono fun z e => ms_hi (by omega))).trans (hEh3.mono fun z e => ms_hi (by omega))).trans (hEh4.mono fun z e => ms_hi (by omega))).trans (hEh5.mono fun z e => ms_hi (by omega))
                        refine S_nilk [] (by simp only [proj, lk, reduceIte, Nat.reduceEqDiff]; rfl) ?_
                        -- end
                        refine hR _ _ (ret0 rfl ?_)
                        exact ⟨rfl, wfin, hEfin⟩
                      · skip
                        refine V_skipk [] (by simp only [proj, lk, reduceIte, Nat.reduceEqDiff]; rfl) ?_
                        -- end
                        refine hR _ _ (ret0 rfl ?_)
                        exact ⟨rfl, wfin, hEfin⟩
set_option maxHeartbeats 3200000 in
theorem play_spec (h : Heap) (c : CF) (Q : Nat → Prop) (d : DR) (L F : List En) (I : List In) (N : Nat) (w : LW h c Q d L F I N) (hN : N ≤ 8999999999990) (k oa ob oc : Int) (os ot : ByteArray) (hos : os.size ≤ 9223372036854775807) (hoa : oa < 9223372036854775808) :
    FC Tryz.prog 12 (#[.pointer (some ⟨c.A, 0, none⟩), .pointer (some ⟨c.M, 0, none⟩), .agg (bel c.W.P c.V.D), .pointer (some ⟨c.X, 0, none⟩), .agg #[.int .i64 k, .int .i64 oa, .int .i64 ob, .int .i64 oc, .string os, .string ot]] : Array Value) h fun rv h' => rv = .bool true ∧ LWE h' c (N + 2) ∧ Ext (MS c) h h' := by
  refine FC_of [(0, .pointer (some ⟨c.A, 0, none⟩)), (1, .pointer (some ⟨c.M, 0, none⟩)), (2, .agg (bel c.W.P c.V.D)), (3, .pointer (some ⟨c.X, 0, none⟩)), (4, .agg #[.int .i64 k, .int .i64 oa, .int .i64 ob, .int .i64 oc, .string os, .string ot])] Tryz.func12 rfl Tryz.ntmps12 (by simp) rfl (fun R hR => ?_)
  refine V_sr T.mix (by kernel_rfl) (fun K1 hK1 => ?_)
  refine S_boxA rfl ?_
  generalize hh : Array.push h _ = h1
  have b1 : B h1 h.size (bel c.W.P c.V.D) 30 := by rw [← hh]; exact B.new _ _ _
  have hEh1 : Ext (fun _ => False) h h1 := by rw [← hh]; exact Ext.push _ _ _
  clear hh
  refine S_boxA rfl ?_
  generalize hh : Array.push h1 _ = h2
  have o_ : B h2 h1.size #[.int .i64 k, .int .i64 oa, .int .i64 ob, .int .i64 oc, .string os, .string ot] 46 := by rw [← hh]; exact B.new _ _ _
  have hEh2 : Ext (fun _ => False) h1 h2 := by rw [← hh]; exact Ext.push _ _ _
  clear hh
  have w2 := (w.new hEh1).new hEh2
  have b2 := b1.ext hEh2 (fun f => f)
  have hX2 : Ext (MS c) h h2 := (hEh1.trans hEh2).mono fun _ f => f.elim
  try clear o0 o1 o2 o4
  obtain ⟨o0, o1, o2, o4⟩ := oq (o_)
  refine S_as rfl ?_
  refine S_nil (hK1 _ _ (V_keep [0, 1, 3, 7, 9] (by simp only [proj, lk, reduceIte, Nat.reduceEqDiff]; rfl) ?_)); clear hK1
  refine V_seq (fun K2 hK2 => ?_)
  refine V_sr T.mix (by kernel_rfl) (fun K3 hK3 => ?_)
  first | refine S_fa0 T.f46_0 rfl ?_ | refine S_fa T.f46_0 rfl ?_
  refine S_ldK T.ag3 rfl (fun K' hK' => ?_)
  simp (disch := omega) only [o0, o1, o2, o4, oP_some, Nat.add_zero]
  refine hK' _ ?_; clear hK' K'
  refine S_nil (hK3 _ _ (V_keep [0, 1, 3, 7, 9, 12] (by simp only [proj, lk, reduceIte, Nat.reduceEqDiff]; rfl) ?_)); clear hK3
  refine V_block ?_
  refine V_sr T.mix (by kernel_rfl) (fun K4 hK4 => ?_)
  refine S_bin rfl rfl rfl ?_
  refine S_as rfl ?_
  refine S_nil (hK4 _ _ (V_keep [0, 1, 3, 7, 9, 12, 13] (by simp only [proj, lk, reduceIte, Nat.reduceEqDiff]; rfl) ?_)); clear hK4
  refine V_condp rfl (fun c463 => ?_) (fun c463 => ?_)
  · skip
    refine V_sr T.mix (by kernel_rfl) (fun K5 hK5 => ?_)
    refine S_mv rfl ?_
    refine S_mv rfl ?_
    refine S_ldn T.ag30 rfl ((b2).all rfl) ?_
    refine S_mv rfl ?_
    first | refine S_fa0 T.f46_1 rfl ?_ | refine S_fa T.f46_1 rfl ?_
    refine S_ldK T.ag3 rfl (fun K' hK' => ?_)
    simp (disch := omega) only [o0, o1, o2, o4, oP_some, Nat.add_zero]
    refine hK' _ ?_; clear hK' K'
    refine S_call T.hb19 rfl ?_
    refine FC.mono (samepack_spec h2 c Q d L F I N w2 hN oa) ?_
    rintro v' h3 ⟨rfl, w3, hE3⟩
    refine S_as rfl ?_
    refine S_nil (hK5 _ _ (V_keep [10] (by simp only [proj, lk, reduceIte, Nat.reduceEqDiff]; rfl) ?_)); clear hK5
    refine V_ret ?_
    refine hR _ _ (ret1 rfl rfl ?_)
    exact ⟨rfl, w3, hX2.trans hE3⟩
  · skip
    refine V_sr T.mix (by kernel_rfl) (fun K6 hK6 => ?_)
    refine S_bin rfl rfl rfl ?_
    refine S_as rfl ?_
    refine S_nil (hK6 _ _ (V_keep [0, 1, 3, 7, 9, 12, 22] (by simp only [proj, lk, reduceIte, Nat.reduceEqDiff]; rfl) ?_)); clear hK6
    refine V_condp rfl (fun c465 => ?_) (fun c465 => ?_)
    · skip
      refine V_sr T.mix (by kernel_rfl) (fun K7 hK7 => ?_)
      refine S_mv rfl ?_
      refine S_mv rfl ?_
      refine S_ldn T.ag30 rfl ((b2).all rfl) ?_
      refine S_mv rfl ?_
      refine S_call T.hb20 rfl ?_
      refine FC.mono (samelist_spec h2 c Q d L F I N w2 hN) ?_
      rintro v' h3 ⟨rfl, w3, hE3⟩
      refine S_as rfl ?_
      refine S_nil (hK7 _ _ (V_keep [10] (by simp only [proj, lk, reduceIte, Nat.reduceEqDiff]; rfl) ?_)); clear hK7
      refine V_ret ?_
      refine hR _ _ (ret1 rfl rfl ?_)
      exact ⟨rfl, w3, hX2.trans hE3⟩
    · skip
      refine V_sr T.mix (by kernel_rfl) (fun K8 hK8 => ?_)
      refine S_bin rfl rfl rfl ?_
      refine S_as rfl ?_
      refine S_nil (hK8 _ _ (V_keep [0, 1, 3, 7, 9, 12, 29] (by simp only [proj, lk, reduceIte, Nat.reduceEqDiff]; rfl) ?_)); clear hK8
      refine V_condp rfl (fun c467 => ?_) (fun c467 => ?_)
      · skip
        refine V_sr T.mix (by kernel_rfl) (fun K9 hK9 => ?_)
        refine S_mv rfl ?_
        refine S_mv rfl ?_
        refine S_ldn T.ag30 rfl ((b2).all rfl) ?_
        refine S_mv rfl ?_
        refine S_call T.hb21 rfl ?_
        refine FC.mono (sameunpack_spec h2 c Q d L F I N w2 hN) ?_
        rintro v' h3 ⟨rfl, w3, hE3⟩
        refine S_as rfl ?_
        refine S_nil (hK9 _ _ (V_keep [10] (by simp only [proj, lk, reduceIte, Nat.reduceEqDiff]; rfl) ?_)); clear hK9
        refine V_ret ?_
        refine hR _ _ (ret1 rfl rfl ?_)
        exact ⟨rfl, w3, hX2.trans hE3⟩
      · skip
        refine V_sr T.mix (by kernel_rfl) (fun K10 hK10 => ?_)
        refine S_bin rfl rfl rfl ?_
        refine S_as rfl ?_
        refine S_nil (hK10 _ _ (V_keep [0, 3, 9, 36] (by simp only [proj, lk, reduceIte, Nat.reduceEqDiff]; rfl) ?_)); clear hK10
        refine V_condp rfl (fun c469 => ?_) (fun c469 => ?_)
        · skip
          refine V_sr T.mix (by kernel_rfl) (fun K11 hK11 => ?_)
          refine S_mv rfl ?_
          refine S_call T.hb11 rfl ?_
          obtain ⟨t4, fo4, ft4, gn4, ax4⟩ := w2.r.ax
          refine FC.mono (acheck_spec h2 c.A c.W.P c.V.D t4 fo4 ft4 gn4 ax4) ?_
          rintro v' h' ⟨rfl, rfl⟩
          refine S_as rfl ?_
          refine S_nil (hK11 _ _ (V_keep [10] (by simp only [proj, lk, reduceIte, Nat.reduceEqDiff]; rfl) ?_)); clear hK11
          refine V_ret ?_
          refine hR _ _ (ret1 rfl rfl ?_)
          exact ⟨rfl, (w2.up (by omega)).e, hX2⟩
        · skip
          refine V_skipk [3, 9] (by simp only [proj, lk, reduceIte, Nat.reduceEqDiff]; rfl) ?_
          refine hK2 _ _ ?_; clear hK2
          refine V_sr T.mix (by kernel_rfl) (fun K12 hK12 => ?_)
          refine S_mv rfl ?_
          refine S_ldn T.ag46 rfl (o_.all rfl) ?_
          refine S_call T.hb22 rfl ?_
          refine FC.mono (write_spec h2 c Q d L F I N w2 hN k oa ob oc os ot hos hoa) ?_
          rintro v' h3 ⟨rfl, w3, hE3⟩
          refine S_nil (hK12 _ _ (V_keep [] (by simp only [proj, lk, reduceIte, Nat.reduceEqDiff]; rfl) ?_)); clear hK12
          refine V_sr T.mix (by kernel_rfl) (fun K13 hK13 => ?_)
          refine S_as rfl ?_
          refine S_nil (hK13 _ _ (V_keep [10] (by simp only [proj, lk, reduceIte, Nat.reduceEqDiff]; rfl) ?_)); clear hK13
          refine V_ret ?_
          refine hR _ _ (ret1 rfl rfl ?_)
          exact ⟨rfl, w3, hX2.trans hE3⟩
set_option maxHeartbeats 1600000 in
theorem ground_spec (h : Heap) :
    FC Tryz.prog 8 (#[] : Array Value) h fun v h' => ∃ W V, v = .agg (bel W.P V.D) ∧ WSe h' W ∧ DS h' V 0 [] ∧ (∀ z, WT W z → h.size ≤ z ∧ z < h'.size) ∧ (∀ z, WTs V z → h.size ≤ z ∧ z < h'.size) ∧ (∀ z, WT W z → ¬ WTs V z) ∧ Ext (fun _ => False) h h' := by
  refine FC_of [] Tryz.func8 rfl Tryz.ntmps8 (by simp) rfl (fun R hR => ?_)
  refine V_sr T.mix (by kernel_rfl) (fun K1 hK1 => ?_)
  refine S_allocA T.z30 ?_
  generalize hh : Array.push h _ = h1
  have b1 : B h1 h.size #[.pointer none, .pointer none] 30 := by rw [← hh]; exact B.new _ _ _
  have hEh1 : Ext (fun _ => False) h h1 := by rw [← hh]; exact Ext.push _ _ _
  clear hh
  have hz1 := hEh1.1
  have hbl := b1.lt
  refine S_nil (hK1 _ _ (V_keep [0] (by simp only [proj, lk, reduceIte, Nat.reduceEqDiff]; rfl) ?_)); clear hK1
  refine V_sr T.mix (by kernel_rfl) (fun K2 hK2 => ?_)
  refine S_call T.hb13 rfl ?_
  refine FC.mono (BitW.new_spec h1) ?_
  rintro v' h2 ⟨X, tb, rfl, rt2, hE2, hX1, hX2⟩
  have hz2 := rt2.t.lt
  have hz2b := rt2.bb.lt
  have hs2 := hE2.1
  refine S_as rfl ?_
  refine S_nil (hK2 _ _ (V_keep [0, 1] (by simp only [proj, lk, reduceIte, Nat.reduceEqDiff]; rfl) ?_)); clear hK2
  refine V_sr T.mix (by kernel_rfl) (fun K3 hK3 => ?_)
  refine S_call T.hb14 rfl ?_
  refine FC.mono (hnew_spec h2) ?_
  rintro v' h3 ⟨rfl, ca3, hE3⟩
  have hz3 := ca3.lt
  refine S_as rfl ?_
  refine S_nil (hK3 _ _ (V_keep [0, 1, 2] (by simp only [proj, lk, reduceIte, Nat.reduceEqDiff]; rfl) ?_)); clear hK3
  refine V_sr T.mix (by kernel_rfl) (fun K4 hK4 => ?_)
  refine S_call T.hb14 rfl ?_
  refine FC.mono (hnew_spec h3) ?_
  rintro v' h4 ⟨rfl, cb4, hE4⟩
  have hz4 := cb4.lt
  refine S_as rfl ?_
  refine S_nil (hK4 _ _ (V_keep [0, 1, 2, 3] (by simp only [proj, lk, reduceIte, Nat.reduceEqDiff]; rfl) ?_)); clear hK4
  refine V_sr T.mix (by kernel_rfl) (fun K5 hK5 => ?_)
  refine S_call T.hb15 rfl ?_
  refine FC.mono (LzW.new_spec h4) ?_
  rintro v' h5 ⟨ZA, st, rfl, z5, hE5, hES, ri5, n5, p5⟩
  have hs5 := hE5.1
  refine S_as rfl ?_
  refine S_nil (hK5 _ _ (V_keep [0, 1, 2, 3, 4] (by simp only [proj, lk, reduceIte, Nat.reduceEqDiff]; rfl) ?_)); clear hK5
  refine V_sr T.mix (by kernel_rfl) (fun K6 hK6 => ?_)
  refine S_mv rfl ?_
  refine S_mv rfl ?_
  refine S_mv rfl ?_
  refine S_mv rfl ?_
  refine S_call T.hb16 rfl ?_
  have hbn := bnew_spec h5 (⟨X, tb, h2.size, h3.size, ZA, h5.size⟩ : WA) rfl
  refine FC.mono hbn ?_
  rintro v' h6 ⟨rfl, pb6, hE6⟩
  have sp : Sp (⟨X, tb, h2.size, h3.size, ZA, h5.size⟩ : WA) := ⟨⟨by show X < h2.size; omega, by show tb < h2.size; omega⟩, by show h2.size + 10 < h3.size; omega, fun z e => by have k1 := hES z e; have k2 := z5.lt e; exact ⟨by show h3.size + 10 < z; omega, k2⟩⟩
  have hE26 := ((hE3.trans hE4).trans hE5).trans hE6
  have w6 : WSe h6 (⟨X, tb, h2.size, h3.size, ZA, h5.size⟩ : WA) := ⟨⟨0, 0, 0⟩, HC.z, HC.z, st, ⟨sp, ⟨_, _, _, _, pb6⟩, rt2.ext hE26 (fun f => f) (fun f => f), ca3.new ((hE4.trans hE5).trans hE6), cb4.new (hE5.trans hE6), by simp [HC.z], by simp [HC.z], z5.ext hE6 (fun _ _ f => f), ri5, by omega⟩⟩
  have hp6 : h5.size + 4 < h6.size := pb6.lt
  have hr6 := wt_rng (lo := h.size) (hi := h6.size) (by show h.size ≤ X; omega) (by show h.size ≤ tb; omega) sp (by show h5.size + 4 < h6.size; omega) (by show h3.size + 10 < h6.size; omega) (by show h.size ≤ h5.size; omega)
  refine S_as rfl ?_
  refine S_nil (hK6 _ _ (V_keep [0, 5] (by simp only [proj, lk, reduceIte, Nat.reduceEqDiff]; rfl) ?_)); clear hK6
  refine V_sr T.mix (by kernel_rfl) (fun K7 hK7 => ?_)
  refine S_call T.hb13 rfl ?_
  refine FC.mono (BitW.new_spec h6) ?_
  rintro v' h7 ⟨X2, tb2, rfl, rt7, hE7, hX3, hX4⟩
  have hz7 := rt7.t.lt
  have hz7b := rt7.bb.lt
  have hs7 := hE7.1
  refine S_as rfl ?_
  refine S_nil (hK7 _ _ (V_keep [0, 5, 6] (by simp only [proj, lk, reduceIte, Nat.reduceEqDiff]; rfl) ?_)); clear hK7
  refine V_sr T.mix (by kernel_rfl) (fun K8 hK8 => ?_)
  refine S_call T.hb14 rfl ?_
  refine FC.mono (hnew_spec h7) ?_
  rintro v' h8 ⟨rfl, ca8, hE8⟩
  have hz8 := ca8.lt
  refine S_as rfl ?_
  refine S_nil (hK8 _ _ (V_keep [0, 5, 6, 7] (by simp only [proj, lk, reduceIte, Nat.reduceEqDiff]; rfl) ?_)); clear hK8
  refine V_sr T.mix (by kernel_rfl) (fun K9 hK9 => ?_)
  refine S_call T.hb14 rfl ?_
  refine FC.mono (hnew_spec h8) ?_
  rintro v' h9 ⟨rfl, cb9, hE9⟩
  have hz9 := cb9.lt
  refine S_as rfl ?_
  refine S_nil (hK9 _ _ (V_keep [0, 5, 6, 7, 8] (by simp only [proj, lk, reduceIte, Nat.reduceEqDiff]; rfl) ?_)); clear hK9
  refine V_sr T.mix (by kernel_rfl) (fun K10 hK10 => ?_)
  refine S_mv rfl ?_
  refine S_mv rfl ?_
  refine S_mv rfl ?_
  refine S_call T.hb17 rfl ?_
  have ss : Ss (⟨X2, tb2, h7.size, h8.size, h9.size⟩ : SA) := ⟨⟨by show X2 < h7.size; omega, by show tb2 < h7.size; omega⟩, by show h7.size + 10 < h8.size; omega, by show h8.size + 10 < h9.size; omega⟩
  have hE79 := hE8.trans hE9
  have hsn := snew_spec h9 (⟨X2, tb2, h7.size, h8.size, h9.size⟩ : SA) rfl ss ⟨0, 0, 0⟩ (rt7.ext hE79 (fun f => f) (fun f => f)) HC.z HC.z (ca8.new hE9) cb9
  refine FC.mono hsn ?_
  rintro v' hA ⟨rfl, swA, hEA⟩
  have hsA : h9.size + 3 < hA.size := swA.f.lt
  have hr9 := wts_rng (lo := h6.size) (hi := hA.size) (by show h6.size ≤ X2; omega) (by show h6.size ≤ tb2; omega) ss (by show h9.size + 3 < hA.size; omega)
  have dsA : DS hA (⟨X2, tb2, h7.size, h8.size, h9.size⟩ : SA) 0 [] := ⟨_, r00, _, _, _, swA, zero_st rfl rfl rfl rfl rfl rfl rfl rfl rfl (fun _ _ => Nat.zero_le _) (fun z => by cases z)⟩
  have hE29 := ((hE26.trans hE7).trans hE8).trans hE9
  have hEA2 : Ext (fun z => h6.size ≤ z) h9 hA := hEA.mono fun z e => by rcases e with e | e; (rw [e]; show h6.size ≤ X2; omega); (rw [e]; show h6.size ≤ tb2; omega)
  have wA := (((w6.new hE7).new hE8).new hE9).ext hEA2 (fun z e y => by have k := (hr6 z e).2; omega)
  have bA := ((b1.ext hE2 (fun f => f)).ext hE29 (fun f => f)).ext hEA2 (by omega)
  have kok : ∀ j, j < 2 → okPut hA ⟨h.size, j, none⟩ = true := fun j hj => bA.ok (by simpa using hj)
  refine S_as rfl ?_
  refine S_nil (hK10 _ _ (V_keep [0, 5, 9] (by simp only [proj, lk, reduceIte, Nat.reduceEqDiff]; rfl) ?_)); clear hK10
  refine V_sr T.mix (by kernel_rfl) (fun K11 hK11 => ?_)
  refine S_mv rfl ?_
  refine S_mv rfl ?_
  refine S_bld rfl (T.bld30_0_1 _ _) ?_
  refine S_stl T.sz30 rfl rfl rfl rfl (fun j hj => by simp (disch := omega) only [kok]) ?_
  generalize hh : putsH _ _ _ _ = hB
  have bB : B hB (h.size) (bel h5.size h9.size) 30 := by rw [← hh]; exact puts_all (bA) (cs' := (bel h5.size h9.size)) rfl
  have hEhB : Ext (fun k => k = h.size) hA hB := by rw [← hh]; exact Ext.puts (S := fun k => k = h.size) rfl _ _ _
  have hzB : hB.size = hA.size := by rw [← hh]; exact size_puts _ _ _
  clear hh
  refine S_nil (hK11 _ _ (V_keep [0] (by simp only [proj, lk, reduceIte, Nat.reduceEqDiff]; rfl) ?_)); clear hK11
  refine V_ret ?_
  refine hR _ _ (retc1 rfl rfl T.ag30 bB (by rfl) ?_)
  have hwn : ∀ z, WT (⟨X, tb, h2.size, h3.size, ZA, h5.size⟩ : WA) z → z ≠ h.size := fun z e y => by
    have k := wt_rng (lo := h1.size) (hi := h6.size) (by show h1.size ≤ X; omega) (by show h1.size ≤ tb; omega) sp (by show h5.size + 4 < h6.size; omega) (by show h3.size + 10 < h6.size; omega) (by show h1.size ≤ h5.size; omega) z e
    omega
  exact ⟨(⟨X, tb, h2.size, h3.size, ZA, h5.size⟩ : WA), (⟨X2, tb2, h7.size, h8.size, h9.size⟩ : SA), rfl, wA.ext hEhB hwn, dsA.ext hEhB (fun z e y => by have k := (hr9 z e).1; omega), fun z e => by have k := hr6 z e; exact ⟨k.1, by omega⟩, fun z e => by have k := hr9 z e; exact ⟨by omega, by omega⟩, fun z e y => by have k := hr6 z e; have k2 := hr9 z y; omega, (((hEh1.trans hE2).trans hE29).step hEA2 (fun b hb e => by omega)).step hEhB (fun b hb e => by omega)⟩
end Go.Proofs.Qxb6500404aGreat
