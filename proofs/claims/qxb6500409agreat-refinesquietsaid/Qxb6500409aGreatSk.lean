import Derived.Test.Qxb6500409aGreatSj
set_option linter.unusedVariables false
set_option linter.unusedSimpArgs false
namespace Go.Proofs.Qxb6500409aGreat
open Go.Eng Go.Bits Go.Blk HufW

/-- the script, as it lies in the heap -/
def Scr (base : Nat) (h : Heap) (sa : Option Addr) (n : Nat) : Prop := ∀ i, i < n → ∃ sb so, sa = some ⟨sb, so, none⟩ ∧ sb < base ∧ ∃ k a b c s u, cellsH h ⟨sb, so + i * 6, none⟩ 0 6 = some [.int .i64 k, .int .i64 a, .int .i64 b, .int .i64 c, .string s, .string u]
theorem cellsH_same {h h' : Heap} {b o : Nat} (he : h'[b]? = h[b]?) : ∀ (n i : Nat), cellsH h' ⟨b, o, none⟩ i n = cellsH h ⟨b, o, none⟩ i n
  | 0, _ => rfl
  | n + 1, i => by
    have e : cellH h' ((⟨b, o, none⟩ : Addr).add i) = cellH h ((⟨b, o, none⟩ : Addr).add i) := by rw [add_mk]; unfold cellH; simp only [he]
    simp only [cellsH, e, cellsH_same he n (i + 1)]
theorem Scr.ext {base : Nat} {h h' : Heap} {sa : Option Addr} {n : Nat} (hs : Scr base h sa n) (hb : base ≤ h.size) (he : Ext (fun b => base ≤ b) h h') : Scr base h' sa n := by
  intro i hi
  obtain ⟨sb, so, e, hlt, k, a, b, c, s, u, hc⟩ := hs i hi
  exact ⟨sb, so, e, hlt, k, a, b, c, s, u, by rw [cellsH_same (he.2 sb (by omega) (by omega))]; exact hc⟩
theorem oq {h : Heap} {b : Nat} {k oa ob oc : Int} {os ot : ByteArray} {t : TypeId} (hB : B h b #[.int .i64 k, .int .i64 oa, .int .i64 ob, .int .i64 oc, .string os, .string ot] t) : cellH h ⟨b, 0, none⟩ = some (.int .i64 k) ∧ cellH h ⟨b, 1, none⟩ = some (.int .i64 oa) ∧ cellH h ⟨b, 2, none⟩ = some (.int .i64 ob) ∧ cellH h ⟨b, 4, none⟩ = some (.string os) := ⟨hB.cell 0, hB.cell 1, hB.cell 2, hB.cell 4⟩
def LWE (h : Heap) (W : SA) (M X : Nat) : Prop := ∃ r s ua ub raw out st reg cur src got, LW h W M X r s ua ub raw out st reg cur src got
theorem LW.e {h : Heap} {W : SA} {M X : Nat} {r : SR} {s : TS} {ua ub : HC} {raw : ByteArray} {out : List Int} {st : Nat} {reg : ByteArray} {cur : Nat} {src : ByteArray} {got : Bool} (w : LW h W M X r s ua ub raw out st reg cur src got) : LWE h W M X := ⟨_, _, _, _, _, _, _, _, _, _, _, w⟩
theorem LWE.new {h h' : Heap} {W : SA} {M X : Nat} (w : LWE h W M X) (he : Ext (fun _ => False) h h') : LWE h' W M X := by
  obtain ⟨_, _, _, _, _, _, _, _, _, _, _, w⟩ := w
  exact (w.new he).e
/-- nothing fed -/
theorem zero_st {r : SR} {ua ub : HC} (h1 : r.ph = 0) (h2 : r.fi = 0) (h3 : r.at_ = 0) (h4 : r.hd = 0) (h5 : r.w = 0) (h6 : r.fl = 0) (h7 : r.n = 0) (h8 : r.tt = 0) (h9 : r.fed = 0) (hl : ∀ j, j < 273 → r.ls j ≤ 10) (hh : r.held = true → CK ua (Huf.cf (lA fixL)) ∧ ua.n = 265 ∧ CK ub (Huf.cf (lB fixL)) ∧ ub.n = 8) : RSt ⟨#[]⟩ r [] ⟨0, 0, 0⟩ ua ub 0 := by
  refine .inl ⟨rfl, 0, fun _ => 0, fun _ => 0, ⟨⟨h8, by rw [h5]; rfl, by rw [h6]; rfl, by rw [h7]; rfl, Nat.zero_le _, fun i hi => absurd hi (Nat.not_lt_zero _), fun j hj => by omega⟩, rfl, rfl, ⟨by simp, Nat.le_refl _, Nat.zero_le _⟩, Nat.zero_le _, h9, hl, by omega, by omega, by omega, hh, .inr (.inr rfl)⟩, ?_, fun z => by omega, fun z => by omega, fun z => by omega, fun z => by omega, fun z => by omega, fun z => by omega, .inr (.inr ⟨rfl, .inl ⟨h1, rfl⟩⟩), by omega⟩
  rw [rs0 h1]
  exact Gx.z rfl
theorem RSt.reset {raw : ByteArray} {r : SR} {out : List Int} {s : TS} {ua ub : HC} {st : Nat} (q : RSt raw r out s ua ub st) : RSt ⟨#[]⟩ (rse r) [] ⟨0, 0, 0⟩ ua ub 0 := by
  obtain ⟨n, w⟩ := q.w
  exact zero_st rfl rfl rfl rfl rfl rfl rfl rfl rfl w.l10 w.hl
theorem pk_ok {u : ByteArray} {lv : Int} (h : pkE u lv = 0) : u.size ≤ 256 ∧ pkT u lv = pkF u lv := by
  refine ⟨Nat.le_of_not_lt (fun z => by unfold pkE at h; rw [if_pos z] at h; cases h), by unfold pkT; rw [if_pos h]⟩
set_option maxHeartbeats 6400000 in
theorem play_spec (h : Heap) (W : SA) (M X : Nat) (r : SR) (s : TS) (ua ub : HC) (raw : ByteArray) (out : List Int) (st : Nat) (reg : ByteArray) (cur : Nat) (src : ByteArray) (got : Bool) (w : LW h W M X r s ua ub raw out st reg cur src got) (k oa ob oc : Int) (os ot : ByteArray) :
    FC Tryz.prog 12 (#[.pointer (some ⟨W.D, 0, none⟩), .pointer (some ⟨M, 0, none⟩), .pointer (some ⟨X, 0, none⟩), .agg #[.int .i64 k, .int .i64 oa, .int .i64 ob, .int .i64 oc, .string os, .string ot]] : Array Value) h fun rv h' => rv = .bool true ∧ LWE h' W M X ∧ Ext (LT W M X) h h' := by
  obtain ⟨fM, fX, fW, fz, fo⟩ := w.facts
  have l1 := w.l1
  have l2 := w.l2
  refine FC_of [(0, .pointer (some ⟨W.D, 0, none⟩)), (1, .pointer (some ⟨M, 0, none⟩)), (2, .pointer (some ⟨X, 0, none⟩)), (3, .agg #[.int .i64 k, .int .i64 oa, .int .i64 ob, .int .i64 oc, .string os, .string ot])] Tryz.func12 rfl Tryz.ntmps12 (by simp) rfl (fun R hR => ?_)
  refine V_sr T.mix (by kernel_rfl) (fun K1 hK1 => ?_)
  refine S_boxA rfl ?_
  generalize hh : Array.push h _ = h1
  have o_ : B h1 h.size #[.int .i64 k, .int .i64 oa, .int .i64 ob, .int .i64 oc, .string os, .string ot] 43 := by rw [← hh]; exact B.new _ _ _
  have hEh1 : Ext (fun _ => False) h h1 := by rw [← hh]; exact Ext.push _ _ _
  clear hh
  have w1 := w.new hEh1
  have hX1 : Ext (LT W M X) h h1 := hEh1.mono fun _ f => f.elim
  try clear o0 o1 o2 o4
  obtain ⟨o0, o1, o2, o4⟩ := oq (o_)
  try clear v0 v1 v2 v3 v4 v5 vok
  obtain ⟨v0, v1, v2, v3, v4, v5, vok⟩ := dkq (w1.db)
  refine S_as rfl ?_
  refine S_nil (hK1 _ _ (V_keep [0, 1, 2, 7] (by simp only [proj, lk, reduceIte, Nat.reduceEqDiff]; rfl) ?_)); clear hK1
  refine V_seq (fun K2 hK2 => ?_)
  refine V_sr T.mix (by kernel_rfl) (fun K3 hK3 => ?_)
  first | refine S_fa0 T.f43_0 rfl ?_ | refine S_fa T.f43_0 rfl ?_
  refine S_ldK T.ag3 rfl (fun K' hK' => ?_)
  simp (disch := omega) only [v0, v1, v2, v3, v4, v5, o0, o1, o2, o4, oP_some, Nat.add_zero]
  refine hK' _ ?_; clear hK' K'
  refine S_nil (hK3 _ _ (V_keep [0, 1, 2, 7, 13] (by simp only [proj, lk, reduceIte, Nat.reduceEqDiff]; rfl) ?_)); clear hK3
  refine V_block ?_
  refine V_sr T.mix (by kernel_rfl) (fun K4 hK4 => ?_)
  refine S_bin rfl rfl rfl ?_
  refine S_as rfl ?_
  refine S_nil (hK4 _ _ (V_keep [0, 1, 2, 7, 13, 14] (by simp only [proj, lk, reduceIte, Nat.reduceEqDiff]; rfl) ?_)); clear hK4
  refine V_condp rfl (fun c197 => ?_) (fun c197 => ?_)
  · skip
    refine V_sr T.mix (by kernel_rfl) (fun K5 hK5 => ?_)
    refine S_mv rfl ?_
    refine S_mv rfl ?_
    refine S_nc rfl ?_
    first | refine S_fa0 T.f38_0 rfl ?_ | refine S_fa T.f38_0 rfl ?_
    refine S_ldK T.ag9 rfl (fun K' hK' => ?_)
    simp (disch := omega) only [v0, v1, v2, v3, v4, v5, o0, o1, o2, o4, oP_some, Nat.add_zero]
    refine hK' _ ?_; clear hK' K'
    first | refine S_fa0 T.f43_4 rfl ?_ | refine S_fa T.f43_4 rfl ?_
    refine S_ldK T.ag9 rfl (fun K' hK' => ?_)
    simp (disch := omega) only [v0, v1, v2, v3, v4, v5, o0, o1, o2, o4, oP_some, Nat.add_zero]
    refine hK' _ ?_; clear hK' K'
    refine S_call T.hb25 rfl ?_
    refine FC.mono (lengthen_spec reg os h1 w.rs) ?_
    rintro v' h' ⟨⟨u2, rfl, hu2⟩, rfl⟩
    refine S_nc rfl ?_
    first | refine S_fa0 T.f38_0 rfl ?_ | refine S_fa T.f38_0 rfl ?_
    refine S_st T.sz9 rfl rfl rfl rfl (by simp (disch := omega) only [vok]) ?_
    generalize hh : putH _ _ _ = h2
    have b2 : B h2 X (dk u2 cur raw (mkS out) src got) 38 := by rw [← hh]; exact (w1.db.put 0 _).cong (by simp [dk])
    have hEh2 : Ext (fun z => z = X) h1 h2 := by rw [← hh]; exact Ext.put _ _ rfl
    clear hh
    try clear v0 v1 v2 v3 v4 v5 vok
    obtain ⟨v0, v1, v2, v3, v4, v5, vok⟩ := dkq (b2)
    refine S_nil (hK5 _ _ (V_keep [2] (by simp only [proj, lk, reduceIte, Nat.reduceEqDiff]; rfl) ?_)); clear hK5
    refine V_reg T.mix (by kernel_rfl) ?_
    refine S_mv rfl ?_
    refine S_nc rfl ?_
    first | refine S_fa0 T.f38_5 rfl ?_ | refine S_fa T.f38_5 rfl ?_
    refine S_st T.sz4 rfl rfl rfl rfl (by simp (disch := omega) only [vok]) ?_
    generalize hh : putH _ _ _ = h3
    have b3 : B h3 X (dk u2 cur raw (mkS out) src false) 38 := by rw [← hh]; exact (b2.put 5 _).cong (by simp [dk])
    have hEh3 : Ext (fun z => z = X) h2 h3 := by rw [← hh]; exact Ext.put _ _ rfl
    clear hh
    try clear v0 v1 v2 v3 v4 v5 vok
    obtain ⟨v0, v1, v2, v3, v4, v5, vok⟩ := dkq (b3)
    refine S_nilk [] (by simp only [proj, lk, reduceIte, Nat.reduceEqDiff]; rfl) ?_
    refine hK2 _ _ ?_; clear hK2
    refine V_sr T.mix (by kernel_rfl) (fun K6 hK6 => ?_)
    refine S_as rfl ?_
    refine S_nil (hK6 _ _ (V_keep [8] (by simp only [proj, lk, reduceIte, Nat.reduceEqDiff]; rfl) ?_)); clear hK6
    refine V_ret ?_
    refine hR _ _ (ret1 rfl rfl ?_)
    have hE := hEh2.trans hEh3
    exact ⟨rfl, (w1.desk b3 hE hu2 w.cs (fun z => by cases z)).e, hX1.trans (hE.mono fun _ e => .inr (.inr e))⟩
  · skip
    refine V_sr T.mix (by kernel_rfl) (fun K7 hK7 => ?_)
    refine S_bin rfl rfl rfl ?_
    refine S_as rfl ?_
    refine S_nil (hK7 _ _ (V_keep [0, 1, 2, 7, 13, 29] (by simp only [proj, lk, reduceIte, Nat.reduceEqDiff]; rfl) ?_)); clear hK7
    refine V_condp rfl (fun c200 => ?_) (fun c200 => ?_)
    · skip
      refine V_sr T.mix (by kernel_rfl) (fun K8 hK8 => ?_)
      first | refine S_fa0 T.f43_4 rfl ?_ | refine S_fa T.f43_4 rfl ?_
      refine S_ldK T.ag9 rfl (fun K' hK' => ?_)
      simp (disch := omega) only [v0, v1, v2, v3, v4, v5, o0, o1, o2, o4, oP_some, Nat.add_zero]
      refine hK' _ ?_; clear hK' K'
      first | refine S_fa0 T.f43_1 rfl ?_ | refine S_fa T.f43_1 rfl ?_
      refine S_ldK T.ag3 rfl (fun K' hK' => ?_)
      simp (disch := omega) only [v0, v1, v2, v3, v4, v5, o0, o1, o2, o4, oP_some, Nat.add_zero]
      refine hK' _ ?_; clear hK' K'
      refine S_call T.hb26 rfl ?_
      refine FC.mono (spack_spec h1 os oa) ?_
      rintro v' h2 ⟨rfl, hE2⟩
      have w2 := w1.new hE2
      have o2_ := o_.ext hE2 (fun f => f)
      try clear o0 o1 o2 o4
      obtain ⟨o0, o1, o2, o4⟩ := oq (o2_)
      try clear v0 v1 v2 v3 v4 v5 vok
      obtain ⟨v0, v1, v2, v3, v4, v5, vok⟩ := dkq (w2.db)
      refine S_mv rfl ?_
      refine S_ex rfl rfl ?_
      refine S_ex rfl rfl ?_
      refine S_as rfl ?_
      refine S_as rfl ?_
      refine S_nil (hK8 _ _ (V_keep [2, 7, 9, 10] (by simp only [proj, lk, reduceIte, Nat.reduceEqDiff]; rfl) ?_)); clear hK8
      refine V_sr T.mix (by kernel_rfl) (fun K9 hK9 => ?_)
      refine S_mv rfl ?_
      refine S_bin rfl rfl rfl ?_
      refine S_nil (hK9 _ _ (V_keep [2, 7, 9, 40] (by simp only [proj, lk, reduceIte, Nat.reduceEqDiff]; rfl) ?_)); clear hK9
      refine V_condp rfl (fun c202 => ?_) (fun c202 => ?_)
      · skip
        refine V_sr T.mix (by kernel_rfl) (fun K10 hK10 => ?_)
        refine S_mv rfl ?_
        refine S_mv rfl ?_
        refine S_nc rfl ?_
        first | refine S_fa0 T.f38_0 rfl ?_ | refine S_fa T.f38_0 rfl ?_
        refine S_st T.sz9 rfl rfl rfl rfl (by simp (disch := omega) only [vok]) ?_
        generalize hh : putH _ _ _ = h3
        have b3 : B h3 X (dk (pkT os oa) cur raw (mkS out) src got) 38 := by rw [← hh]; exact (w2.db.put 0 _).cong (by simp [dk])
        have hEh3 : Ext (fun z => z = X) h2 h3 := by rw [← hh]; exact Ext.put _ _ rfl
        clear hh
        try clear v0 v1 v2 v3 v4 v5 vok
        obtain ⟨v0, v1, v2, v3, v4, v5, vok⟩ := dkq (b3)
        try clear o0 o1 o2 o4
        obtain ⟨o0, o1, o2, o4⟩ := oq (o2_.ext hEh3 (fun e => by omega))
        refine S_nil (hK10 _ _ (V_keep [2, 7] (by simp only [proj, lk, reduceIte, Nat.reduceEqDiff]; rfl) ?_)); clear hK10
        refine V_sr T.mix (by kernel_rfl) (fun K11 hK11 => ?_)
        refine S_mv rfl ?_
        first | refine S_fa0 T.f43_4 rfl ?_ | refine S_fa T.f43_4 rfl ?_
        refine S_ldK T.ag9 rfl (fun K' hK' => ?_)
        simp (disch := omega) only [v0, v1, v2, v3, v4, v5, o0, o1, o2, o4, oP_some, Nat.add_zero]
        refine hK' _ ?_; clear hK' K'
        refine S_nc rfl ?_
        first | refine S_fa0 T.f38_4 rfl ?_ | refine S_fa T.f38_4 rfl ?_
        refine S_st T.sz9 rfl rfl rfl rfl (by simp (disch := omega) only [vok]) ?_
        generalize hh : putH _ _ _ = h4
        have b4 : B h4 X (dk (pkT os oa) cur raw (mkS out) os got) 38 := by rw [← hh]; exact (b3.put 4 _).cong (by simp [dk])
        have hEh4 : Ext (fun z => z = X) h3 h4 := by rw [← hh]; exact Ext.put _ _ rfl
        clear hh
        try clear v0 v1 v2 v3 v4 v5 vok
        obtain ⟨v0, v1, v2, v3, v4, v5, vok⟩ := dkq (b4)
        refine S_nil (hK11 _ _ (V_keep [2] (by simp only [proj, lk, reduceIte, Nat.reduceEqDiff]; rfl) ?_)); clear hK11
        refine V_reg T.mix (by kernel_rfl) ?_
        refine S_mv rfl ?_
        refine S_nc rfl ?_
        first | refine S_fa0 T.f38_5 rfl ?_ | refine S_fa T.f38_5 rfl ?_
        refine S_st T.sz4 rfl rfl rfl rfl (by simp (disch := omega) only [vok]) ?_
        generalize hh : putH _ _ _ = h5
        have b5 : B h5 X (dk (pkT os oa) cur raw (mkS out) os true) 38 := by rw [← hh]; exact (b4.put 5 _).cong (by simp [dk])
        have hEh5 : Ext (fun z => z = X) h4 h5 := by rw [← hh]; exact Ext.put _ _ rfl
        clear hh
        try clear v0 v1 v2 v3 v4 v5 vok
        obtain ⟨v0, v1, v2, v3, v4, v5, vok⟩ := dkq (b5)
        refine S_nilk [] (by simp only [proj, lk, reduceIte, Nat.reduceEqDiff]; rfl) ?_
        refine hK2 _ _ ?_; clear hK2
        refine V_sr T.mix (by kernel_rfl) (fun K12 hK12 => ?_)
        refine S_as rfl ?_
        refine S_nil (hK12 _ _ (V_keep [8] (by simp only [proj, lk, reduceIte, Nat.reduceEqDiff]; rfl) ?_)); clear hK12
        refine V_ret ?_
        refine hR _ _ (ret1 rfl rfl ?_)
        have hE := (hEh3.trans hEh4).trans hEh5
        obtain ⟨hk1, hk2⟩ := pk_ok (u := os) (lv := oa) (by omega)
        exact ⟨rfl, (w2.desk b5 hE (by rw [hk2]; have h9 := (pk_size (u := os) oa).2; omega) w.cs (fun _ => ⟨oa, hk1, hk2⟩)).e, (hX1.step hE2 (fun z hz f => f.elim)).trans (hE.mono fun _ e => .inr (.inr e))⟩
      · skip
        refine V_skipk [] (by simp only [proj, lk, reduceIte, Nat.reduceEqDiff]; rfl) ?_
        refine hK2 _ _ ?_; clear hK2
        refine V_sr T.mix (by kernel_rfl) (fun K13 hK13 => ?_)
        refine S_as rfl ?_
        refine S_nil (hK13 _ _ (V_keep [8] (by simp only [proj, lk, reduceIte, Nat.reduceEqDiff]; rfl) ?_)); clear hK13
        refine V_ret ?_
        refine hR _ _ (ret1 rfl rfl ?_)
        exact ⟨rfl, w2.e, hX1.step hE2 (fun z hz f => f.elim)⟩
    · skip
      refine V_sr T.mix (by kernel_rfl) (fun K14 hK14 => ?_)
      refine S_bin rfl rfl rfl ?_
      refine S_as rfl ?_
      refine S_nil (hK14 _ _ (V_keep [0, 1, 2, 7, 13, 53] (by simp only [proj, lk, reduceIte, Nat.reduceEqDiff]; rfl) ?_)); clear hK14
      refine V_condp rfl (fun c207 => ?_) (fun c207 => ?_)
      · skip
        refine V_sr T.mix (by kernel_rfl) (fun K15 hK15 => ?_)
        refine S_mv rfl ?_
        refine S_mv rfl ?_
        refine S_nc rfl ?_
        first | refine S_fa0 T.f38_0 rfl ?_ | refine S_fa T.f38_0 rfl ?_
        refine S_ldK T.ag9 rfl (fun K' hK' => ?_)
        simp (disch := omega) only [v0, v1, v2, v3, v4, v5, o0, o1, o2, o4, oP_some, Nat.add_zero]
        refine hK' _ ?_; clear hK' K'
        first | refine S_fa0 T.f43_1 rfl ?_ | refine S_fa T.f43_1 rfl ?_
        refine S_ldK T.ag3 rfl (fun K' hK' => ?_)
        simp (disch := omega) only [v0, v1, v2, v3, v4, v5, o0, o1, o2, o4, oP_some, Nat.add_zero]
        refine hK' _ ?_; clear hK' K'
        refine S_call T.hb27 rfl ?_
        refine FC.mono (turnbit_spec h1 reg oa w.rs) ?_
        rintro v' h2 ⟨⟨u2, rfl, hu2⟩, hE2⟩
        have w2 := w1.new hE2
        try clear v0 v1 v2 v3 v4 v5 vok
        obtain ⟨v0, v1, v2, v3, v4, v5, vok⟩ := dkq (w2.db)
        refine S_nc rfl ?_
        first | refine S_fa0 T.f38_0 rfl ?_ | refine S_fa T.f38_0 rfl ?_
        refine S_st T.sz9 rfl rfl rfl rfl (by simp (disch := omega) only [vok]) ?_
        generalize hh : putH _ _ _ = h3
        have b3 : B h3 X (dk u2 cur raw (mkS out) src got) 38 := by rw [← hh]; exact (w2.db.put 0 _).cong (by simp [dk])
        have hEh3 : Ext (fun z => z = X) h2 h3 := by rw [← hh]; exact Ext.put _ _ rfl
        clear hh
        try clear v0 v1 v2 v3 v4 v5 vok
        obtain ⟨v0, v1, v2, v3, v4, v5, vok⟩ := dkq (b3)
        refine S_nil (hK15 _ _ (V_keep [2] (by simp only [proj, lk, reduceIte, Nat.reduceEqDiff]; rfl) ?_)); clear hK15
        refine V_reg T.mix (by kernel_rfl) ?_
        refine S_mv rfl ?_
        refine S_nc rfl ?_
        first | refine S_fa0 T.f38_5 rfl ?_ | refine S_fa T.f38_5 rfl ?_
        refine S_st T.sz4 rfl rfl rfl rfl (by simp (disch := omega) only [vok]) ?_
        generalize hh : putH _ _ _ = h4
        have b4 : B h4 X (dk u2 cur raw (mkS out) src false) 38 := by rw [← hh]; exact (b3.put 5 _).cong (by simp [dk])
        have hEh4 : Ext (fun z => z = X) h3 h4 := by rw [← hh]; exact Ext.put _ _ rfl
        clear hh
        try clear v0 v1 v2 v3 v4 v5 vok
        obtain ⟨v0, v1, v2, v3, v4, v5, vok⟩ := dkq (b4)
        refine S_nilk [] (by simp only [proj, lk, reduceIte, Nat.reduceEqDiff]; rfl) ?_
        refine hK2 _ _ ?_; clear hK2
        refine V_sr T.mix (by kernel_rfl) (fun K16 hK16 => ?_)
        refine S_as rfl ?_
        refine S_nil (hK16 _ _ (V_keep [8] (by simp only [proj, lk, reduceIte, Nat.reduceEqDiff]; rfl) ?_)); clear hK16
        refine V_ret ?_
        refine hR _ _ (ret1 rfl rfl ?_)
        have hE := hEh3.trans hEh4
        exact ⟨rfl, (w2.desk b4 hE (by have h9 := w.rs; omega) w.cs (fun z => by cases z)).e, (hX1.step hE2 (fun z hz f => f.elim)).trans (hE.mono fun _ e => .inr (.inr e))⟩
      · skip
        refine V_sr T.mix (by kernel_rfl) (fun K17 hK17 => ?_)
        refine S_bin rfl rfl rfl ?_
        refine S_as rfl ?_
        refine S_nil (hK17 _ _ (V_keep [0, 1, 2, 7, 13, 68] (by simp only [proj, lk, reduceIte, Nat.reduceEqDiff]; rfl) ?_)); clear hK17
        refine V_condp rfl (fun c210 => ?_) (fun c210 => ?_)
        · skip
          refine V_sr T.mix (by kernel_rfl) (fun K18 hK18 => ?_)
          refine S_mv rfl ?_
          first | refine S_fa0 T.f43_1 rfl ?_ | refine S_fa T.f43_1 rfl ?_
          refine S_ldK T.ag3 rfl (fun K' hK' => ?_)
          simp (disch := omega) only [v0, v1, v2, v3, v4, v5, o0, o1, o2, o4, oP_some, Nat.add_zero]
          refine hK' _ ?_; clear hK' K'
          refine S_call T.hb28 rfl ?_
          refine FC.mono (next_spec h1 W M X r s ua ub raw out st reg cur src got w1 oa) ?_
          rintro v' h2 ⟨c2, cur2, rfl, w2, hE2⟩
          have hno : ¬ LT W M X h.size := fun e => by rcases e with e | e | e; (have h9 := fW _ e; omega); (omega); (omega)
          have o2_ := o_.ext hE2 hno
          try clear o0 o1 o2 o4
          obtain ⟨o0, o1, o2, o4⟩ := oq (o2_)
          refine S_as rfl ?_
          refine S_nil (hK18 _ _ (V_keep [0, 1, 2, 7, 11] (by simp only [proj, lk, reduceIte, Nat.reduceEqDiff]; rfl) ?_)); clear hK18
          refine V_sr T.mix (by kernel_rfl) (fun K19 hK19 => ?_)
          refine S_mv rfl ?_
          refine S_mv rfl ?_
          refine S_mv rfl ?_
          refine S_mv rfl ?_
          first | refine S_fa0 T.f43_2 rfl ?_ | refine S_fa T.f43_2 rfl ?_
          refine S_ldK T.ag3 rfl (fun K' hK' => ?_)
          simp (disch := omega) only [v0, v1, v2, v3, v4, v5, o0, o1, o2, o4, oP_some, Nat.add_zero]
          refine hK' _ ?_; clear hK' K'
          refine S_bin rfl rfl rfl ?_
          refine S_call T.hb29 rfl ?_
          refine FC.mono (samefeed_spec h2 W M X r s ua ub raw out st reg cur2 src got w2 c2 (decide (ob ≠ 0))) ?_
          rintro v' h3 ⟨r3, s3, va, vb, raw3, out3, st3, rfl, w3, hE3⟩
          refine S_as rfl ?_
          refine S_nil (hK19 _ _ (V_keep [8] (by simp only [proj, lk, reduceIte, Nat.reduceEqDiff]; rfl) ?_)); clear hK19
          refine V_ret ?_
          refine hR _ _ (ret1 rfl rfl ?_)
          exact ⟨rfl, w3.e, (hX1.trans hE2).trans hE3⟩
        · skip
          refine V_sr T.mix (by kernel_rfl) (fun K20 hK20 => ?_)
          refine S_bin rfl rfl rfl ?_
          refine S_as rfl ?_
          refine S_nil (hK20 _ _ (V_keep [0, 1, 2, 7, 13, 82] (by simp only [proj, lk, reduceIte, Nat.reduceEqDiff]; rfl) ?_)); clear hK20
          refine V_condp rfl (fun c213 => ?_) (fun c213 => ?_)
          · skip
            refine V_sr T.mix (by kernel_rfl) (fun K21 hK21 => ?_)
            refine S_mv rfl ?_
            refine S_mv rfl ?_
            refine S_mv rfl ?_
            first | refine S_fa0 T.f43_4 rfl ?_ | refine S_fa T.f43_4 rfl ?_
            refine S_ldK T.ag9 rfl (fun K' hK' => ?_)
            simp (disch := omega) only [v0, v1, v2, v3, v4, v5, o0, o1, o2, o4, oP_some, Nat.add_zero]
            refine hK' _ ?_; clear hK' K'
            first | refine S_fa0 T.f43_2 rfl ?_ | refine S_fa T.f43_2 rfl ?_
            refine S_ldK T.ag3 rfl (fun K' hK' => ?_)
            simp (disch := omega) only [v0, v1, v2, v3, v4, v5, o0, o1, o2, o4, oP_some, Nat.add_zero]
            refine hK' _ ?_; clear hK' K'
            refine S_bin rfl rfl rfl ?_
            refine S_call T.hb29 rfl ?_
            refine FC.mono (samefeed_spec h1 W M X r s ua ub raw out st reg cur src got w1 os (decide (ob ≠ 0))) ?_
            rintro v' h3 ⟨r3, s3, va, vb, raw3, out3, st3, rfl, w3, hE3⟩
            refine S_as rfl ?_
            refine S_nil (hK21 _ _ (V_keep [8] (by simp only [proj, lk, reduceIte, Nat.reduceEqDiff]; rfl) ?_)); clear hK21
            refine V_ret ?_
            refine hR _ _ (ret1 rfl rfl ?_)
            exact ⟨rfl, w3.e, hX1.trans hE3⟩
          · skip
            refine V_sr T.mix (by kernel_rfl) (fun K22 hK22 => ?_)
            refine S_bin rfl rfl rfl ?_
            refine S_as rfl ?_
            refine S_nil (hK22 _ _ (V_keep [0, 1, 2, 13, 93] (by simp only [proj, lk, reduceIte, Nat.reduceEqDiff]; rfl) ?_)); clear hK22
            refine V_condp rfl (fun c215 => ?_) (fun c215 => ?_)
            · skip
              refine V_sr T.mix (by kernel_rfl) (fun K23 hK23 => ?_)
              refine S_mv rfl ?_
              refine S_call T.hb30 rfl ?_
              refine FC.mono (sreset_spec h1 W r s ua ub w1.sw) ?_
              rintro v' h2 ⟨rfl, sw2, hE2⟩
              have mb2 := w1.mb.ext hE2 (fun e => by have h9 := fW _ e; omega)
              have db2 := w1.db.ext hE2 (fun e => by have h9 := fW _ e; omega)
              refine S_nil (hK23 _ _ (V_keep [1, 2] (by simp only [proj, lk, reduceIte, Nat.reduceEqDiff]; rfl) ?_)); clear hK23
              refine V_sr T.mix (by kernel_rfl) (fun K24 hK24 => ?_)
              refine S_mv rfl ?_
              refine S_call T.hb31 rfl ?_
              refine FC.mono (mreset_spec h2 M raw out.length st mb2) ?_
              rintro v' h3 ⟨rfl, mb3, hE3⟩
              have db3 := db2.ext hE3 (fun e => by omega)
              have sw3 := sw2.ext hE3 (fun z e y => by have h9 := fW z e; omega)
              try clear v0 v1 v2 v3 v4 v5 vok
              obtain ⟨v0, v1, v2, v3, v4, v5, vok⟩ := dkq (db3)
              refine S_nil (hK24 _ _ (V_keep [2] (by simp only [proj, lk, reduceIte, Nat.reduceEqDiff]; rfl) ?_)); clear hK24
              refine V_sr T.mix (by kernel_rfl) (fun K25 hK25 => ?_)
              refine S_mv rfl ?_
              refine S_nc rfl ?_
              first | refine S_fa0 T.f38_1 rfl ?_ | refine S_fa T.f38_1 rfl ?_
              refine S_st T.sz3 rfl rfl rfl rfl (by simp (disch := omega) only [vok]) ?_
              generalize hh : putH _ _ _ = h4
              have b4 : B h4 X (dk reg 0 raw (mkS out) src got) 38 := by rw [← hh]; exact (db3.put 1 _).cong (by simp [dk])
              have hEh4 : Ext (fun z => z = X) h3 h4 := by rw [← hh]; exact Ext.put _ _ rfl
              clear hh
              try clear v0 v1 v2 v3 v4 v5 vok
              obtain ⟨v0, v1, v2, v3, v4, v5, vok⟩ := dkq (b4)
              refine S_nil (hK25 _ _ (V_keep [2] (by simp only [proj, lk, reduceIte, Nat.reduceEqDiff]; rfl) ?_)); clear hK25
              refine V_sr T.mix (by kernel_rfl) (fun K26 hK26 => ?_)
              refine S_mv rfl ?_
              refine S_nc rfl ?_
              first | refine S_fa0 T.f38_2 rfl ?_ | refine S_fa T.f38_2 rfl ?_
              refine S_st T.sz9 rfl rfl rfl rfl (by simp (disch := omega) only [vok]) ?_
              generalize hh : putH _ _ _ = h5
              have b5 : B h5 X (dk reg 0 ⟨#[]⟩ (mkS out) src got) 38 := by rw [← hh]; exact (b4.put 2 _).cong (by simp [dk])
              have hEh5 : Ext (fun z => z = X) h4 h5 := by rw [← hh]; exact Ext.put _ _ rfl
              clear hh
              try clear v0 v1 v2 v3 v4 v5 vok
              obtain ⟨v0, v1, v2, v3, v4, v5, vok⟩ := dkq (b5)
              refine S_nil (hK26 _ _ (V_keep [2] (by simp only [proj, lk, reduceIte, Nat.reduceEqDiff]; rfl) ?_)); clear hK26
              refine V_reg T.mix (by kernel_rfl) ?_
              refine S_mv rfl ?_
              refine S_nc rfl ?_
              first | refine S_fa0 T.f38_3 rfl ?_ | refine S_fa T.f38_3 rfl ?_
              refine S_st T.sz9 rfl rfl rfl rfl (by simp (disch := omega) only [vok]) ?_
              generalize hh : putH _ _ _ = h6
              have b6 : B h6 X (dk reg 0 ⟨#[]⟩ ⟨#[]⟩ src got) 38 := by rw [← hh]; exact (b5.put 3 _).cong (by simp [dk])
              have hEh6 : Ext (fun z => z = X) h5 h6 := by rw [← hh]; exact Ext.put _ _ rfl
              clear hh
              try clear v0 v1 v2 v3 v4 v5 vok
              obtain ⟨v0, v1, v2, v3, v4, v5, vok⟩ := dkq (b6)
              refine S_nilk [] (by simp only [proj, lk, reduceIte, Nat.reduceEqDiff]; rfl) ?_
              refine hK2 _ _ ?_; clear hK2
              refine V_sr T.mix (by kernel_rfl) (fun K27 hK27 => ?_)
              refine S_as rfl ?_
              refine S_nil (hK27 _ _ (V_keep [8] (by simp only [proj, lk, reduceIte, Nat.reduceEqDiff]; rfl) ?_)); clear hK27
              refine V_ret ?_
              refine hR _ _ (ret1 rfl rfl ?_)
              have hE := (hEh4.trans hEh5).trans hEh6
              have mb6 := mb3.ext hE (fun e => by omega)
              have sw6 := sw3.ext hE (fun z e y => by have h9 := fW z e; omega)
              have wl : LW h6 W M X (rse r) ⟨0, 0, 0⟩ ua ub ⟨#[]⟩ [] 0 reg 0 src got := ⟨sw6, w.q.reset, mb6, b6, l1, l2, w.rs, Nat.zero_le _, w.hg⟩
              exact ⟨rfl, wl.e, ((hX1.trans (hE2.mono fun _ e => .inl e)).trans (hE3.mono fun _ e => .inr (.inl e))).trans (hE.mono fun _ e => .inr (.inr e))⟩
            · skip
              refine V_sr T.mix (by kernel_rfl) (fun K28 hK28 => ?_)
              refine S_bin rfl rfl rfl ?_
              refine S_as rfl ?_
              refine S_nil (hK28 _ _ (V_keep [0, 1, 2, 13, 108] (by simp only [proj, lk, reduceIte, Nat.reduceEqDiff]; rfl) ?_)); clear hK28
              refine V_condp rfl (fun c221 => ?_) (fun c221 => ?_)
              · skip
                refine V_sr T.mix (by kernel_rfl) (fun K29 hK29 => ?_)
                refine S_mv rfl ?_
                refine S_mv rfl ?_
                refine S_call T.hb21 rfl ?_
                refine FC.mono (samestate_spec h1 W M X r s ua ub raw out st reg cur src got w1) ?_
                rintro v' h' ⟨rfl, rfl⟩
                refine S_as rfl ?_
                refine S_nil (hK29 _ _ (V_keep [8] (by simp only [proj, lk, reduceIte, Nat.reduceEqDiff]; rfl) ?_)); clear hK29
                refine V_ret ?_
                refine hR _ _ (ret1 rfl rfl ?_)
                exact ⟨rfl, w1.e, hX1⟩
              · skip
                refine V_sr T.mix (by kernel_rfl) (fun K30 hK30 => ?_)
                refine S_bin rfl rfl rfl ?_
                refine S_as rfl ?_
                refine S_nil (hK30 _ _ (V_keep [0, 1, 2, 13, 113] (by simp only [proj, lk, reduceIte, Nat.reduceEqDiff]; rfl) ?_)); clear hK30
                refine V_condp rfl (fun c223 => ?_) (fun c223 => ?_)
                · skip
                  refine V_sr T.mix (by kernel_rfl) (fun K31 hK31 => ?_)
                  refine S_mv rfl ?_
                  refine S_mv rfl ?_
                  refine S_call T.hb22 rfl ?_
                  refine FC.mono (sametotal_spec h1 W M X r s ua ub raw out st reg cur src got w1) ?_
                  rintro v' h' ⟨rfl, rfl⟩
                  refine S_as rfl ?_
                  refine S_nil (hK31 _ _ (V_keep [8] (by simp only [proj, lk, reduceIte, Nat.reduceEqDiff]; rfl) ?_)); clear hK31
                  refine V_ret ?_
                  refine hR _ _ (ret1 rfl rfl ?_)
                  exact ⟨rfl, w1.e, hX1⟩
                · skip
                  refine V_sr T.mix (by kernel_rfl) (fun K32 hK32 => ?_)
                  refine S_bin rfl rfl rfl ?_
                  refine S_as rfl ?_
                  refine S_nil (hK32 _ _ (V_keep [0, 1, 2, 13, 118] (by simp only [proj, lk, reduceIte, Nat.reduceEqDiff]; rfl) ?_)); clear hK32
                  refine V_condp rfl (fun c225 => ?_) (fun c225 => ?_)
                  · skip
                    refine V_sr T.mix (by kernel_rfl) (fun K33 hK33 => ?_)
                    refine S_mv rfl ?_
                    refine S_mv rfl ?_
                    refine S_call T.hb23 rfl ?_
                    refine FC.mono (samefed_spec h1 W M X r s ua ub raw out st reg cur src got w1) ?_
                    rintro v' h' ⟨rfl, rfl⟩
                    refine S_as rfl ?_
                    refine S_nil (hK33 _ _ (V_keep [8] (by simp only [proj, lk, reduceIte, Nat.reduceEqDiff]; rfl) ?_)); clear hK33
                    refine V_ret ?_
                    refine hR _ _ (ret1 rfl rfl ?_)
                    exact ⟨rfl, w1.e, hX1⟩
                  · skip
                    refine V_sr T.mix (by kernel_rfl) (fun K34 hK34 => ?_)
                    refine S_bin rfl rfl rfl ?_
                    refine S_as rfl ?_
                    refine S_nil (hK34 _ _ (V_keep [0, 2, 13, 123] (by simp only [proj, lk, reduceIte, Nat.reduceEqDiff]; rfl) ?_)); clear hK34
                    refine V_condp rfl (fun c227 => ?_) (fun c227 => ?_)
                    · skip
                      refine V_sr T.mix (by kernel_rfl) (fun K35 hK35 => ?_)
                      refine S_mv rfl ?_
                      refine S_call T.hb24 rfl ?_
                      refine FC.mono (scheck_spec h1 W r s ua ub w1.sw raw out st w1.q) ?_
                      rintro v' h' ⟨rfl, rfl⟩
                      refine S_as rfl ?_
                      refine S_nil (hK35 _ _ (V_keep [8] (by simp only [proj, lk, reduceIte, Nat.reduceEqDiff]; rfl) ?_)); clear hK35
                      refine V_ret ?_
                      refine hR _ _ (ret1 rfl rfl ?_)
                      exact ⟨rfl, w1.e, hX1⟩
                    · skip
                      refine V_sr T.mix (by kernel_rfl) (fun K36 hK36 => ?_)
                      refine S_bin rfl rfl rfl ?_
                      refine S_as rfl ?_
                      refine S_nil (hK36 _ _ (V_keep [2, 127] (by simp only [proj, lk, reduceIte, Nat.reduceEqDiff]; rfl) ?_)); clear hK36
                      refine V_condp rfl (fun c229 => ?_) (fun c229 => ?_)
                      · skip
                        refine V_sr T.mix (by kernel_rfl) (fun K37 hK37 => ?_)
                        refine S_mv rfl ?_
                        refine S_nc rfl ?_
                        first | refine S_fa0 T.f38_0 rfl ?_ | refine S_fa T.f38_0 rfl ?_
                        refine S_st T.sz9 rfl rfl rfl rfl (by simp (disch := omega) only [vok]) ?_
                        generalize hh : putH _ _ _ = h2
                        have b2 : B h2 X (dk ⟨#[]⟩ cur raw (mkS out) src got) 38 := by rw [← hh]; exact (w1.db.put 0 _).cong (by simp [dk])
                        have hEh2 : Ext (fun z => z = X) h1 h2 := by rw [← hh]; exact Ext.put _ _ rfl
                        clear hh
                        try clear v0 v1 v2 v3 v4 v5 vok
                        obtain ⟨v0, v1, v2, v3, v4, v5, vok⟩ := dkq (b2)
                        refine S_nil (hK37 _ _ (V_keep [2] (by simp only [proj, lk, reduceIte, Nat.reduceEqDiff]; rfl) ?_)); clear hK37
                        refine V_sr T.mix (by kernel_rfl) (fun K38 hK38 => ?_)
                        refine S_mv rfl ?_
                        refine S_nc rfl ?_
                        first | refine S_fa0 T.f38_1 rfl ?_ | refine S_fa T.f38_1 rfl ?_
                        refine S_st T.sz3 rfl rfl rfl rfl (by simp (disch := omega) only [vok]) ?_
                        generalize hh : putH _ _ _ = h3
                        have b3 : B h3 X (dk ⟨#[]⟩ 0 raw (mkS out) src got) 38 := by rw [← hh]; exact (b2.put 1 _).cong (by simp [dk])
                        have hEh3 : Ext (fun z => z = X) h2 h3 := by rw [← hh]; exact Ext.put _ _ rfl
                        clear hh
                        try clear v0 v1 v2 v3 v4 v5 vok
                        obtain ⟨v0, v1, v2, v3, v4, v5, vok⟩ := dkq (b3)
                        refine S_nil (hK38 _ _ (V_keep [2] (by simp only [proj, lk, reduceIte, Nat.reduceEqDiff]; rfl) ?_)); clear hK38
                        refine V_reg T.mix (by kernel_rfl) ?_
                        refine S_mv rfl ?_
                        refine S_nc rfl ?_
                        first | refine S_fa0 T.f38_5 rfl ?_ | refine S_fa T.f38_5 rfl ?_
                        refine S_st T.sz4 rfl rfl rfl rfl (by simp (disch := omega) only [vok]) ?_
                        generalize hh : putH _ _ _ = h4
                        have b4 : B h4 X (dk ⟨#[]⟩ 0 raw (mkS out) src false) 38 := by rw [← hh]; exact (b3.put 5 _).cong (by simp [dk])
                        have hEh4 : Ext (fun z => z = X) h3 h4 := by rw [← hh]; exact Ext.put _ _ rfl
                        clear hh
                        try clear v0 v1 v2 v3 v4 v5 vok
                        obtain ⟨v0, v1, v2, v3, v4, v5, vok⟩ := dkq (b4)
                        refine S_nilk [] (by simp only [proj, lk, reduceIte, Nat.reduceEqDiff]; rfl) ?_
                        refine hK2 _ _ ?_; clear hK2
                        refine V_sr T.mix (by kernel_rfl) (fun K39 hK39 => ?_)
                        refine S_as rfl ?_
                        refine S_nil (hK39 _ _ (V_keep [8] (by simp only [proj, lk, reduceIte, Nat.reduceEqDiff]; rfl) ?_)); clear hK39
                        refine V_ret ?_
                        refine hR _ _ (ret1 rfl rfl ?_)
                        have hE := (hEh2.trans hEh3).trans hEh4
                        exact ⟨rfl, (w1.desk b4 hE (Nat.zero_le _) (Nat.zero_le _) (fun z => by cases z)).e, hX1.trans (hE.mono fun _ e => .inr (.inr e))⟩
                      · skip
                        refine V_skipk [] (by simp only [proj, lk, reduceIte, Nat.reduceEqDiff]; rfl) ?_
                        refine hK2 _ _ ?_; clear hK2
                        refine V_sr T.mix (by kernel_rfl) (fun K40 hK40 => ?_)
                        refine S_as rfl ?_
                        refine S_nil (hK40 _ _ (V_keep [8] (by simp only [proj, lk, reduceIte, Nat.reduceEqDiff]; rfl) ?_)); clear hK40
                        refine V_ret ?_
                        refine hR _ _ (ret1 rfl rfl ?_)
                        exact ⟨rfl, w1.e, hX1⟩
set_option maxHeartbeats 800000 in
theorem ground_spec (h : Heap) :
    FC Tryz.prog 7 (#[] : Array Value) h fun v h' => ∃ X tb XA XB, v = .agg #[.pointer (some ⟨X, 0, none⟩), .pointer (some ⟨XA, 0, none⟩), .pointer (some ⟨XB, 0, none⟩)] ∧ BitW.RT h' X tb ⟨0, 0, 0⟩ ∧ CB h' XA HC.z ∧ CB h' XB HC.z ∧ Ext (fun _ => False) h h' ∧ h.size ≤ X ∧ h.size ≤ tb ∧ X < XA ∧ tb < XA ∧ XA + 10 < XB ∧ XB + 10 < h'.size := by
  refine FC_of [] Tryz.func7 rfl Tryz.ntmps7 (by simp) rfl (fun R hR => ?_)
  refine V_sr T.mix (by kernel_rfl) (fun K1 hK1 => ?_)
  refine S_allocA T.z30 ?_
  generalize hh : Array.push h _ = h1
  have b1 : B h1 h.size #[.pointer none, .pointer none, .pointer none] 30 := by rw [← hh]; exact B.new _ _ _
  have hEh1 : Ext (fun _ => False) h h1 := by rw [← hh]; exact Ext.push _ _ _
  clear hh
  have hz1 := hEh1.1
  have hbl := b1.lt
  refine S_nil (hK1 _ _ (V_keep [0] (by simp only [proj, lk, reduceIte, Nat.reduceEqDiff]; rfl) ?_)); clear hK1
  refine V_sr T.mix (by kernel_rfl) (fun K2 hK2 => ?_)
  refine S_call T.hb14 rfl ?_
  refine FC.mono (BitW.new_spec h1) ?_
  rintro v' h2 ⟨X, tb, rfl, rt2, hE2, hX1, hX2⟩
  have hz2 := rt2.t.lt
  have hz2b := rt2.bb.lt
  refine S_as rfl ?_
  refine S_nil (hK2 _ _ (V_keep [0, 1] (by simp only [proj, lk, reduceIte, Nat.reduceEqDiff]; rfl) ?_)); clear hK2
  refine V_sr T.mix (by kernel_rfl) (fun K3 hK3 => ?_)
  refine S_call T.hb15 rfl ?_
  refine FC.mono (hnew_spec h2) ?_
  rintro v' h3 ⟨rfl, ca3, hE3⟩
  have hz3 := ca3.lt
  refine S_as rfl ?_
  refine S_nil (hK3 _ _ (V_keep [0, 1, 2] (by simp only [proj, lk, reduceIte, Nat.reduceEqDiff]; rfl) ?_)); clear hK3
  refine V_sr T.mix (by kernel_rfl) (fun K4 hK4 => ?_)
  refine S_call T.hb15 rfl ?_
  refine FC.mono (hnew_spec h3) ?_
  rintro v' h4 ⟨rfl, cb4, hE4⟩
  have hz4 := cb4.lt
  have hE24 := hE3.trans hE4
  have b4 := (b1.ext hE2 (fun f => f)).ext hE24 (fun f => f)
  have kok : ∀ j, j < 3 → okPut h4 ⟨h.size, j, none⟩ = true := fun j hj => b4.ok (by simpa using hj)
  refine S_as rfl ?_
  refine S_nil (hK4 _ _ (V_keep [0, 1, 2, 3] (by simp only [proj, lk, reduceIte, Nat.reduceEqDiff]; rfl) ?_)); clear hK4
  refine V_sr T.mix (by kernel_rfl) (fun K5 hK5 => ?_)
  refine S_mv rfl ?_
  refine S_mv rfl ?_
  refine S_mv rfl ?_
  refine S_bld rfl (T.bld30_0_1_2 _ _ _) ?_
  refine S_stl T.sz30 rfl rfl rfl rfl (fun j hj => by simp (disch := omega) only [kok]) ?_
  generalize hh : putsH _ _ _ _ = h6
  have b6 : B h6 (h.size) #[.pointer (some ⟨X, 0, none⟩), .pointer (some ⟨h2.size, 0, none⟩), .pointer (some ⟨h3.size, 0, none⟩)] 30 := by rw [← hh]; exact puts_all (b4) (cs' := #[.pointer (some ⟨X, 0, none⟩), .pointer (some ⟨h2.size, 0, none⟩), .pointer (some ⟨h3.size, 0, none⟩)]) rfl
  have hEh6 : Ext (fun k => k = h.size) h4 h6 := by rw [← hh]; exact Ext.puts (S := fun k => k = h.size) rfl _ _ _
  have hz6 : h6.size = h4.size := by rw [← hh]; exact size_puts _ _ _
  clear hh
  refine S_nil (hK5 _ _ (V_keep [0] (by simp only [proj, lk, reduceIte, Nat.reduceEqDiff]; rfl) ?_)); clear hK5
  refine V_ret ?_
  refine hR _ _ (retc1 rfl rfl T.ag30 b6 (by rfl) ?_)
  exact ⟨X, tb, h2.size, h3.size, rfl, (rt2.ext hE24 (fun f => f) (fun f => f)).ext hEh6 (by omega) (by omega), (ca3.new hE4).ext hEh6 (fun b e y => by rw [ct_def] at e; omega), cb4.ext hEh6 (fun b e y => by rw [ct_def] at e; omega), ((hEh1.trans hE2).trans hE24).step hEh6 (fun b hb e => by omega), by omega, by omega, by omega, by omega, by omega, by omega⟩
set_option maxHeartbeats 6400000 in
theorem walk_spec (h : Heap) (sa : Option Addr) (n cap : Nat) (q : Bool) (hs : Scr h.size h sa n) (hn : n ≤ 9223372036854775807) :
    FC Tryz.prog 6 (#[.slice sa n cap, .bool (decide (q = true))] : Array Value) h fun v h' => (∃ j : Int, v = .tuple #[.int .i64 (-1), .int .i64 j]) ∧ Ext (fun b => h.size ≤ b) h h' := by
  refine FC_of [(0, .slice sa n cap), (1, .bool (decide (q = true)))] Tryz.func6 rfl Tryz.ntmps6 (by simp) rfl (fun R hR => ?_)
  refine V_sr T.mix (by kernel_rfl) (fun K1 hK1 => ?_)
  refine S_as rfl ?_
  refine S_as rfl ?_
  refine S_nil (hK1 _ _ (V_keep [0, 1] (by simp only [proj, lk, reduceIte, Nat.reduceEqDiff]; rfl) ?_)); clear hK1
  refine V_sr T.mix (by kernel_rfl) (fun K2 hK2 => ?_)
  refine S_call T.hb7 rfl ?_
  refine FC.mono (ground_spec h) ?_
  rintro v' h1 ⟨X, tb, XA, XB, rfl, rt1, ca1, cb1, hE1, o1, o2, o3, o4, o5, o6⟩
  refine S_allocA T.z30 ?_
  generalize hh : Array.push h1 _ = h2
  have b2 : B h2 h1.size #[.pointer none, .pointer none, .pointer none] 30 := by rw [← hh]; exact B.new _ _ _
  have hEh2 : Ext (fun _ => False) h1 h2 := by rw [← hh]; exact Ext.push _ _ _
  clear hh
  have kok : ∀ j, j < 3 → okPut h2 ⟨h1.size, j, none⟩ = true := fun j hj => b2.ok (by simpa using hj)
  refine S_stl T.sz30 rfl rfl rfl rfl (fun j hj => by simp (disch := omega) only [kok]) ?_
  generalize hh : putsH _ _ _ _ = h3
  have b3 : B h3 (h1.size) #[.pointer (some ⟨X, 0, none⟩), .pointer (some ⟨XA, 0, none⟩), .pointer (some ⟨XB, 0, none⟩)] 30 := by rw [← hh]; exact puts_all (b2) (cs' := #[.pointer (some ⟨X, 0, none⟩), .pointer (some ⟨XA, 0, none⟩), .pointer (some ⟨XB, 0, none⟩)]) rfl
  have hEh3 : Ext (fun k => k = h1.size) h2 h3 := by rw [← hh]; exact Ext.puts (S := fun k => k = h1.size) rfl _ _ _
  clear hh
  have hE13 : Ext (fun _ => False) h1 h3 := hEh2.step hEh3 (fun b hb e => by omega)
  have hz13 := hE13.1
  have hXl := rt1.t.lt
  have htl := rt1.bb.lt
  have hAl := ca1.lt
  have hBl := cb1.lt
  have hb1l := b3.lt
  obtain ⟨W, hW⟩ : ∃ W : SA, W = ⟨X, tb, XA, XB, h3.size⟩ := ⟨_, rfl⟩
  have eT : X = W.T := by rw [hW]
  have eb : tb = W.tb := by rw [hW]
  have eA : XA = W.XA := by rw [hW]
  have eB : XB = W.XB := by rw [hW]
  have eD : W.D = h3.size := by rw [hW]
  clear hW
  subst eT eb eA eB
  have k0 : cellH h3 ⟨h1.size, 0, none⟩ = some (.pointer (some ⟨W.T, 0, none⟩)) := b3.cell 0
  have k1 : cellH h3 ⟨h1.size, 1, none⟩ = some (.pointer (some ⟨W.XA, 0, none⟩)) := b3.cell 1
  have k2 : cellH h3 ⟨h1.size, 2, none⟩ = some (.pointer (some ⟨W.XB, 0, none⟩)) := b3.cell 2
  refine S_nil (hK2 _ _ (V_keep [0, 1, 6] (by simp only [proj, lk, reduceIte, Nat.reduceEqDiff]; rfl) ?_)); clear hK2
  refine V_sr T.mix (by kernel_rfl) (fun K3 hK3 => ?_)
  first | refine S_fa0 T.f30_0 rfl ?_ | refine S_fa T.f30_0 rfl ?_
  refine S_ldK T.ag27 rfl (fun K' hK' => ?_)
  simp (disch := omega) only [k0, k1, k2, oP_some, Nat.add_zero]
  refine hK' _ ?_; clear hK' K'
  first | refine S_fa0 T.f30_1 rfl ?_ | refine S_fa T.f30_1 rfl ?_
  refine S_ldK T.ag28 rfl (fun K' hK' => ?_)
  simp (disch := omega) only [k0, k1, k2, oP_some, Nat.add_zero]
  refine hK' _ ?_; clear hK' K'
  first | refine S_fa0 T.f30_2 rfl ?_ | refine S_fa T.f30_2 rfl ?_
  refine S_ldK T.ag28 rfl (fun K' hK' => ?_)
  simp (disch := omega) only [k0, k1, k2, oP_some, Nat.add_zero]
  refine hK' _ ?_; clear hK' K'
  refine S_call T.hb8 rfl ?_
  have sp : Ss W := ⟨⟨o3, o4⟩, o5, by omega⟩
  refine FC.mono (snew_spec h3 W eD sp ⟨0, 0, 0⟩ (rt1.ext hE13 (fun f => f) (fun f => f)) HC.z HC.z (ca1.new hE13) (cb1.new hE13)) ?_
  rintro v' h4 ⟨rfl, sw4, hE4⟩
  have bb4 := b3.ext hE4 (fun e => by omega)
  have hE04 : Ext (fun b => h.size ≤ b) h h4 := ((hE1.trans hE13).mono fun _ f => f.elim).trans (hE4.mono fun z e => by omega)
  have nbW : ¬ WTs W h1.size := fun e => by
    rcases e with e | e | e | e | e
    · omega
    · omega
    · rw [ct_def] at e; omega
    · rw [ct_def] at e; omega
    · omega
  have hW0 : ∀ z, WTs W z → h.size ≤ z := fun z e => by
    have h8 := hE1.1
    rcases e with e | e | e | e | e
    · omega
    · omega
    · rw [ct_def] at e; omega
    · rw [ct_def] at e; omega
    · omega
  refine S_as rfl ?_
  refine S_nil (hK3 _ _ (V_keep [0, 1, 6, 7] (by simp only [proj, lk, reduceIte, Nat.reduceEqDiff]; rfl) ?_)); clear hK3
  refine V_sr T.mix (by kernel_rfl) (fun K4 hK4 => ?_)
  refine S_call T.hb9 rfl ?_
  refine FC.mono (mnew_spec h4) ?_
  rintro v' h5 ⟨rfl, mb5, hE5⟩
  have sw5 := sw4.new hE5
  have bb5 := bb4.ext hE5 (fun f => f)
  have hE05 : Ext (fun b => h.size ≤ b) h h5 := hE04.trans (hE5.mono fun _ f => f.elim)
  refine S_as rfl ?_
  refine S_nil (hK4 _ _ (V_keep [0, 1, 6, 7, 8] (by simp only [proj, lk, reduceIte, Nat.reduceEqDiff]; rfl) ?_)); clear hK4
  refine V_sr T.mix (by kernel_rfl) (fun K5 hK5 => ?_)
  refine S_bld rfl (T.bld38) ?_
  refine S_boxA rfl ?_
  generalize hh : Array.push h5 _ = h6
  have bd6 : B h6 h5.size (dk ⟨#[]⟩ 0 ⟨#[]⟩ ⟨#[]⟩ ⟨#[]⟩ false) 38 := by rw [← hh]; exact B.new _ _ _
  have hEh6 : Ext (fun _ => False) h5 h6 := by rw [← hh]; exact Ext.push _ _ _
  clear hh
  have bb6 := bb5.ext hEh6 (fun f => f)
  have hm6 : h4.size < h5.size := mb5.lt
  have w6 : LW h6 W h4.size h5.size r00 ⟨0, 0, 0⟩ HC.z HC.z ⟨#[]⟩ [] 0 ⟨#[]⟩ 0 ⟨#[]⟩ false := ⟨sw5.new hEh6, zero_st rfl rfl rfl rfl rfl rfl rfl rfl rfl (fun _ _ => Nat.zero_le _) (fun z => by cases z), mb5.ext hEh6 (fun f => f), bd6, sw4.f.lt, hm6, Nat.zero_le _, Nat.zero_le _, fun z => by cases z⟩
  have hEs : Ext (fun b => h.size ≤ b) h h6 := hE05.trans (hEh6.mono fun _ f => f.elim)
  have hlo : ∀ z, LT W h4.size h5.size z → h.size ≤ z := fun z e => by rcases e with e | e | e; (exact hW0 z e); (have h9 := hE05.1; have h8 := hE04.1; omega); (have h9 := hE05.1; omega)
  have hnb : ¬ LT W h4.size h5.size h1.size := fun e => by rcases e with e | e | e; (exact nbW e); (have h9 := bb4.lt; omega); (have h9 := bb4.lt; omega)
  obtain ⟨r7, s7, ua7, ub7, raw7, out7, st7, reg7, cur7, src7, got7, w7⟩ : LWE h6 W h4.size h5.size := w6.e
  refine S_as rfl ?_
  refine S_nil (hK5 _ _ (V_keep [0, 1, 6, 7, 8, 9] (by simp only [proj, lk, reduceIte, Nat.reduceEqDiff]; rfl) ?_)); clear hK5
  refine V_seq (fun K6 hK6 => ?_)
  refine V_sr T.mix (by kernel_rfl) (fun K7 hK7 => ?_)
  refine S_ldn T.ag30 rfl (bb6.all rfl) ?_
  refine S_mv rfl ?_
  refine S_mv rfl ?_
  refine S_call T.hb10 rfl ?_
  refine FC.mono (handed_spec h6 W h4.size h5.size r7 s7 ua7 ub7 raw7 out7 st7 reg7 cur7 src7 got7 w7) ?_
  rintro v' g6 ⟨rfl, hEg6⟩
  have wg := w7.new hEg6
  have bbg := bb6.ext hEg6 (fun f => f)
  have hEg : Ext (fun b => h.size ≤ b) h g6 := hEs.trans (hEg6.mono fun _ f => f.elim)
  refine S_notb rfl ?_
  refine S_nil (hK7 _ _ (V_keep [0, 1, 6, 7, 8, 9, 26] (by simp only [proj, lk, reduceIte, Nat.reduceEqDiff]; rfl) ?_)); clear hK7
  refine V_condb rfl (fun c245 => ?_) (fun c245 => ?_)
  · skip
    cases c245
  · skip
    refine V_skipk [0, 1, 6, 7, 8, 9] (by simp only [proj, lk, reduceIte, Nat.reduceEqDiff]; rfl) ?_
    refine hK6 _ _ ?_; clear hK6
    refine V_seqJ (fun l h' => (True) ∧ l = [(0, .slice sa n cap), (1, .bool (decide (q = true))), (6, .pointer (some ⟨h1.size, 0, none⟩)), (7, .pointer (some ⟨W.D, 0, none⟩)), (8, .pointer (some ⟨h4.size, 0, none⟩)), (9, .pointer (some ⟨h5.size, 0, none⟩))] ∧ g6 = h') ?_ ?_
    · skip
      refine V_sr T.mix (by kernel_rfl) (fun K9 hK9 => ?_)
      refine S_mv rfl ?_
      refine S_not rfl ?_
      refine S_nil (hK9 _ _ (V_keep [0, 1, 6, 7, 8, 9, 28] (by simp only [proj, lk, reduceIte, Nat.reduceEqDiff]; rfl) ?_)); clear hK9
      refine V_condp rfl (fun c248 => ?_) (fun c248 => ?_)
      · skip
        refine V_sr T.mix (by kernel_rfl) (fun K10 hK10 => ?_)
        refine S_mv rfl ?_
        refine S_mv rfl ?_
        refine S_call T.hb11 rfl ?_
        refine FC.mono (alike_spec g6 W h4.size h5.size r7 s7 ua7 ub7 raw7 out7 st7 reg7 cur7 src7 got7 wg) ?_
        rintro v' h' ⟨rfl, rfl⟩
        refine S_notb rfl ?_
        refine S_nil (hK10 _ _ (V_keep [0, 1, 6, 7, 8, 9, 32] (by simp only [proj, lk, reduceIte, Nat.reduceEqDiff]; rfl) ?_)); clear hK10
        refine V_condb rfl (fun c249 => ?_) (fun c249 => ?_)
        · skip
          cases c249
        · skip
          refine V_skipk [0, 1, 6, 7, 8, 9] (by simp only [proj, lk, reduceIte, Nat.reduceEqDiff]; rfl) ?_
          exact ⟨trivial, rfl, rfl⟩
      · skip
        refine V_skipk [0, 1, 6, 7, 8, 9] (by simp only [proj, lk, reduceIte, Nat.reduceEqDiff]; rfl) ?_
        exact ⟨trivial, rfl, rfl⟩
    rintro l h' ⟨htt, rfl, rfl⟩
    refine V_seq (fun K11 hK11 => ?_)
    refine V_sr T.mix (by kernel_rfl) (fun K12 hK12 => ?_)
    refine S_as rfl ?_
    refine S_nil (hK12 _ _ (V_keep [0, 1, 6, 7, 8, 9, 10] (by simp only [proj, lk, reduceIte, Nat.reduceEqDiff]; rfl) ?_)); clear hK12
    refine V_block ?_
    refine V_loop (fun m l h' => ∃ (i : Nat) (hk : Heap), (i ≤ n) ∧ (i ≤ 4398046511104) ∧ (LWE hk W h4.size h5.size) ∧ (B hk h1.size #[.pointer (some ⟨W.T, 0, none⟩), .pointer (some ⟨W.XA, 0, none⟩), .pointer (some ⟨W.XB, 0, none⟩)] 30) ∧ (Ext (fun b => h.size ≤ b) h hk) ∧ m = n - i ∧ l = [(0, .slice sa n cap), (1, .bool (decide (q = true))), (6, .pointer (some ⟨h1.size, 0, none⟩)), (7, .pointer (some ⟨W.D, 0, none⟩)), (8, .pointer (some ⟨h4.size, 0, none⟩)), (9, .pointer (some ⟨h5.size, 0, none⟩)), (10, .int .i64 (i : Int))] ∧ hk = h') _ ⟨0, g6, by omega, by omega, wg.e, bbg, hEg, rfl, rfl, rfl⟩ ?_
    rintro m l h' ⟨i, hk, hi, hi2, lwk, bbk, hEk, rfl, rfl, rfl⟩ K13 hK13
    refine V_seq (fun K14 hK14 => ?_)
    refine V_sr T.mix (by kernel_rfl) (fun K15 hK15 => ?_)
    refine S_cut (K' := fun l h' => ∃ b : Bool, (b = true ↔ (i < n ∧ i < 4398046511104)) ∧ l = [(0, .slice sa n cap), (1, .bool (decide (q = true))), (6, .pointer (some ⟨h1.size, 0, none⟩)), (7, .pointer (some ⟨W.D, 0, none⟩)), (8, .pointer (some ⟨h4.size, 0, none⟩)), (9, .pointer (some ⟨h5.size, 0, none⟩)), (10, .int .i64 (i : Int)), (40, .bool b)] ∧ hk = h') ?_ ?_
    · skip
      refine S_mv rfl ?_
      refine S_mv rfl ?_
      refine S_lenl T.el22 rfl ?_
      refine S_bin rfl rfl rfl ?_
      refine S_mv rfl ?_
      refine S_dec (fun g253 => ?_) (fun g253 => ?_)
      · skip
        refine S_gt rfl ?_
        refine S_mv rfl ?_
        refine S_gt rfl ?_
        refine S_bin rfl rfl rfl ?_
        refine S_pt rfl rfl ?_
        exact S_nilk [0, 1, 6, 7, 8, 9, 10, 40] (by simp only [proj, lk, reduceIte, Nat.reduceEqDiff]; rfl) ⟨_, (by first | (simp [*]; done) | (simp; omega)), rfl, rfl⟩
      · skip
        refine S_gf rfl ?_
        refine S_gf rfl ?_
        refine S_pf rfl rfl ?_
        exact S_nilk [0, 1, 6, 7, 8, 9, 10, 40] (by simp only [proj, lk, reduceIte, Nat.reduceEqDiff]; rfl) ⟨_, (by first | (simp [*]; done) | (simp; omega)), rfl, rfl⟩
    rintro l h' ⟨b, hb253, rfl, rfl⟩
    refine hK15 _ _ ?_; clear hK15
    refine V_condb rfl (fun c253 => ?_) (fun c253 => ?_)
    · replace c253 := hb253.1 c253
      refine V_skipk [0, 1, 6, 7, 8, 9, 10] (by simp only [proj, lk, reduceIte, Nat.reduceEqDiff]; rfl) ?_
      refine hK14 _ _ ?_; clear hK14
      refine V_seq (fun K17 hK17 => ?_)
      refine V_block ?_
      refine V_seq (fun K18 hK18 => ?_)
      refine V_sr T.mix (by kernel_rfl) (fun K19 hK19 => ?_)
      refine S_mv rfl ?_
      refine S_mv rfl ?_
      refine S_mv rfl ?_
      refine S_mv rfl ?_
      refine S_mv rfl ?_
      obtain ⟨sb, so, rfl, hlt, k, oa, ob, oc, os, ot, hc⟩ := (hs.ext (Nat.le_refl _) hEk) i (by exact c253.1)
      refine S_ix T.el22 rfl rfl (by omega) (by omega) ?_
      refine S_ldn T.ag43 rfl (by simpa using hc) ?_
      refine S_call T.hb12 rfl ?_
      obtain ⟨ra_, sa_, uaa, uba, rawa, outa, sta, rega, cura, srca, gota, wa⟩ := lwk
      refine FC.mono (play_spec hk W h4.size h5.size ra_ sa_ uaa uba rawa outa sta rega cura srca gota wa k oa ob oc os ot) ?_
      rintro v' h8 ⟨rfl, ⟨r7, s7, ua7, ub7, raw7, out7, st7, reg7, cur7, src7, got7, w8⟩, hE8⟩
      have hEk8 : Ext (fun b => h.size ≤ b) h h8 := hEk.trans (hE8.mono fun z e => hlo z e)
      have bb8 := bbk.ext hE8 hnb
      refine S_notb rfl ?_
      refine S_nil (hK19 _ _ (V_keep [0, 1, 6, 7, 8, 9, 10, 51] (by simp only [proj, lk, reduceIte, Nat.reduceEqDiff]; rfl) ?_)); clear hK19
      refine V_condb rfl (fun c254 => ?_) (fun c254 => ?_)
      · skip
        cases c254
      · skip
        refine V_skipk [0, 1, 6, 7, 8, 9, 10] (by simp only [proj, lk, reduceIte, Nat.reduceEqDiff]; rfl) ?_
        refine hK18 _ _ ?_; clear hK18
        refine V_seq (fun K20 hK20 => ?_)
        refine V_sr T.mix (by kernel_rfl) (fun K21 hK21 => ?_)
        refine S_mv rfl ?_
        refine S_mv rfl ?_
        refine S_call T.hb13 rfl ?_
        refine FC.mono (ghosts_spec h8 W h4.size h5.size r7 s7 ua7 ub7 raw7 out7 st7 reg7 cur7 src7 got7 w8) ?_
        rintro v' h' ⟨rfl, rfl⟩
        refine S_notb rfl ?_
        refine S_nil (hK21 _ _ (V_keep [0, 1, 6, 7, 8, 9, 10, 57] (by simp only [proj, lk, reduceIte, Nat.reduceEqDiff]; rfl) ?_)); clear hK21
        refine V_condb rfl (fun c257 => ?_) (fun c257 => ?_)
        · skip
          cases c257
        · skip
          refine V_skipk [0, 1, 6, 7, 8, 9, 10] (by simp only [proj, lk, reduceIte, Nat.reduceEqDiff]; rfl) ?_
          refine hK20 _ _ ?_; clear hK20
          refine V_seq (fun K22 hK22 => ?_)
          refine V_sr T.mix (by kernel_rfl) (fun K23 hK23 => ?_)
          refine S_ldn T.ag30 rfl (bb8.all rfl) ?_
          refine S_mv rfl ?_
          refine S_mv rfl ?_
          refine S_call T.hb10 rfl ?_
          refine FC.mono (handed_spec h8 W h4.size h5.size r7 s7 ua7 ub7 raw7 out7 st7 reg7 cur7 src7 got7 w8) ?_
          rintro v' h9 ⟨rfl, hEh9⟩
          have w9 := w8.new hEh9
          have bb9 := bb8.ext hEh9 (fun f => f)
          have hEk9 : Ext (fun b => h.size ≤ b) h h9 := hEk8.trans (hEh9.mono fun _ f => f.elim)
          refine S_notb rfl ?_
          refine S_nil (hK23 _ _ (V_keep [0, 1, 6, 7, 8, 9, 10, 64] (by simp only [proj, lk, reduceIte, Nat.reduceEqDiff]; rfl) ?_)); clear hK23
          refine V_condb rfl (fun c260 => ?_) (fun c260 => ?_)
          · skip
            cases c260
          · skip
            refine V_skipk [0, 1, 6, 7, 8, 9, 10] (by simp only [proj, lk, reduceIte, Nat.reduceEqDiff]; rfl) ?_
            refine hK22 _ _ ?_; clear hK22
            refine V_sr T.mix (by kernel_rfl) (fun K24 hK24 => ?_)
            refine S_mv rfl ?_
            refine S_not rfl ?_
            refine S_nil (hK24 _ _ (V_keep [0, 1, 6, 7, 8, 9, 10, 68] (by simp only [proj, lk, reduceIte, Nat.reduceEqDiff]; rfl) ?_)); clear hK24
            refine V_condp rfl (fun c263 => ?_) (fun c263 => ?_)
            · skip
              refine V_sr T.mix (by kernel_rfl) (fun K25 hK25 => ?_)
              refine S_mv rfl ?_
              refine S_mv rfl ?_
              refine S_call T.hb11 rfl ?_
              refine FC.mono (alike_spec h9 W h4.size h5.size r7 s7 ua7 ub7 raw7 out7 st7 reg7 cur7 src7 got7 w9) ?_
              rintro v' h' ⟨rfl, rfl⟩
              refine S_notb rfl ?_
              refine S_nil (hK25 _ _ (V_keep [0, 1, 6, 7, 8, 9, 10, 72] (by simp only [proj, lk, reduceIte, Nat.reduceEqDiff]; rfl) ?_)); clear hK25
              refine V_condb rfl (fun c264 => ?_) (fun c264 => ?_)
              · skip
                cases c264
              · skip
                refine V_skipk [0, 1, 6, 7, 8, 9, 10] (by simp only [proj, lk, reduceIte, Nat.reduceEqDiff]; rfl) ?_
                refine hK17 _ _ ?_; clear hK17
                refine V_reg T.mix (by kernel_rfl) ?_
                refine S_mv rfl ?_
                first | refine S_add rfl rfl (by omega) (by omega) ?_ | refine S_bin rfl rfl rfl ?_
                refine S_as rfl ?_
                refine S_nilk [0, 1, 6, 7, 8, 9, 10] (by simp only [proj, lk, reduceIte, Nat.reduceEqDiff]; rfl) ?_
                exact hK13 _ _ ⟨_, by omega, i + 1, h9, by omega, by omega, w9.e, bb9, hEk9, rfl, rfl, rfl⟩
            · skip
              refine V_skipk [0, 1, 6, 7, 8, 9, 10] (by simp only [proj, lk, reduceIte, Nat.reduceEqDiff]; rfl) ?_
              refine hK17 _ _ ?_; clear hK17
              refine V_reg T.mix (by kernel_rfl) ?_
              refine S_mv rfl ?_
              first | refine S_add rfl rfl (by omega) (by omega) ?_ | refine S_bin rfl rfl rfl ?_
              refine S_as rfl ?_
              refine S_nilk [0, 1, 6, 7, 8, 9, 10] (by simp only [proj, lk, reduceIte, Nat.reduceEqDiff]; rfl) ?_
              exact hK13 _ _ ⟨_, by omega, i + 1, h9, by omega, by omega, w9.e, bb9, hEk9, rfl, rfl, rfl⟩
    · replace c253 : ¬ _ := fun hp => Bool.false_ne_true (c253.symm.trans (hb253.2 hp))
      refine V_exitk [0] rfl (by simp only [proj, lk, reduceIte, Nat.reduceEqDiff]; rfl) ?_
      refine hK11 _ _ ?_; clear hK11
      refine V_seq (fun K26 hK26 => ?_)
      refine V_sr T.mix (by kernel_rfl) (fun K27 hK27 => ?_)
      refine S_mv rfl ?_
      refine S_lenl T.el22 rfl ?_
      refine S_bin rfl rfl rfl ?_
      refine S_nil (hK27 _ _ (V_keep [0, 77] (by simp only [proj, lk, reduceIte, Nat.reduceEqDiff]; rfl) ?_)); clear hK27
      refine V_condp rfl (fun c269 => ?_) (fun c269 => ?_)
      · skip
        refine V_sr T.mix (by kernel_rfl) (fun K28 hK28 => ?_)
        refine S_mv rfl ?_
        refine S_lenl T.el22 rfl ?_
        refine S_as rfl ?_
        refine S_as rfl ?_
        refine S_nil (hK28 _ _ (V_keep [4, 5] (by simp only [proj, lk, reduceIte, Nat.reduceEqDiff]; rfl) ?_)); clear hK28
        refine V_ret ?_
        refine hR _ _ (ret2 rfl rfl rfl ?_)
        exact ⟨⟨_, rfl⟩, hEk⟩
      · skip
        refine V_skipk [] (by simp only [proj, lk, reduceIte, Nat.reduceEqDiff]; rfl) ?_
        refine hK26 _ _ ?_; clear hK26
        refine V_sr T.mix (by kernel_rfl) (fun K29 hK29 => ?_)
        refine S_as rfl ?_
        refine S_as rfl ?_
        refine S_nil (hK29 _ _ (V_keep [4, 5] (by simp only [proj, lk, reduceIte, Nat.reduceEqDiff]; rfl) ?_)); clear hK29
        refine V_ret ?_
        refine hR _ _ (ret2 rfl rfl rfl ?_)
        exact ⟨⟨_, rfl⟩, hEk⟩
set_option maxHeartbeats 400000 in
theorem rut_spec (h : Heap) (sa : Option Addr) (n cap : Nat) (hs : Scr h.size h sa n) (hn : n ≤ 9223372036854775807) :
    FC Tryz.prog 5 (#[.slice sa n cap] : Array Value) h fun v h' => v = .int .i64 (-1) ∧ Ext (fun b => h.size ≤ b) h h' := by
  refine FC_of [(0, .slice sa n cap)] Tryz.func5 rfl Tryz.ntmps5 (by simp) rfl (fun R hR => ?_)
  refine V_sr T.mix (by kernel_rfl) (fun K1 hK1 => ?_)
  refine S_as rfl ?_
  refine S_nil (hK1 _ _ (V_keep [0] (by simp only [proj, lk, reduceIte, Nat.reduceEqDiff]; rfl) ?_)); clear hK1
  refine V_sr T.mix (by kernel_rfl) (fun K2 hK2 => ?_)
  refine S_mv rfl ?_
  refine S_call T.hb6 rfl ?_
  refine FC.mono (walk_spec h sa n cap false hs hn) ?_
  rintro v h2 ⟨⟨j, rfl⟩, hE⟩
  refine S_mv rfl ?_
  refine S_ex rfl rfl ?_
  refine S_ex rfl rfl ?_
  refine S_as rfl ?_
  refine S_as rfl ?_
  refine S_nil (hK2 _ _ (V_keep [3] (by simp only [proj, lk, reduceIte, Nat.reduceEqDiff]; rfl) ?_)); clear hK2
  refine V_sr T.mix (by kernel_rfl) (fun K3 hK3 => ?_)
  refine S_mv rfl ?_
  refine S_as rfl ?_
  refine S_nil (hK3 _ _ (V_keep [2] (by simp only [proj, lk, reduceIte, Nat.reduceEqDiff]; rfl) ?_)); clear hK3
  refine V_ret ?_
  refine hR _ _ (ret1 rfl rfl ?_)
  exact ⟨rfl, hE⟩
set_option maxHeartbeats 400000 in
theorem ref_spec (h : Heap) (sa : Option Addr) (n cap : Nat) (hs : Scr h.size h sa n) (hn : n ≤ 9223372036854775807) :
    FC Tryz.prog 3 (#[.slice sa n cap] : Array Value) h fun v h' => v = .bool true ∧ Ext (fun b => h.size ≤ b) h h' := by
  refine FC_of [(0, .slice sa n cap)] Tryz.func3 rfl Tryz.ntmps3 (by simp) rfl (fun R hR => ?_)
  refine V_sr T.mix (by kernel_rfl) (fun K1 hK1 => ?_)
  refine S_as rfl ?_
  refine S_nil (hK1 _ _ (V_keep [0] (by simp only [proj, lk, reduceIte, Nat.reduceEqDiff]; rfl) ?_)); clear hK1
  refine V_sr T.mix (by kernel_rfl) (fun K2 hK2 => ?_)
  refine S_mv rfl ?_
  refine S_call T.hb5 rfl ?_
  refine FC.mono (rut_spec h sa n cap hs hn) ?_
  rintro v h2 ⟨rfl, hE⟩
  refine S_as rfl ?_
  refine S_nil (hK2 _ _ (V_keep [3] (by simp only [proj, lk, reduceIte, Nat.reduceEqDiff]; rfl) ?_)); clear hK2
  refine V_sr T.mix (by kernel_rfl) (fun K3 hK3 => ?_)
  refine S_mv rfl ?_
  refine S_bin rfl rfl rfl ?_
  refine S_as rfl ?_
  refine S_nil (hK3 _ _ (V_keep [2] (by simp only [proj, lk, reduceIte, Nat.reduceEqDiff]; rfl) ?_)); clear hK3
  refine V_ret ?_
  refine hR _ _ (ret1 rfl rfl ?_)
  exact ⟨rfl, hE⟩
set_option maxHeartbeats 400000 in
theorem refq_spec (h : Heap) (sa : Option Addr) (n cap : Nat) (hs : Scr h.size h sa n) (hn : n ≤ 9223372036854775807) :
    FC Tryz.prog 4 (#[.slice sa n cap] : Array Value) h fun v h' => v = .bool true ∧ Ext (fun b => h.size ≤ b) h h' := by
  refine FC_of [(0, .slice sa n cap)] Tryz.func4 rfl Tryz.ntmps4 (by simp) rfl (fun R hR => ?_)
  refine V_sr T.mix (by kernel_rfl) (fun K1 hK1 => ?_)
  refine S_as rfl ?_
  refine S_nil (hK1 _ _ (V_keep [0] (by simp only [proj, lk, reduceIte, Nat.reduceEqDiff]; rfl) ?_)); clear hK1
  refine V_sr T.mix (by kernel_rfl) (fun K2 hK2 => ?_)
  refine S_mv rfl ?_
  refine S_call T.hb6 rfl ?_
  refine FC.mono (walk_spec h sa n cap true hs hn) ?_
  rintro v h2 ⟨⟨j, rfl⟩, hE⟩
  refine S_mv rfl ?_
  refine S_ex rfl rfl ?_
  refine S_ex rfl rfl ?_
  refine S_as rfl ?_
  refine S_as rfl ?_
  refine S_nil (hK2 _ _ (V_keep [3] (by simp only [proj, lk, reduceIte, Nat.reduceEqDiff]; rfl) ?_)); clear hK2
  refine V_sr T.mix (by kernel_rfl) (fun K3 hK3 => ?_)
  refine S_mv rfl ?_
  refine S_bin rfl rfl rfl ?_
  refine S_as rfl ?_
  refine S_nil (hK3 _ _ (V_keep [2] (by simp only [proj, lk, reduceIte, Nat.reduceEqDiff]; rfl) ?_)); clear hK3
  refine V_ret ?_
  refine hR _ _ (ret1 rfl rfl ?_)
  exact ⟨rfl, hE⟩
end Go.Proofs.Qxb6500409aGreat
