import Derived.Test.Qxb6500406aGreatQb
set_option linter.unusedVariables false
set_option linter.unusedSimpArgs false
namespace Go.Proofs.Qxb6500406aGreat
open Go.Eng Go.Bits Go.Blk HufW

theorem cost_bi {u : ByteArray} {T : List Lz.Tok} {c0 : Nat → Nat} {dL : List Nat} (hc : c0 = cnT T) (hd : dL = dyL c0) : (if kdF u T = 2 then biF 2 u.size c0 dL else if kdF u T = 1 then biF 1 u.size c0 fixL else biF 0 u.size c0 fixL) = ctF u T := by
  have hk := kd_le u T
  have h0 : biF 0 u.size (cnT T) fixL = cS u := by unfold biF cS; rw [if_pos rfl]; omega
  have h1 : biF 1 u.size (cnT T) fixL = cF T := by unfold biF cF; rw [if_neg (by omega), if_neg (by omega), Nat.add_zero]
  have h2 : biF 2 u.size (cnT T) (dyL (cnT T)) = cD T := by unfold biF cD; rw [if_neg (by omega), if_pos rfl]
  rw [hd, hc, h0, h1, h2]
  unfold ctF
  by_cases q : kdF u T = 2
  · rw [if_pos q, if_neg (by omega), if_neg (by omega)]
  · rw [if_neg q]
    by_cases q1 : kdF u T = 1
    · rw [if_pos q1, if_neg (by omega), if_pos q1]
    · rw [if_neg q1, if_pos (by omega)]
theorem fresh_wt {h0 : Heap} {W : WA} {s : TS} {ua ub : HC} {st : Lz.MS} (w : WS h0 W s ua ub st) {b : Nat} (hb : h0.size ≤ b) : ¬ WT W b := fun e => by have := w.lt e; omega
set_option maxHeartbeats 6400000 in
theorem handed_spec (h : Heap) (W : WA) (s : TS) (ua ub : HC) (st : Lz.MS) (ws : WS h W s ua ub st) (u : ByteArray) (hu : u.size ≤ 256) (level : Int) (hl0 : 0 ≤ level) (hl2 : level ≤ 2) (hd : Hd u level s ua ub) (tx : ByteArray) (htx : tx = pkF u level) :
    FC Tryz.prog 25 (#[.agg #[.pointer (some ⟨W.T, 0, none⟩), .pointer (some ⟨W.XA, 0, none⟩), .pointer (some ⟨W.XB, 0, none⟩), .pointer (some ⟨W.Z.m, 0, none⟩)], .string u, .int .i64 level, .string tx] : Array Value) h fun rv h' => rv = .bool true ∧ (∃ s' va vb st', WS h' W s' va vb st') ∧ Ext (WT W) h h' := by
  refine FC_of [(0, .agg #[.pointer (some ⟨W.T, 0, none⟩), .pointer (some ⟨W.XA, 0, none⟩), .pointer (some ⟨W.XB, 0, none⟩), .pointer (some ⟨W.Z.m, 0, none⟩)]), (1, .string u), (2, .int .i64 level), (3, .string tx)] Tryz.func25 rfl Tryz.ntmps25 (by simp) rfl (fun R hR => ?_)
  refine V_sr T.mix (by kernel_rfl) (fun K1 hK1 => ?_)
  refine S_boxA rfl ?_
  generalize hh : Array.push h _ = h1
  have b1 : B h1 h.size #[.pointer (some ⟨W.T, 0, none⟩), .pointer (some ⟨W.XA, 0, none⟩), .pointer (some ⟨W.XB, 0, none⟩), .pointer (some ⟨W.Z.m, 0, none⟩)] 31 := by rw [← hh]; exact B.new _ _ _
  have hEh1 : Ext (fun _ => False) h h1 := by rw [← hh]; exact Ext.push _ _ _
  clear hh
  try clear q0 q1 q2 q3
  obtain ⟨q0, q1, q2, q3⟩ := bq (b1)
  have w1 := ws.new hEh1
  have hbx : ¬ WT W h.size := fresh_wt ws (Nat.le_refl _)
  refine S_as rfl ?_
  refine S_nil (hK1 _ _ (V_keep [1, 2, 3, 4] (by simp only [proj, lk, reduceIte, Nat.reduceEqDiff]; rfl) ?_)); clear hK1
  refine V_sr T.mix (by kernel_rfl) (fun K2 hK2 => ?_)
  first | refine S_fa0 T.f31_3 rfl ?_ | refine S_fa T.f31_3 rfl ?_
  refine S_ldK T.ag29 rfl (fun K' hK' => ?_)
  simp (disch := omega) only [q0, q1, q2, q3, oP_some, Nat.add_zero]
  refine hK' _ ?_; clear hK' K'
  refine S_mv rfl ?_
  refine S_mv rfl ?_
  refine S_call T.hb27 rfl ?_
  refine FC.mono (LzW.parse_spec W.Z st h1 w1.z u level ws.ri ws.n) ?_
  rintro v' h2 ⟨st2, z2, hE2, ri2, n2, hcase⟩
  obtain ⟨nb, Q, hQ, rfl, hnb, hTok⟩ : ∃ nb Q, Q = Lz.toks u level ∧ v' = .tuple #[.slice (some ⟨nb, 0, none⟩) Q.length Q.length, .int .i64 0] ∧ h1.size ≤ nb ∧ LzW.TokB h2 nb Q := by rcases hcase with ⟨q, _⟩ | ⟨_, q, _⟩ | ⟨_, _, _, _, nb, q1, q2, q3⟩; (omega); (omega); (exact ⟨nb, _, rfl, q1, q2, q3⟩)
  clear hcase
  have hnW : ¬ WT W nb := fresh_wt ws (by have h9 := hEh1.1; omega)
  have hTl : Q.length ≤ 256 := by rw [hQ]; exact Nat.le_trans (Lz.toks_len u level) (by omega)
  have tk : ∀ t, t ∈ Q → Tk t := by rw [hQ]; exact toks_tk u level
  have w2 := w1.setz z2 hE2 ri2 n2
  have hX2 : Ext (WT W) h h2 := (hEh1.mono fun _ f => f.elim).trans (hE2.mono fun _ e => wt_z e)
  have b2 := b1.ext hE2 (fun e => hbx (wt_z e))
  try clear q0 q1 q2 q3
  obtain ⟨q0, q1, q2, q3⟩ := bq (b2)
  refine S_mv rfl ?_
  refine S_ex rfl rfl ?_
  refine S_ex rfl rfl ?_
  refine S_as rfl ?_
  refine S_as rfl ?_
  refine S_nil (hK2 _ _ (V_keep [1, 3, 4, 9] (by simp only [proj, lk, reduceIte, Nat.reduceEqDiff]; rfl) ?_)); clear hK2
  refine V_sr T.mix (by kernel_rfl) (fun K3 hK3 => ?_)
  refine S_mv rfl ?_
  refine S_call T.hb37 rfl ?_
  refine FC.mono (counts_spec h2 nb Q hTok tk hTl) ?_
  rintro v' h3 ⟨rfl, bc3, hE3⟩
  have hco := cnT_co hTl
  obtain ⟨c0, hc0⟩ : ∃ c0, c0 = cnT Q := ⟨_, rfl⟩
  rw [← hc0] at bc3 hco
  have hc600 : ∀ i, c0 i ≤ 600 := fun i => by have h9 := cnT_le Q i; rw [hc0]; omega
  have hlA : (Huf.planR (cA c0) 10).length = 265 := by rw [hco.rA]; exact lA_len (dy_len _)
  have hlB : (Huf.planR (cB c0) 10).length = 8 := by rw [hco.rB]; exact lB_len (dy_len _)
  obtain ⟨dL, hdL⟩ : ∃ dL, dL = dyL c0 := ⟨_, rfl⟩
  have hd3 : dL.length = 273 := by rw [hdL]; exact dy_len _
  have hd10 : ∀ i, i < 273 → dL.getD i 0 ≤ 10 := fun i hi => by rw [hdL]; exact (hco.at hi).1
  have w3 := w2.new hE3
  have hX3 : Ext (WT W) h h3 := hX2.trans (hE3.mono fun _ f => f.elim)
  have b3 := b2.ext hE3 (fun f => f)
  have hcW : ¬ WT W h2.size := fresh_wt ws hX2.1
  have hT3 : LzW.TokB h3 nb Q := B.ext hTok hE3 (fun f => f)
  try clear q0 q1 q2 q3
  obtain ⟨q0, q1, q2, q3⟩ := bq (b3)
  refine S_as rfl ?_
  refine S_nil (hK3 _ _ (V_keep [1, 3, 4, 9, 11] (by simp only [proj, lk, reduceIte, Nat.reduceEqDiff]; rfl) ?_)); clear hK3
  refine V_sr T.mix (by kernel_rfl) (fun K4 hK4 => ?_)
  first | refine S_fa0 T.f31_1 rfl ?_ | refine S_fa T.f31_1 rfl ?_
  refine S_ldK T.ag28 rfl (fun K' hK' => ?_)
  simp (disch := omega) only [q0, q1, q2, q3, oP_some, Nat.add_zero]
  refine hK' _ ?_; clear hK' K'
  refine S_mv rfl ?_
  refine S_sl rfl rfl rfl (sliceV_hi T.el47 (by omega) (by omega)) ?_
  rw [show Int.toNat 265 = 265 from rfl]
  refine S_call T.hb43 rfl ?_
  have hpc := plan_spec h3 W.XA ua w3.ca (some ⟨h2.size, 0, none⟩) 273 (cA c0) (OLcA bc3 273) (fun z e => by cases e; exact fun y => hcW (.inr (.inr (.inl y)))) 10 w3.fa
  rw [show (cA c0).length = 265 from Huf.il_len _ _] at hpc
  refine FC.mono hpc ?_
  rintro v' h4 ⟨xa, va, rfl, hx4, hxb, ca4, kcA, fa4, hE4⟩
  rw [hlA] at hx4 ⊢
  have w4 := w3.seta ca4 hE4 fa4
  have hY4 : Ext (WT W) h3 h4 := hE4.mono fun _ e => .inr (.inr (.inl e))
  have b4 := b3.ext hY4 hbx
  have bc4 := bc3.ext hY4 hcW
  have hT4 : LzW.TokB h4 nb Q := B.ext hT3 hY4 hnW
  try clear q0 q1 q2 q3
  obtain ⟨q0, q1, q2, q3⟩ := bq (b4)
  refine S_mv rfl ?_
  refine S_ex rfl rfl ?_
  refine S_ex rfl rfl ?_
  refine S_as rfl ?_
  refine S_as rfl ?_
  refine S_nil (hK4 _ _ (V_keep [1, 3, 4, 9, 11, 12] (by simp only [proj, lk, reduceIte, Nat.reduceEqDiff]; rfl) ?_)); clear hK4
  refine V_sr T.mix (by kernel_rfl) (fun K5 hK5 => ?_)
  first | refine S_fa0 T.f31_2 rfl ?_ | refine S_fa T.f31_2 rfl ?_
  refine S_ldK T.ag28 rfl (fun K' hK' => ?_)
  simp (disch := omega) only [q0, q1, q2, q3, oP_some, Nat.add_zero]
  refine hK' _ ?_; clear hK' K'
  refine S_mv rfl ?_
  refine S_sl rfl rfl rfl (sliceV_lo (p := 265) T.el47 (by omega) (by omega) (by omega)) ?_
  simp only [Nat.zero_add, Nat.reduceMul, Nat.reduceSub]
  refine S_call T.hb43 rfl ?_
  have hpc := plan_spec h4 W.XB ub w4.cb (some ⟨h2.size, 265, none⟩) 8 (cB c0) (OLcB bc4 8) (fun z e => by cases e; exact fun y => hcW (.inr (.inr (.inr (.inl y))))) 10 w4.fb
  rw [show (cB c0).length = 8 from Huf.il_len _ _] at hpc
  refine FC.mono hpc ?_
  rintro v' h5 ⟨xb, vb, rfl, hy5, hyb, cb5, kcB, fb5, hE5⟩
  rw [hlB] at hy5 ⊢
  have w5 := w4.setb cb5 hE5 fb5
  have hY5 : Ext (WT W) h4 h5 := hE5.mono fun _ e => .inr (.inr (.inr (.inl e)))
  have b5 := b4.ext hY5 hbx
  have bc5 := bc4.ext hY5 hcW
  have hT5 : LzW.TokB h5 nb Q := B.ext hT4 hY5 hnW
  have hX5 : Ext (WT W) h h5 := (hX3.trans hY4).trans hY5
  try clear q0 q1 q2 q3
  obtain ⟨q0, q1, q2, q3⟩ := bq (b5)
  refine S_mv rfl ?_
  refine S_ex rfl rfl ?_
  refine S_ex rfl rfl ?_
  refine S_as rfl ?_
  refine S_as rfl ?_
  refine S_nil (hK5 _ _ (V_keep [1, 3, 4, 9, 11, 12, 14] (by simp only [proj, lk, reduceIte, Nat.reduceEqDiff]; rfl) ?_)); clear hK5
  refine V_sr T.mix (by kernel_rfl) (fun K6 hK6 => ?_)
  refine S_mk T.ei47 rfl rfl (by omega) (by omega) (by omega) (by omega) ?_
  rw [show ((273 : Int)).toNat = 273 from rfl, show ((0 : Int)).toNat = 0 from rfl, Nat.mul_one, mkZ_one]
  generalize hh : Array.push h5 _ = h6
  have bm6 : B h6 h5.size (arr 273 fun _ => .int .i64 0) 3 := by rw [← hh]; exact B.new _ _ _
  have hE6 : Ext (fun _ => False) h5 h6 := by rw [← hh]; exact Ext.push _ _ _
  clear hh
  have own6 := own_new bm6
  have w6 := w5.new hE6
  have hxa6 := (hx4.ext hE5 (fun b e y => by have h9 := hxb b e; have h8 := w3.lt (.inr (.inr (.inr (.inl y)))); omega)).ext hE6 (fun _ _ f => f)
  unfold IL at hxa6
  rw [hlA] at hxa6
  refine S_as rfl ?_
  refine S_nil (hK6 _ _ (V_keep [1, 3, 4, 9, 11, 12, 14, 16] (by simp only [proj, lk, reduceIte, Nat.reduceEqDiff]; rfl) ?_)); clear hK6
  refine V_sr T.mix (by kernel_rfl) (fun K7 hK7 => ?_)
  refine S_mv rfl ?_
  refine S_mv rfl ?_
  refine S_appx (lo := 0) T.ei47 T.ni47 T.us47 rfl rfl rfl own6 (Nat.zero_le _) (OwnR.cells hxa6) (by rw [ints_len, hlA]) (by omega) (by decide) (by decide) (List.all_eq_true.2 (ints_one _)) (fun ad7 cp7 h7 ho7 hE7 hb7 => ?_)
  simp only [Nat.reduceAdd]
  have hE7a : Ext (fun b => h5.size ≤ b) h5 h7 := (hE6.mono fun _ f => f.elim).trans (hE7.mono fun b e => by cases e; exact Nat.le_refl _)
  have hfr7 : ∀ b, blkA ad7 = some b → h5.size ≤ b := fun b e => by rcases hb7 with q | q; (rw [q] at e; cases e; exact Nat.le_refl _); (rw [q] at e; cases e; have h9 := hE6.1; omega)
  rw [List.nil_append] at ho7
  have own7 := ho7
  have hyb7 := hy5.ext hE7a (fun b e y => by have h9 := hy5.lt e; omega)
  unfold IL at hyb7
  rw [hlB] at hyb7
  refine S_as rfl ?_
  refine S_nil (hK7 _ _ (V_keep [1, 3, 4, 9, 11, 14, 16] (by simp only [proj, lk, reduceIte, Nat.reduceEqDiff]; rfl) ?_)); clear hK7
  refine V_sr T.mix (by kernel_rfl) (fun K8 hK8 => ?_)
  refine S_mv rfl ?_
  refine S_mv rfl ?_
  refine S_appx (lo := 0) T.ei47 T.ni47 T.us47 rfl rfl rfl own7 (Nat.zero_le _) (OwnR.cells hyb7) (by rw [ints_len, hlB]) (by omega) (by decide) (by decide) (List.all_eq_true.2 (ints_one _)) (fun ad8 cp8 h8 ho8 hE8 hb8 => ?_)
  simp only [Nat.reduceAdd]
  have hd8 : IL h8 ad8 cp8 (li dL) := by
    unfold IL; rw [hdL, ← lAB, ← hco.rA, ← hco.rB, ints_app, List.length_append, hlA, hlB]; exact ho8
  have hcp8 : 273 ≤ cp8 := by have h9 := hd8.cap; rw [li_len] at h9; omega
  have E68 : Ext (fun b => h5.size ≤ b) h5 h8 := hE7a.trans (hE8.mono fun b e => hfr7 b e)
  refine S_as rfl ?_
  refine S_nil (hK8 _ _ (V_keep [1, 3, 4, 9, 11, 16] (by simp only [proj, lk, reduceIte, Nat.reduceEqDiff]; rfl) ?_)); clear hK8
  refine V_sr T.mix (by kernel_rfl) (fun K9 hK9 => ?_)
  refine S_call T.hb39 rfl ?_
  refine FC.mono (fixedlens_spec h8) ?_
  rintro v' h9 ⟨rfl, bl9, hE9⟩
  have hE69 : Ext (fun b => h5.size ≤ b) h5 h9 := E68.trans (hE9.mono fun _ f => f.elim)
  have w9 := w5.ext hE69 (fun z e y => by have h9 := w5.lt e; omega)
  have b9 := b5.ext hE69 (show ¬ (h5.size ≤ h.size) by have h9 := b5.lt; omega)
  have bc9 := bc5.ext hE69 (show ¬ (h5.size ≤ h2.size) by have h9 := bc5.lt; omega)
  have hT9 : LzW.TokB h9 nb Q := B.ext hT5 hE69 (show ¬ (h5.size ≤ nb) by have h9 := B.lt hT5; omega)
  have of9 := OLli fix_len bl9 273
  have od9 := (IL.OL hd8 cp8).ext hE9 (fun _ _ f => f)
  have hX9 : Ext (WT W) h h9 := hX5.step hE69 (fun b hb e => by have h9 := hX5.1; omega)
  try clear q0 q1 q2 q3
  obtain ⟨q0, q1, q2, q3⟩ := bq (b9)
  refine S_as rfl ?_
  refine S_nil (hK9 _ _ (V_keep [1, 3, 4, 9, 11, 16, 17] (by simp only [proj, lk, reduceIte, Nat.reduceEqDiff]; rfl) ?_)); clear hK9
  refine V_sr T.mix (by kernel_rfl) (fun K10 hK10 => ?_)
  refine S_mv rfl ?_
  refine S_lens T.kd9 rfl ?_
  refine S_mv rfl ?_
  refine S_mv rfl ?_
  refine S_call T.hb40 rfl ?_
  refine FC.mono (bits_spec h9 0 u.size (by omega) h2.size c0 bc9 hc600 fixL fix_len (some ⟨h8.size, 0, none⟩) 273 of9 fix10) ?_
  obtain ⟨x10, hx10⟩ : ∃ x, x = biF 0 u.size c0 fixL := ⟨_, rfl⟩
  rw [← hx10]
  rintro v' h10 ⟨rfl, hE10⟩
  refine S_as rfl ?_
  refine S_nil (hK10 _ _ (V_keep [1, 3, 4, 9, 11, 16, 17, 18] (by simp only [proj, lk, reduceIte, Nat.reduceEqDiff]; rfl) ?_)); clear hK10
  refine V_sr T.mix (by kernel_rfl) (fun K11 hK11 => ?_)
  refine S_mv rfl ?_
  refine S_lens T.kd9 rfl ?_
  refine S_mv rfl ?_
  refine S_mv rfl ?_
  refine S_call T.hb40 rfl ?_
  refine FC.mono (bits_spec h10 1 u.size (by omega) h2.size c0 (bc9.ext hE10 (fun f => f)) hc600 fixL fix_len (some ⟨h8.size, 0, none⟩) 273 (of9.ext hE10 (fun _ _ f => f)) fix10) ?_
  obtain ⟨x11, hx11⟩ : ∃ x, x = biF 1 u.size c0 fixL := ⟨_, rfl⟩
  rw [← hx11]
  rintro v' h11 ⟨rfl, hE11⟩
  refine S_as rfl ?_
  refine S_nil (hK11 _ _ (V_keep [1, 3, 4, 9, 11, 16, 17, 18, 19] (by simp only [proj, lk, reduceIte, Nat.reduceEqDiff]; rfl) ?_)); clear hK11
  refine V_sr T.mix (by kernel_rfl) (fun K12 hK12 => ?_)
  refine S_mv rfl ?_
  refine S_lens T.kd9 rfl ?_
  refine S_mv rfl ?_
  refine S_mv rfl ?_
  refine S_call T.hb40 rfl ?_
  refine FC.mono (bits_spec h11 2 u.size (by omega) h2.size c0 ((bc9.ext hE10 (fun f => f)).ext hE11 (fun f => f)) hc600 dL hd3 ad8 cp8 ((od9.ext hE10 (fun _ _ f => f)).ext hE11 (fun _ _ f => f)) hd10) ?_
  obtain ⟨x12, hx12⟩ : ∃ x, x = biF 2 u.size c0 dL := ⟨_, rfl⟩
  rw [← hx12]
  rintro v' h12 ⟨rfl, hE12⟩
  refine S_as rfl ?_
  refine S_nil (hK12 _ _ (V_keep [1, 3, 4, 9, 16, 17, 18, 19, 20] (by simp only [proj, lk, reduceIte, Nat.reduceEqDiff]; rfl) ?_)); clear hK12
  refine V_sr T.mix (by kernel_rfl) (fun K13 hK13 => ?_)
  refine S_mv rfl ?_
  refine S_mv rfl ?_
  refine S_mv rfl ?_
  refine S_call T.hb41 rfl ?_
  refine FC.mono (mchoose_spec h12 x10 x11 x12) ?_
  obtain ⟨kd, hkd⟩ : ∃ kd, kd = kdF u Q := ⟨_, rfl⟩
  rw [show chs x10 x11 x12 = kd by rw [hx10, hx11, hx12, hc0, hdL, hc0, hkd]; exact kd_bi u Q]
  rintro v' h' ⟨rfl, rfl⟩
  have hk2 : kd ≤ 2 := by rw [hkd]; exact kd_le u Q
  have hE912 := (hE10.trans hE11).trans hE12
  have hTz : LzW.TokB h12 nb Q := B.ext hT9 hE912 (fun f => f)
  have hps := ps_is (u := u) (level := level) (by omega)
  rw [← hQ] at hps
  have hln := ln_ps (u := u) tk
  have w12 := w9.new hE912
  have b12 := b9.ext hE912 (fun f => f)
  have hX12 : Ext (WT W) h h12 := hX9.trans (hE912.mono fun _ f => f.elim)
  have hct := cost_bi (u := u) (T := Q) hc0 hdL
  rw [← hx10, ← hx11, ← hx12, ← hkd] at hct
  have hdd := hd.s
  rw [← hQ] at hdd
  have hdc := hd.c
  rw [← hQ, ← hkd] at hdc
  have od12 := od9.ext hE912 (fun _ _ f => f)
  have of12 := of9.ext hE912 (fun _ _ f => f)
  try clear q0 q1 q2 q3
  obtain ⟨q0, q1, q2, q3⟩ := bq (b12)
  refine S_as rfl ?_
  refine S_nil (hK13 _ _ (V_keep [1, 3, 4, 9, 16, 17, 18, 19, 20, 21] (by simp only [proj, lk, reduceIte, Nat.reduceEqDiff]; rfl) ?_)); clear hK13
  refine V_sr T.mix (by kernel_rfl) (fun K14 hK14 => ?_)
  refine S_mv rfl ?_
  refine S_as rfl ?_
  refine S_nil (hK14 _ _ (V_keep [1, 3, 4, 9, 16, 17, 19, 20, 21, 22] (by simp only [proj, lk, reduceIte, Nat.reduceEqDiff]; rfl) ?_)); clear hK14
  refine V_seqJ (fun l h' => ∃ (c1 : Nat), (c1 = if kd = 1 then x11 else x10) ∧ l = [(1, .string u), (3, .string tx), (4, .pointer (some ⟨h.size, 0, none⟩)), (9, .slice (some ⟨nb, 0, none⟩) Q.length Q.length), (16, .slice ad8 273 cp8), (17, .slice (some ⟨h8.size, 0, none⟩) 273 273), (20, .int .i64 (x12 : Int)), (21, .int .i64 (kd : Int)), (22, .int .i64 (c1 : Int))] ∧ h12 = h') ?_ ?_
  · skip
    refine V_sr T.mix (by kernel_rfl) (fun K16 hK16 => ?_)
    refine S_mv rfl ?_
    refine S_bin rfl rfl rfl ?_
    refine S_nil (hK16 _ _ (V_keep [1, 3, 4, 9, 16, 17, 19, 20, 21, 22, 83] (by simp only [proj, lk, reduceIte, Nat.reduceEqDiff]; rfl) ?_)); clear hK16
    refine V_condp rfl (fun c123 => ?_) (fun c123 => ?_)
    · skip
      refine V_reg T.mix (by kernel_rfl) ?_
      refine S_mv rfl ?_
      refine S_as rfl ?_
      refine S_nilk [1, 3, 4, 9, 16, 17, 20, 21, 22] (by simp only [proj, lk, reduceIte, Nat.reduceEqDiff]; rfl) ?_
      exact ⟨x11, by rw [if_pos (by omega)], rfl, rfl⟩
    · skip
      refine V_skipk [1, 3, 4, 9, 16, 17, 20, 21, 22] (by simp only [proj, lk, reduceIte, Nat.reduceEqDiff]; rfl) ?_
      exact ⟨x10, by rw [if_neg (by omega)], rfl, rfl⟩
  rintro l h' ⟨c1, hc1, rfl, rfl⟩
  refine V_seqJ (fun l h' => ∃ (ct : Nat) (lL : List Nat) (lla : Option Addr) (llc : Nat), (ct = ctF u Q) ∧ (lL.length = 273) ∧ (OL h12 lla llc (li lL)) ∧ (273 ≤ llc) ∧ (∀ x, x ∈ lL → x ≤ 10) ∧ (coE lL = 0) ∧ (∀ i, i < 273 → 0 < cnT Q i → 0 < lL.getD i 0) ∧ (lL = leF u Q) ∧ l = [(1, .string u), (3, .string tx), (4, .pointer (some ⟨h.size, 0, none⟩)), (9, .slice (some ⟨nb, 0, none⟩) Q.length Q.length), (17, .slice lla 273 llc), (21, .int .i64 (kd : Int)), (22, .int .i64 (ct : Int))] ∧ h12 = h') ?_ ?_
  · skip
    refine V_sr T.mix (by kernel_rfl) (fun K18 hK18 => ?_)
    refine S_mv rfl ?_
    refine S_bin rfl rfl rfl ?_
    refine S_nil (hK18 _ _ (V_keep [1, 3, 4, 9, 16, 17, 20, 21, 22, 86] (by simp only [proj, lk, reduceIte, Nat.reduceEqDiff]; rfl) ?_)); clear hK18
    refine V_condp rfl (fun c126 => ?_) (fun c126 => ?_)
    · skip
      refine V_sr T.mix (by kernel_rfl) (fun K19 hK19 => ?_)
      refine S_mv rfl ?_
      refine S_as rfl ?_
      refine S_nil (hK19 _ _ (V_keep [1, 3, 4, 9, 16, 21, 22] (by simp only [proj, lk, reduceIte, Nat.reduceEqDiff]; rfl) ?_)); clear hK19
      refine V_reg T.mix (by kernel_rfl) ?_
      refine S_mv rfl ?_
      refine S_as rfl ?_
      refine S_nilk [1, 3, 4, 9, 17, 21, 22] (by simp only [proj, lk, reduceIte, Nat.reduceEqDiff]; rfl) ?_
      exact ⟨x12, dL, ad8, cp8, by rw [← hct, if_pos (by omega)], hd3, od12, hcp8, by rw [hdL]; exact hco.mem, by rw [hdL]; exact hco.coE, fun i hi hp => by have h9 := (hco.at hi).2; rw [hdL]; rw [hc0] at h9 ⊢; omega, by unfold leF; rw [← hkd, if_pos (by omega), hdL, hc0], rfl, rfl⟩
    · skip
      refine V_skipk [1, 3, 4, 9, 17, 21, 22] (by simp only [proj, lk, reduceIte, Nat.reduceEqDiff]; rfl) ?_
      exact ⟨c1, fixL, (some ⟨h8.size, 0, none⟩), 273, by rw [← hct, if_neg (by omega)]; exact hc1, fix_len, of12, by omega, fix_le, fix_e, fun i hi hp => by rw [fix_at hi]; (repeat' split) <;> omega, by unfold leF; rw [← hkd, if_neg (by omega)], rfl, rfl⟩
  rintro l h' ⟨ct, lL, lla, llc, hct2, hlL3, ol12, hllc, hlm, hle, hlu, hlq, rfl, rfl⟩
  refine V_sr T.mix (by kernel_rfl) (fun K20 hK20 => ?_)
  refine S_mv rfl ?_
  refine S_mv rfl ?_
  refine S_mv rfl ?_
  refine S_mv rfl ?_
  refine S_call T.hb42 rfl ?_
  refine FC.mono (emit_spec h12 kd hk2 u (by omega) nb Q hTz tk hTl lL hlL3 lla llc ol12 hllc hlm hle (us_of tk hlu)) ?_
  rintro v' h13 ⟨rfl, hE13⟩
  have hem : wr ⟨0, 0, 0⟩ (emP kd u Q lL) = ⟨nm (psF u Q), ctF u Q, 0⟩ := by rw [← hps, hlq, hkd]; rfl
  rw [hem]
  have htx2 : tx = txt (nm (psF u Q)) (ctF u Q) := by rw [htx]; unfold pkF; rw [← hQ, hln]
  have w13 := w12.new hE13
  have b13 := b12.ext hE13 (fun f => f)
  have hX13 : Ext (WT W) h h13 := hX12.trans (hE13.mono fun _ f => f.elim)
  rw [← htx2]
  try clear q0 q1 q2 q3
  obtain ⟨q0, q1, q2, q3⟩ := bq (b13)
  refine S_as rfl ?_
  refine S_nil (hK20 _ _ (V_keep [3, 4, 17, 21, 22, 23] (by simp only [proj, lk, reduceIte, Nat.reduceEqDiff]; rfl) ?_)); clear hK20
  refine V_seq (fun K21 hK21 => ?_)
  refine V_sr T.mix (by kernel_rfl) (fun K22 hK22 => ?_)
  refine S_mv rfl ?_
  refine S_mv rfl ?_
  refine S_bin rfl rfl rfl ?_
  refine S_nil (hK22 _ _ (V_keep [3, 4, 17, 21, 22, 96] (by simp only [proj, lk, reduceIte, Nat.reduceEqDiff]; rfl) ?_)); clear hK22
  refine V_condp rfl (fun c131 => ?_) (fun c131 => ?_)
  · skip
    exfalso; exact c131 rfl
  · skip
    refine V_skipk [3, 4, 17, 21, 22] (by simp only [proj, lk, reduceIte, Nat.reduceEqDiff]; rfl) ?_
    refine hK21 _ _ ?_; clear hK21
    refine V_sr T.mix (by kernel_rfl) (fun K23 hK23 => ?_)
    first | refine S_fa0 T.f31_0 rfl ?_ | refine S_fa T.f31_0 rfl ?_
    refine S_ldK T.ag27 rfl (fun K' hK' => ?_)
    simp (disch := omega) only [q0, q1, q2, q3, oP_some, Nat.add_zero]
    refine hK' _ ?_; clear hK' K'
    refine S_call T.hb35 rfl ?_
    refine FC.mono (BitW.text_spec h13 W.T W.tb s w13.rt) ?_
    rintro v' h' ⟨rfl, rfl⟩
    rw [show txt s.N s.n = tx by rw [htx2, hdd]]
    refine S_as rfl ?_
    refine S_nil (hK23 _ _ (V_keep [3, 4, 17, 21, 22, 24] (by simp only [proj, lk, reduceIte, Nat.reduceEqDiff]; rfl) ?_)); clear hK23
    refine V_seq (fun K24 hK24 => ?_)
    refine V_sr T.mix (by kernel_rfl) (fun K25 hK25 => ?_)
    refine S_mv rfl ?_
    refine S_mv rfl ?_
    refine S_bin rfl rfl rfl ?_
    refine S_nil (hK25 _ _ (V_keep [4, 17, 21, 22, 102] (by simp only [proj, lk, reduceIte, Nat.reduceEqDiff]; rfl) ?_)); clear hK25
    refine V_condp rfl (fun c135 => ?_) (fun c135 => ?_)
    · skip
      exfalso; exact c135 rfl
    · skip
      refine V_skipk [4, 17, 21, 22] (by simp only [proj, lk, reduceIte, Nat.reduceEqDiff]; rfl) ?_
      refine hK24 _ _ ?_; clear hK24
      refine V_sr T.mix (by kernel_rfl) (fun K26 hK26 => ?_)
      first | refine S_fa0 T.f31_0 rfl ?_ | refine S_fa T.f31_0 rfl ?_
      refine S_ldK T.ag27 rfl (fun K' hK' => ?_)
      simp (disch := omega) only [q0, q1, q2, q3, oP_some, Nat.add_zero]
      refine hK' _ ?_; clear hK' K'
      refine S_call T.hb44 rfl ?_
      refine FC.mono (BitW.len_spec h13 W.T W.tb s w13.rt) ?_
      rintro v' h' ⟨rfl, rfl⟩
      have hsn : s.n = ct := by rw [hdd, hct2]
      rw [hsn]
      refine S_as rfl ?_
      refine S_nil (hK26 _ _ (V_keep [4, 17, 21, 22, 25] (by simp only [proj, lk, reduceIte, Nat.reduceEqDiff]; rfl) ?_)); clear hK26
      refine V_seq (fun K27 hK27 => ?_)
      refine V_sr T.mix (by kernel_rfl) (fun K28 hK28 => ?_)
      refine S_mv rfl ?_
      refine S_mv rfl ?_
      refine S_bin rfl rfl rfl ?_
      refine S_nil (hK28 _ _ (V_keep [4, 17, 21, 108] (by simp only [proj, lk, reduceIte, Nat.reduceEqDiff]; rfl) ?_)); clear hK28
      refine V_condp rfl (fun c139 => ?_) (fun c139 => ?_)
      · skip
        exfalso; exact c139 rfl
      · skip
        refine V_skipk [4, 17, 21] (by simp only [proj, lk, reduceIte, Nat.reduceEqDiff]; rfl) ?_
        refine hK27 _ _ ?_; clear hK27
        refine V_seq (fun K29 hK29 => ?_)
        refine V_sr T.mix (by kernel_rfl) (fun K30 hK30 => ?_)
        refine S_mv rfl ?_
        refine S_bin rfl rfl rfl ?_
        refine S_nil (hK30 _ _ (V_keep [4, 17, 110] (by simp only [proj, lk, reduceIte, Nat.reduceEqDiff]; rfl) ?_)); clear hK30
        refine V_condp rfl (fun c142 => ?_) (fun c142 => ?_)
        · skip
          refine V_sr T.mix (by kernel_rfl) (fun K31 hK31 => ?_)
          refine S_as rfl ?_
          refine S_nil (hK31 _ _ (V_keep [8] (by simp only [proj, lk, reduceIte, Nat.reduceEqDiff]; rfl) ?_)); clear hK31
          refine V_ret ?_
          refine hR _ _ (ret1 rfl rfl ?_)
          exact ⟨rfl, ⟨_, _, _, _, w13⟩, hX13⟩
        · skip
          refine V_skipk [4, 17] (by simp only [proj, lk, reduceIte, Nat.reduceEqDiff]; rfl) ?_
          refine hK29 _ _ ?_; clear hK29
          refine V_sr T.mix (by kernel_rfl) (fun K32 hK32 => ?_)
          first | refine S_fa0 T.f31_1 rfl ?_ | refine S_fa T.f31_1 rfl ?_
          refine S_ldK T.ag28 rfl (fun K' hK' => ?_)
          simp (disch := omega) only [q0, q1, q2, q3, oP_some, Nat.add_zero]
          refine hK' _ ?_; clear hK' K'
          refine S_call T.hb45 rfl ?_
          obtain ⟨ka, na, kb, nb_⟩ := hdc (by omega)
          have ka2 := CK.kc ka kcA
          have kb2 := CK.kc kb kcB
          have na2 : va.n = 265 := by rw [kcA.1]; exact na
          have nb2 : vb.n = 8 := by rw [kcB.1]; exact nb_
          refine FC.mono (size_spec h13 W.XA va w13.ca) ?_
          rintro v' h' ⟨rfl, rfl⟩
          rw [na2]
          refine S_as rfl ?_
          refine S_nil (hK32 _ _ (V_keep [4, 17, 26] (by simp only [proj, lk, reduceIte, Nat.reduceEqDiff]; rfl) ?_)); clear hK32
          refine V_sr T.mix (by kernel_rfl) (fun K33 hK33 => ?_)
          first | refine S_fa0 T.f31_2 rfl ?_ | refine S_fa T.f31_2 rfl ?_
          refine S_ldK T.ag28 rfl (fun K' hK' => ?_)
          simp (disch := omega) only [q0, q1, q2, q3, oP_some, Nat.add_zero]
          refine hK' _ ?_; clear hK' K'
          refine S_call T.hb45 rfl ?_
          refine FC.mono (size_spec h13 W.XB vb w13.cb) ?_
          rintro v' h' ⟨rfl, rfl⟩
          rw [nb2]
          refine S_as rfl ?_
          refine S_nil (hK33 _ _ (V_keep [4, 17, 26, 27] (by simp only [proj, lk, reduceIte, Nat.reduceEqDiff]; rfl) ?_)); clear hK33
          refine V_seq (fun K34 hK34 => ?_)
          refine V_sr T.mix (by kernel_rfl) (fun K35 hK35 => ?_)
          refine S_mv rfl ?_
          refine S_bin rfl rfl rfl ?_
          refine S_mv rfl ?_
          refine S_dec (fun g147 => ?_) (fun g147 => ?_)
          · skip
            exfalso; exact g147 rfl
          · skip
            refine S_gt rfl ?_
            refine S_mv rfl ?_
            refine S_gt rfl ?_
            refine S_bin rfl rfl rfl ?_
            refine S_pf rfl rfl ?_
            refine S_nil (hK35 _ _ (V_keep [4, 17, 122] (by simp only [proj, lk, reduceIte, Nat.reduceEqDiff]; rfl) ?_)); clear hK35
            refine V_condp rfl (fun c147 => ?_) (fun c147 => ?_)
            · skip
              exfalso; exact c147 rfl
            · skip
              refine V_skipk [4, 17] (by simp only [proj, lk, reduceIte, Nat.reduceEqDiff]; rfl) ?_
              refine hK34 _ _ ?_; clear hK34
              refine V_sr T.mix (by kernel_rfl) (fun K36 hK36 => ?_)
              refine S_ldnK T.ag31 rfl (fun K' hK' => ?_)
              simp (disch := omega) only [q0, q1, q2, q3, oPs_cons, oPs_nil, oP_some, Nat.reduceAdd, Nat.add_zero]
              refine hK' _ ?_; clear hK' K'
              refine S_mv rfl ?_
              refine S_call T.hb46 rfl ?_
              refine FC.mono (holds_spec h13 W s va vb st2 w13 lL hlL3 lla llc (ol12.ext hE13 (fun _ _ f => f)) (by rw [hlq]; exact ka2) (by rw [hlq]; exact kb2) na2 nb2) ?_
              rintro v' h14 ⟨rfl, hE14⟩
              refine S_as rfl ?_
              refine S_nil (hK36 _ _ (V_keep [8] (by simp only [proj, lk, reduceIte, Nat.reduceEqDiff]; rfl) ?_)); clear hK36
              refine V_ret ?_
              refine hR _ _ (ret1 rfl rfl ?_)
              exact ⟨rfl, ⟨_, _, _, _, w13.new hE14⟩, hX13.trans (hE14.mono fun _ f => f.elim)⟩
end Go.Proofs.Qxb6500406aGreat
