import Derived.Test.Qxb6500404aGreatOb
set_option linter.unusedVariables false
set_option linter.unusedSimpArgs false
namespace Go.Proofs.Qxb6500404aGreat
open Go.Eng Go.Bits Go.Blk HufW

theorem stp_snoc (u : ByteArray) : ∀ (m j : Nat), stp u j (m + 1) = stp u j m ++ [(bAt u (j + m), 8)]
  | 0, j => by simp [stp]
  | m + 1, j => by
    rw [stp, stp_snoc u m (j + 1), stp, List.cons_append, show j + 1 + m = j + (m + 1) by omega]
theorem wr_snoc (s : TS) (a : List (Nat × Nat)) (q : Nat × Nat) : wr s (a ++ [q]) = putS (wr s a) q.1 q.2 := by rw [wr_app]; rfl
def tps (la lb : Nat → Nat) (Q : List Lz.Tok) : List (Nat × Nat) := Q.flatMap (tp la lb)
theorem tps_snoc (la lb : Nat → Nat) (Q : List Lz.Tok) (t : Lz.Tok) : tps la lb (Q ++ [t]) = tps la lb Q ++ tp la lb t := by simp [tps]
theorem bp_tps (la lb : Nat → Nat) (Q : List Lz.Tok) : bp la lb Q = tps la lb Q ++ [sp la 265 256] := by
  induction Q with
  | nil => rfl
  | cons t Q ih => rw [bp, ih]; simp [tps]
theorem cA_l {l : List Nat} (h : l.length = 273) : cA (fun i => l.getD i 0) = lA l := Huf.list_ext (by rw [lA_len h, cA, Huf.il_len]) fun j hj => by
  rw [cA, Huf.il_len] at hj
  rw [cA, Huf.il_at hj, lA_at _ hj]
theorem cB_l {l : List Nat} (h : l.length = 273) : cB (fun i => l.getD i 0) = lB l := Huf.list_ext (by rw [lB_len h, cB, Huf.il_len]) fun j hj => by
  rw [cB, Huf.il_len] at hj
  rw [cB, Huf.il_at hj, lB_at]
/-- what the packer fetched -/
structure FE (cn co wi fa fb : Nat → Nat) : Prop where
  a : ∀ i, i < 265 → 0 < cn i → co i = Huf.cd fa 265 i ∧ wi i = fa i
  b : ∀ c, c < 8 → 0 < cn (265 + c) → co (265 + c) = Huf.cd fb 8 c ∧ wi (265 + c) = fb c
set_option maxHeartbeats 800000 in
theorem stored_spec (h : Heap) (W : WA) (pk : B h W.P (pcs W) 75) (s : TS) (rt : BitW.RT h W.T W.tb s) (hPT : W.P ≠ W.T ∧ W.P ≠ W.tb) (u : ByteArray) (hu : u.size ≤ 256) :
    FC Tryz.prog 97 (#[.pointer (some ⟨W.P, 0, none⟩), .string u] : Array Value) h fun rv h' => rv = .tuple #[] ∧ BitW.RT h' W.T W.tb (wr (padS s) ((u.size, 16) :: stp u 0 u.size)) ∧ Ext (fun z => z = W.T ∨ z = W.tb) h h' := by
  try clear p0 p1 p2 p3 p4 p5 p6 p7
  obtain ⟨p0, p1, p2, p3, p4, p5, p6, p7⟩ := pq (pk)
  refine FC_of [(0, .pointer (some ⟨W.P, 0, none⟩)), (1, .string u)] Tryz.func97 rfl Tryz.ntmps97 (by simp) rfl (fun R hR => ?_)
  refine V_sr T.mix (by kernel_rfl) (fun K1 hK1 => ?_)
  refine S_mv rfl ?_
  refine S_nc rfl ?_
  first | refine S_fa0 T.f75_0 rfl ?_ | refine S_fa T.f75_0 rfl ?_
  refine S_ldK T.ag47 rfl (fun K' hK' => ?_)
  simp (disch := omega) only [p0, p1, p2, p3, p4, p5, p6, p7, oP_some, Nat.add_zero]
  refine hK' _ ?_; clear hK' K'
  refine S_call T.hb129 rfl ?_
  refine FC.mono (BitW.pad_spec h W.T W.tb s rt) ?_
  rintro v' h1 ⟨rfl, rth1, hEh1⟩
  have pk1 := (pk.ext hEh1 (fun e => by rcases e with e | e; (exact hPT.1 e); (exact hPT.2 e)))
  try clear p0 p1 p2 p3 p4 p5 p6 p7
  obtain ⟨p0, p1, p2, p3, p4, p5, p6, p7⟩ := pq (pk1)
  refine S_nil (hK1 _ _ (V_keep [0, 1] (by simp only [proj, lk, reduceIte, Nat.reduceEqDiff]; rfl) ?_)); clear hK1
  refine V_sr T.mix (by kernel_rfl) (fun K2 hK2 => ?_)
  refine S_mv rfl ?_
  refine S_nc rfl ?_
  first | refine S_fa0 T.f75_0 rfl ?_ | refine S_fa T.f75_0 rfl ?_
  refine S_ldK T.ag47 rfl (fun K' hK' => ?_)
  simp (disch := omega) only [p0, p1, p2, p3, p4, p5, p6, p7, oP_some, Nat.add_zero]
  refine hK' _ ?_; clear hK' K'
  refine S_mv rfl ?_
  refine S_lens T.kd9 rfl ?_
  refine S_call T.hb96 rfl ?_
  refine FC.mono (BitW.put_spec h1 W.T W.tb _ rth1 ((u.size : Int)) (16)) ?_
  rintro v' h2 ⟨rfl, rth2, hEh2⟩
  have hE02 := hEh1.trans hEh2
  refine S_nil (hK2 _ _ (V_keep [0, 1] (by simp only [proj, lk, reduceIte, Nat.reduceEqDiff]; rfl) ?_)); clear hK2
  refine V_sr T.mix (by kernel_rfl) (fun K3 hK3 => ?_)
  refine S_as rfl ?_
  refine S_nil (hK3 _ _ (V_keep [0, 1, 4] (by simp only [proj, lk, reduceIte, Nat.reduceEqDiff]; rfl) ?_)); clear hK3
  refine V_block ?_
  refine V_loop (fun m l h' => ∃ (i : Nat) (hk : Heap), (i ≤ u.size) ∧ (BitW.RT hk W.T W.tb (wr (padS s) ((u.size, 16) :: stp u 0 i))) ∧ (Ext (fun z => z = W.T ∨ z = W.tb) h hk) ∧ m = u.size - i ∧ l = [(0, .pointer (some ⟨W.P, 0, none⟩)), (1, .string u), (4, .int .i64 (i : Int))] ∧ hk = h') _ ⟨0, h2, Nat.zero_le _, rth2, hE02, rfl, rfl, rfl⟩ ?_
  rintro m l h' ⟨i, hk, hi, rtk, hEk, rfl, rfl, rfl⟩ K4 hK4
  have pkk := (pk.ext hEk (fun e => by rcases e with e | e; (exact hPT.1 e); (exact hPT.2 e)))
  try clear p0 p1 p2 p3 p4 p5 p6 p7
  obtain ⟨p0, p1, p2, p3, p4, p5, p6, p7⟩ := pq (pkk)
  refine V_seq (fun K5 hK5 => ?_)
  refine V_sr T.mix (by kernel_rfl) (fun K6 hK6 => ?_)
  refine S_mv rfl ?_
  refine S_mv rfl ?_
  refine S_lens T.kd9 rfl ?_
  refine S_bin rfl rfl rfl ?_
  refine S_nil (hK6 _ _ (V_keep [0, 1, 4, 20] (by simp only [proj, lk, reduceIte, Nat.reduceEqDiff]; rfl) ?_)); clear hK6
  refine V_condp rfl (fun c11 => ?_) (fun c11 => ?_)
  · skip
    refine V_skipk [0, 1, 4] (by simp only [proj, lk, reduceIte, Nat.reduceEqDiff]; rfl) ?_
    refine hK5 _ _ ?_; clear hK5
    refine V_seq (fun K7 hK7 => ?_)
    refine V_block ?_
    refine V_reg T.mix (by kernel_rfl) ?_
    refine S_mv rfl ?_
    refine S_nc rfl ?_
    first | refine S_fa0 T.f75_0 rfl ?_ | refine S_fa T.f75_0 rfl ?_
    refine S_ldK T.ag47 rfl (fun K' hK' => ?_)
    simp (disch := omega) only [p0, p1, p2, p3, p4, p5, p6, p7, oP_some, Nat.add_zero]
    refine hK' _ ?_; clear hK' K'
    refine S_mv rfl ?_
    refine S_mv rfl ?_
    refine S_siN i T.kd9 rfl rfl rfl (by omega) ?_
    have hbl := Lz.bAt_lt u i
    refine S_cvN (bAt u i) T.us5 T.in3 rfl rfl (BitW.top_i64 (by omega)) ?_
    refine S_call T.hb96 rfl ?_
    refine FC.mono (BitW.put_spec hk W.T W.tb _ rtk ((bAt u i : Int)) (8)) ?_
    rintro v' h3 ⟨rfl, rth3, hEh3⟩
    refine S_nilk [0, 1, 4] (by simp only [proj, lk, reduceIte, Nat.reduceEqDiff]; rfl) ?_
    refine hK7 _ _ ?_; clear hK7
    refine V_reg T.mix (by kernel_rfl) ?_
    refine S_mv rfl ?_
    first | refine S_add rfl rfl (by omega) (by omega) ?_ | refine S_bin rfl rfl rfl ?_
    refine S_as rfl ?_
    refine S_nilk [0, 1, 4] (by simp only [proj, lk, reduceIte, Nat.reduceEqDiff]; rfl) ?_
    exact hK4 _ _ ⟨_, by omega, i + 1, h3, by omega, rth3.eq (by rw [stp_snoc, Nat.zero_add]; exact (wr_snoc (padS s) ((u.size, 16) :: stp u 0 i) (bAt u i, 8)).symm), hEk.trans hEh3, rfl, rfl, rfl⟩
  · skip
    refine V_exitk [] rfl (by simp only [proj, lk, reduceIte, Nat.reduceEqDiff]; rfl) ?_
    -- end
    refine hR _ _ (ret0 rfl ?_)
    have hiu : i = u.size := by omega
    rw [hiu] at rtk
    exact ⟨rfl, rtk, hEk⟩
set_option maxHeartbeats 800000 in
theorem fixed_spec (h : Heap) (W : WA) (cn pl co wi : Nat → Nat) (pb : PB h W cn pl co wi) :
    FC Tryz.prog 130 (#[.pointer (some ⟨W.P, 0, none⟩)] : Array Value) h fun rv h' => rv = .tuple #[] ∧ PB h' W cn (fun i => fixL.getD i 0) co wi ∧ Ext (fun z => z = W.P + 2) h h' := by
  have pbk := pb
  try clear p0 p1 p2 p3 p4 p5 p6 p7
  obtain ⟨p0, p1, p2, p3, p4, p5, p6, p7⟩ := pq (pbk.x)
  have hop := ia_ok pbk.p
  refine FC_of [(0, .pointer (some ⟨W.P, 0, none⟩))] Tryz.func130 rfl Tryz.ntmps130 (by simp) rfl (fun R hR => ?_)
  refine V_seq (fun K1 hK1 => ?_)
  refine V_sr T.mix (by kernel_rfl) (fun K2 hK2 => ?_)
  refine S_as rfl ?_
  refine S_nil (hK2 _ _ (V_keep [0, 2] (by simp only [proj, lk, reduceIte, Nat.reduceEqDiff]; rfl) ?_)); clear hK2
  refine V_block ?_
  refine V_loop (fun m l h' => ∃ (s : Nat) (hk : Heap) (A : Nat → Nat), (s ≤ 265) ∧ (PB hk W cn A co wi) ∧ (∀ j, j < s → A j = fixL.getD j 0) ∧ (Ext (fun z => z = W.P + 2) h hk) ∧ m = 265 - s ∧ l = [(0, .pointer (some ⟨W.P, 0, none⟩)), (2, .int .i64 (s : Int))] ∧ hk = h') _ ⟨0, h, pl, Nat.zero_le _, pb, fun j hj => by omega, Ext.refl _ _, rfl, rfl, rfl⟩ ?_
  rintro m l h' ⟨s, hk, A, hs, pbA, hA, hEk, rfl, rfl, rfl⟩ K3 hK3
  have pbk := pbA
  try clear p0 p1 p2 p3 p4 p5 p6 p7
  obtain ⟨p0, p1, p2, p3, p4, p5, p6, p7⟩ := pq (pbk.x)
  have hop := ia_ok pbk.p
  refine V_seq (fun K4 hK4 => ?_)
  refine V_sr T.mix (by kernel_rfl) (fun K5 hK5 => ?_)
  refine S_mv rfl ?_
  refine S_bin rfl rfl rfl ?_
  refine S_nil (hK5 _ _ (V_keep [0, 2, 5] (by simp only [proj, lk, reduceIte, Nat.reduceEqDiff]; rfl) ?_)); clear hK5
  refine V_condp rfl (fun c18 => ?_) (fun c18 => ?_)
  · skip
    refine V_skipk [0, 2] (by simp only [proj, lk, reduceIte, Nat.reduceEqDiff]; rfl) ?_
    refine hK4 _ _ ?_; clear hK4
    refine V_seq (fun K6 hK6 => ?_)
    refine V_block ?_
    refine V_regM #[0, 1, 2, 3, 4, 5, 6, 7, 8] [0, 1, 2, 3, 4, 5] 6 [7, 8] T.mix (by kernel_rfl) rfl ⟨rfl, rfl⟩ ?_
    refine S_mv rfl ?_
    refine S_nc rfl ?_
    first | refine S_fa0 T.f75_5 rfl ?_ | refine S_fa T.f75_5 rfl ?_
    refine S_ldK T.ag56 rfl (fun K' hK' => ?_)
    simp (disch := omega) only [p0, p1, p2, p3, p4, p5, p6, p7, oP_some, Nat.add_zero]
    refine hK' _ ?_; clear hK' K'
    refine S_mv rfl ?_
    refine S_mv rfl ?_
    refine S_nil ?_
    refine SM_call T.hb106 rfl ?_
    refine FC.mono (fixedlen_spec hk s (by omega)) ?_
    rintro v' h' ⟨rfl, rfl⟩
    first | refine ⟨Grows.refl _, ?_⟩ | refine ⟨Grows.of_ext (by assumption), ?_⟩
    first | refine S_ixn T.el56 rfl rfl (by omega) ?_ | refine S_ix1 T.el56 rfl rfl (by omega) (by omega) ?_ | refine S_ix T.el56 rfl rfl (by omega) (by omega) ?_
    refine S_st T.sz3 rfl rfl rfl rfl (by simp (disch := omega) only [hop]) ?_
    generalize hh : putH _ _ _ = h1
    have bph1 : B h1 (W.P + 2) (ia 273 (Huf.ups A (s) (fixL.getD s 0))) 3 := by rw [← hh]; exact ia_put pbk.p _ _
    have hEh1 : Ext (fun z => z = W.P + 2) hk h1 := by rw [← hh]; exact Ext.put _ _ rfl
    clear hh
    refine S_nilk [0, 2] (by simp only [proj, lk, reduceIte, Nat.reduceEqDiff]; rfl) ?_
    refine hK6 _ _ ?_; clear hK6
    refine V_reg T.mix (by kernel_rfl) ?_
    refine S_mv rfl ?_
    first | refine S_add rfl rfl (by omega) (by omega) ?_ | refine S_bin rfl rfl rfl ?_
    refine S_as rfl ?_
    refine S_nilk [0, 2] (by simp only [proj, lk, reduceIte, Nat.reduceEqDiff]; rfl) ?_
    exact hK3 _ _ ⟨_, by omega, s + 1, h1, Huf.ups A s (fixL.getD s 0), by omega, pbk.setp hEh1 bph1, fun j hj => by by_cases e : j = s; (rw [e, Huf.ups_eq]); (rw [Huf.ups_ne _ _ e]; exact hA j (by omega)), hEk.trans hEh1, rfl, rfl, rfl⟩
  · skip
    refine V_exitk [0] rfl (by simp only [proj, lk, reduceIte, Nat.reduceEqDiff]; rfl) ?_
    refine hK1 _ _ ?_; clear hK1
    refine V_sr T.mix (by kernel_rfl) (fun K7 hK7 => ?_)
    refine S_as rfl ?_
    refine S_nil (hK7 _ _ (V_keep [0, 3] (by simp only [proj, lk, reduceIte, Nat.reduceEqDiff]; rfl) ?_)); clear hK7
    refine V_block ?_
    refine V_loop (fun m l h' => ∃ (c : Nat) (hk : Heap) (A : Nat → Nat), (c ≤ 8) ∧ (PB hk W cn A co wi) ∧ (∀ j, j < 265 + c → A j = fixL.getD j 0) ∧ (Ext (fun z => z = W.P + 2) h hk) ∧ m = 8 - c ∧ l = [(0, .pointer (some ⟨W.P, 0, none⟩)), (3, .int .i64 (c : Int))] ∧ hk = h') _ ⟨0, hk, A, Nat.zero_le _, pbA, fun j hj => hA j (by omega), hEk, rfl, rfl, rfl⟩ ?_
    rintro m l h' ⟨c, hk, A, hc, pbA, hA, hEk, rfl, rfl, rfl⟩ K8 hK8
    have pbk := pbA
    try clear p0 p1 p2 p3 p4 p5 p6 p7
    obtain ⟨p0, p1, p2, p3, p4, p5, p6, p7⟩ := pq (pbk.x)
    have hop := ia_ok pbk.p
    refine V_seq (fun K9 hK9 => ?_)
    refine V_sr T.mix (by kernel_rfl) (fun K10 hK10 => ?_)
    refine S_mv rfl ?_
    refine S_bin rfl rfl rfl ?_
    refine S_nil (hK10 _ _ (V_keep [0, 3, 17] (by simp only [proj, lk, reduceIte, Nat.reduceEqDiff]; rfl) ?_)); clear hK10
    refine V_condp rfl (fun c21 => ?_) (fun c21 => ?_)
    · skip
      refine V_skipk [0, 3] (by simp only [proj, lk, reduceIte, Nat.reduceEqDiff]; rfl) ?_
      refine hK9 _ _ ?_; clear hK9
      refine V_seq (fun K11 hK11 => ?_)
      refine V_block ?_
      refine V_reg T.mix (by kernel_rfl) ?_
      refine S_mv rfl ?_
      refine S_nc rfl ?_
      first | refine S_fa0 T.f75_5 rfl ?_ | refine S_fa T.f75_5 rfl ?_
      refine S_ldK T.ag56 rfl (fun K' hK' => ?_)
      simp (disch := omega) only [p0, p1, p2, p3, p4, p5, p6, p7, oP_some, Nat.add_zero]
      refine hK' _ ?_; clear hK' K'
      refine S_mv rfl ?_
      refine S_addN (265 + c) rfl rfl (by omega) (by omega) ?_
      first | refine S_ixn T.el56 rfl rfl (by omega) ?_ | refine S_ix1 T.el56 rfl rfl (by omega) (by omega) ?_ | refine S_ix T.el56 rfl rfl (by omega) (by omega) ?_
      refine S_st T.sz3 rfl rfl rfl rfl (by simp (disch := omega) only [hop]) ?_
      generalize hh : putH _ _ _ = h1
      have bph1 : B h1 (W.P + 2) (ia 273 (Huf.ups A (265 + c) (3))) 3 := by rw [← hh]; exact ia_put pbk.p _ _
      have hEh1 : Ext (fun z => z = W.P + 2) hk h1 := by rw [← hh]; exact Ext.put _ _ rfl
      clear hh
      refine S_nilk [0, 3] (by simp only [proj, lk, reduceIte, Nat.reduceEqDiff]; rfl) ?_
      refine hK11 _ _ ?_; clear hK11
      refine V_reg T.mix (by kernel_rfl) ?_
      refine S_mv rfl ?_
      first | refine S_add rfl rfl (by omega) (by omega) ?_ | refine S_bin rfl rfl rfl ?_
      refine S_as rfl ?_
      refine S_nilk [0, 3] (by simp only [proj, lk, reduceIte, Nat.reduceEqDiff]; rfl) ?_
      exact hK8 _ _ ⟨_, by omega, c + 1, h1, Huf.ups A (265 + c) 3, by omega, pbk.setp hEh1 bph1, fun j hj => by by_cases e : j = 265 + c; (rw [e, Huf.ups_eq, fix_at (by omega), if_neg (by omega), if_neg (by omega)]); (rw [Huf.ups_ne _ _ e]; exact hA j (by omega)), hEk.trans hEh1, rfl, rfl, rfl⟩
    · skip
      refine V_exitk [] rfl (by simp only [proj, lk, reduceIte, Nat.reduceEqDiff]; rfl) ?_
      -- end
      refine hR _ _ (ret0 rfl ?_)
      exact ⟨rfl, ⟨pbA.x, pbA.c, ia_cong pbA.p (fun j hj => hA j (by omega)), pbA.k, pbA.w⟩, hEk⟩
set_option maxHeartbeats 1600000 in
theorem fetch_spec (h : Heap) (W : WA) (cn pl co wi : Nat → Nat) (pb : PB h W cn pl co wi) (ua ub : HC) (ca : CB h W.XA ua) (cb : CB h W.XB ub) (fa fb : Nat → Nat) (ka : CK ua fa) (kb : CK ub fb) (hna : ua.n = 265) (hnb2 : ub.n = 8) (dPA : ∀ z, PT W.P z → ¬ CT W.XA z) (dPB : ∀ z, PT W.P z → ¬ CT W.XB z) (hua : ∀ i, i < 265 → 0 < cn i → 0 < fa i) (hub : ∀ c, c < 8 → 0 < cn (265 + c) → 0 < fb c) :
    FC Tryz.prog 132 (#[.pointer (some ⟨W.P, 0, none⟩)] : Array Value) h fun rv h' => rv = .tuple #[] ∧ ∃ co' wi', PB h' W cn pl co' wi' ∧ FE cn co' wi' fa fb ∧ Ext (fun z => z = W.P + 3 ∨ z = W.P + 4) h h' := by
  have pbk := pb
  try clear p0 p1 p2 p3 p4 p5 p6 p7
  obtain ⟨p0, p1, p2, p3, p4, p5, p6, p7⟩ := pq (pbk.x)
  have acn := ia_at pbk.c
  have hok3 := ia_ok pbk.k
  have hok4 := ia_ok pbk.w
  refine FC_of [(0, .pointer (some ⟨W.P, 0, none⟩))] Tryz.func132 rfl Tryz.ntmps132 (by simp) rfl (fun R hR => ?_)
  refine V_seq (fun K1 hK1 => ?_)
  refine V_sr T.mix (by kernel_rfl) (fun K2 hK2 => ?_)
  refine S_as rfl ?_
  refine S_nil (hK2 _ _ (V_keep [0, 2] (by simp only [proj, lk, reduceIte, Nat.reduceEqDiff]; rfl) ?_)); clear hK2
  refine V_block ?_
  refine V_loop (fun m l h' => ∃ (s : Nat) (hk : Heap) (A A4 : Nat → Nat), (s ≤ 265) ∧ (PB hk W cn pl A A4) ∧ (∀ i, i < s → 0 < cn i → A i = Huf.cd fa 265 i ∧ A4 i = fa i) ∧ (Ext (fun z => z = W.P + 3 ∨ z = W.P + 4) h hk) ∧ m = 265 - s ∧ l = [(0, .pointer (some ⟨W.P, 0, none⟩)), (2, .int .i64 (s : Int))] ∧ hk = h') _ ⟨0, h, co, wi, Nat.zero_le _, pb, fun j hj => by omega, Ext.refl _ _, rfl, rfl, rfl⟩ ?_
  rintro m l h' ⟨s, hk, A, A4, hs, pbA, hA, hEk, rfl, rfl, rfl⟩ K3 hK3
  have pbk := pbA
  try clear p0 p1 p2 p3 p4 p5 p6 p7
  obtain ⟨p0, p1, p2, p3, p4, p5, p6, p7⟩ := pq (pbk.x)
  have acn := ia_at pbk.c
  have hok3 := ia_ok pbk.k
  have hok4 := ia_ok pbk.w
  have cak := ca.ext hEk (fun z e y => dPA z (by rcases y with y | y <;> (rw [y]; exact ⟨by omega, by omega⟩)) e)
  refine V_seq (fun K4 hK4 => ?_)
  refine V_sr T.mix (by kernel_rfl) (fun K5 hK5 => ?_)
  refine S_mv rfl ?_
  refine S_bin rfl rfl rfl ?_
  refine S_nil (hK5 _ _ (V_keep [0, 2, 11] (by simp only [proj, lk, reduceIte, Nat.reduceEqDiff]; rfl) ?_)); clear hK5
  refine V_condp rfl (fun c28 => ?_) (fun c28 => ?_)
  · skip
    refine V_skipk [0, 2] (by simp only [proj, lk, reduceIte, Nat.reduceEqDiff]; rfl) ?_
    refine hK4 _ _ ?_; clear hK4
    refine V_seq (fun K6 hK6 => ?_)
    refine V_block ?_
    refine V_sr T.mix (by kernel_rfl) (fun K7 hK7 => ?_)
    refine S_mv rfl ?_
    refine S_nc rfl ?_
    first | refine S_fa0 T.f75_4 rfl ?_ | refine S_fa T.f75_4 rfl ?_
    refine S_ldK T.ag56 rfl (fun K' hK' => ?_)
    simp (disch := omega) only [p0, p1, p2, p3, p4, p5, p6, p7, acn, oP_some, Nat.add_zero]
    refine hK' _ ?_; clear hK' K'
    refine S_mv rfl ?_
    first | refine S_ixn T.el56 rfl rfl (by omega) ?_ | refine S_ix1 T.el56 rfl rfl (by omega) (by omega) ?_ | refine S_ix T.el56 rfl rfl (by omega) (by omega) ?_
    refine S_ldK T.ag3 rfl (fun K' hK' => ?_)
    simp (disch := omega) only [p0, p1, p2, p3, p4, p5, p6, p7, acn, oP_some, Nat.add_zero]
    refine hK' _ ?_; clear hK' K'
    refine S_bin rfl rfl rfl ?_
    refine S_nil (hK7 _ _ (V_keep [0, 2, 21] (by simp only [proj, lk, reduceIte, Nat.reduceEqDiff]; rfl) ?_)); clear hK7
    refine V_condp rfl (fun c29 => ?_) (fun c29 => ?_)
    · skip
      refine V_sr T.mix (by kernel_rfl) (fun K8 hK8 => ?_)
      refine S_mv rfl ?_
      refine S_nc rfl ?_
      first | refine S_fa0 T.f75_1 rfl ?_ | refine S_fa T.f75_1 rfl ?_
      refine S_ldK T.ag49 rfl (fun K' hK' => ?_)
      simp (disch := omega) only [p0, p1, p2, p3, p4, p5, p6, p7, acn, oP_some, Nat.add_zero]
      refine hK' _ ?_; clear hK' K'
      refine S_mv rfl ?_
      refine S_call T.hb163 rfl ?_
      have hcc := code_spec hk W.XA ua cak fa ka (s : Int)
      rw [hna, codF_ok ⟨by omega, by omega, by rw [Int.toNat_natCast]; exact hua s (by omega) (by omega)⟩, Int.toNat_natCast] at hcc
      refine FC.mono (hcc) ?_
      rintro v' h' ⟨rfl, rfl⟩
      unfold tri
      refine S_mv rfl ?_
      refine S_ex rfl rfl ?_
      refine S_ex rfl rfl ?_
      refine S_ex rfl rfl ?_
      refine S_as rfl ?_
      refine S_as rfl ?_
      refine S_as rfl ?_
      refine S_nil (hK8 _ _ (V_keep [0, 2, 3, 4] (by simp only [proj, lk, reduceIte, Nat.reduceEqDiff]; rfl) ?_)); clear hK8
      refine V_sr T.mix (by kernel_rfl) (fun K9 hK9 => ?_)
      refine S_mv rfl ?_
      refine S_nc rfl ?_
      first | refine S_fa0 T.f75_6 rfl ?_ | refine S_fa T.f75_6 rfl ?_
      refine S_ldK T.ag56 rfl (fun K' hK' => ?_)
      simp (disch := omega) only [p0, p1, p2, p3, p4, p5, p6, p7, acn, oP_some, Nat.add_zero]
      refine hK' _ ?_; clear hK' K'
      refine S_mv rfl ?_
      refine S_mv rfl ?_
      first | refine S_ixn T.el56 rfl rfl (by omega) ?_ | refine S_ix1 T.el56 rfl rfl (by omega) (by omega) ?_ | refine S_ix T.el56 rfl rfl (by omega) (by omega) ?_
      refine S_st T.sz3 rfl rfl rfl rfl (by simp (disch := omega) only [hok3]) ?_
      generalize hh : putH _ _ _ = h1
      have bkh1 : B h1 (W.P + 3) (ia 273 (Huf.ups A (s) (Huf.cd fa 265 s))) 3 := by rw [← hh]; exact ia_put pbk.k _ _
      have hEh1 : Ext (fun z => z = W.P + 3) hk h1 := by rw [← hh]; exact Ext.put _ _ rfl
      clear hh
      try clear p7 hok4
      have x1 := pbk.x.ext hEh1 (show ¬ (W.P = W.P + 3) by omega)
      have p7 := (pq x1).2.2.2.2.2.2.2
      have w1 := pbk.w.ext hEh1 (show ¬ (W.P + 4 = W.P + 3) by omega)
      have hok4 := ia_ok w1
      refine S_nil (hK9 _ _ (V_keep [0, 2, 4] (by simp only [proj, lk, reduceIte, Nat.reduceEqDiff]; rfl) ?_)); clear hK9
      refine V_reg T.mix (by kernel_rfl) ?_
      refine S_mv rfl ?_
      refine S_nc rfl ?_
      first | refine S_fa0 T.f75_7 rfl ?_ | refine S_fa T.f75_7 rfl ?_
      refine S_ldK T.ag56 rfl (fun K' hK' => ?_)
      simp (disch := omega) only [p0, p1, p2, p3, p4, p5, p6, p7, acn, oP_some, Nat.add_zero]
      refine hK' _ ?_; clear hK' K'
      refine S_mv rfl ?_
      refine S_mv rfl ?_
      first | refine S_ixn T.el56 rfl rfl (by omega) ?_ | refine S_ix1 T.el56 rfl rfl (by omega) (by omega) ?_ | refine S_ix T.el56 rfl rfl (by omega) (by omega) ?_
      refine S_st T.sz3 rfl rfl rfl rfl (by simp (disch := omega) only [hok4]) ?_
      generalize hh : putH _ _ _ = h2
      have bw2 : B h2 (W.P + 4) (ia 273 (Huf.ups A4 (s) (fa s))) 3 := by rw [← hh]; exact ia_put w1 _ _
      have hEh2 : Ext (fun z => z = W.P + 4) h1 h2 := by rw [← hh]; exact Ext.put _ _ rfl
      clear hh
      have pb2 : PB h2 W cn pl (Huf.ups A (s) (Huf.cd fa 265 s)) (Huf.ups A4 (s) (fa s)) := ⟨x1.ext hEh2 (show ¬ (W.P = W.P + 4) by omega), (pbk.c.ext hEh1 (show ¬ (W.P + 1 = W.P + 3) by omega)).ext hEh2 (show ¬ (W.P + 1 = W.P + 4) by omega), (pbk.p.ext hEh1 (show ¬ (W.P + 2 = W.P + 3) by omega)).ext hEh2 (show ¬ (W.P + 2 = W.P + 4) by omega), bkh1.ext hEh2 (show ¬ (W.P + 3 = W.P + 4) by omega), bw2⟩
      have hE12 : Ext (fun z => z = W.P + 3 ∨ z = W.P + 4) hk h2 := (hEh1.mono fun _ e => .inl e).trans (hEh2.mono fun _ e => .inr e)
      refine S_nilk [0, 2] (by simp only [proj, lk, reduceIte, Nat.reduceEqDiff]; rfl) ?_
      refine hK6 _ _ ?_; clear hK6
      refine V_reg T.mix (by kernel_rfl) ?_
      refine S_mv rfl ?_
      first | refine S_add rfl rfl (by omega) (by omega) ?_ | refine S_bin rfl rfl rfl ?_
      refine S_as rfl ?_
      refine S_nilk [0, 2] (by simp only [proj, lk, reduceIte, Nat.reduceEqDiff]; rfl) ?_
      exact hK3 _ _ ⟨_, by omega, s + 1, h2, _, _, by omega, pb2, fun j hj hp => by by_cases e : j = s; (rw [e, Huf.ups_eq, Huf.ups_eq]; exact ⟨rfl, rfl⟩); (rw [Huf.ups_ne _ _ e, Huf.ups_ne _ _ e]; exact hA j (by omega) hp), hEk.trans hE12, rfl, rfl, rfl⟩
    · skip
      refine V_skipk [0, 2] (by simp only [proj, lk, reduceIte, Nat.reduceEqDiff]; rfl) ?_
      refine hK6 _ _ ?_; clear hK6
      refine V_reg T.mix (by kernel_rfl) ?_
      refine S_mv rfl ?_
      first | refine S_add rfl rfl (by omega) (by omega) ?_ | refine S_bin rfl rfl rfl ?_
      refine S_as rfl ?_
      refine S_nilk [0, 2] (by simp only [proj, lk, reduceIte, Nat.reduceEqDiff]; rfl) ?_
      exact hK3 _ _ ⟨_, by omega, s + 1, hk, A, A4, by omega, pbA, fun j hj hp => by by_cases e : j = s; (rw [e] at hp; omega); (exact hA j (by omega) hp), hEk, rfl, rfl, rfl⟩
  · skip
    refine V_exitk [0] rfl (by simp only [proj, lk, reduceIte, Nat.reduceEqDiff]; rfl) ?_
    refine hK1 _ _ ?_; clear hK1
    refine V_sr T.mix (by kernel_rfl) (fun K10 hK10 => ?_)
    refine S_as rfl ?_
    refine S_nil (hK10 _ _ (V_keep [0, 6] (by simp only [proj, lk, reduceIte, Nat.reduceEqDiff]; rfl) ?_)); clear hK10
    refine V_block ?_
    refine V_loop (fun m l h' => ∃ (c : Nat) (hk : Heap) (A A4 : Nat → Nat), (c ≤ 8) ∧ (PB hk W cn pl A A4) ∧ (∀ i, i < 265 → 0 < cn i → A i = Huf.cd fa 265 i ∧ A4 i = fa i) ∧ (∀ i, i < c → 0 < cn (265 + i) → A (265 + i) = Huf.cd fb 8 i ∧ A4 (265 + i) = fb i) ∧ (Ext (fun z => z = W.P + 3 ∨ z = W.P + 4) h hk) ∧ m = 8 - c ∧ l = [(0, .pointer (some ⟨W.P, 0, none⟩)), (6, .int .i64 (c : Int))] ∧ hk = h') _ ⟨0, hk, A, A4, Nat.zero_le _, pbA, fun j hj => hA j (by omega), fun j hj => by omega, hEk, rfl, rfl, rfl⟩ ?_
    rintro m l h' ⟨c, hk, A, A4, hc, pbA, hA, hB, hEk, rfl, rfl, rfl⟩ K11 hK11
    have pbk := pbA
    try clear p0 p1 p2 p3 p4 p5 p6 p7
    obtain ⟨p0, p1, p2, p3, p4, p5, p6, p7⟩ := pq (pbk.x)
    have acn := ia_at pbk.c
    have hok3 := ia_ok pbk.k
    have hok4 := ia_ok pbk.w
    have cbk := cb.ext hEk (fun z e y => dPB z (by rcases y with y | y <;> (rw [y]; exact ⟨by omega, by omega⟩)) e)
    refine V_seq (fun K12 hK12 => ?_)
    refine V_sr T.mix (by kernel_rfl) (fun K13 hK13 => ?_)
    refine S_mv rfl ?_
    refine S_bin rfl rfl rfl ?_
    refine S_nil (hK13 _ _ (V_keep [0, 6, 47] (by simp only [proj, lk, reduceIte, Nat.reduceEqDiff]; rfl) ?_)); clear hK13
    refine V_condp rfl (fun c35 => ?_) (fun c35 => ?_)
    · skip
      refine V_skipk [0, 6] (by simp only [proj, lk, reduceIte, Nat.reduceEqDiff]; rfl) ?_
      refine hK12 _ _ ?_; clear hK12
      refine V_seq (fun K14 hK14 => ?_)
      refine V_block ?_
      refine V_sr T.mix (by kernel_rfl) (fun K15 hK15 => ?_)
      refine S_mv rfl ?_
      refine S_nc rfl ?_
      first | refine S_fa0 T.f75_4 rfl ?_ | refine S_fa T.f75_4 rfl ?_
      refine S_ldK T.ag56 rfl (fun K' hK' => ?_)
      simp (disch := omega) only [p0, p1, p2, p3, p4, p5, p6, p7, acn, oP_some, Nat.add_zero]
      refine hK' _ ?_; clear hK' K'
      refine S_mv rfl ?_
      refine S_addN (265 + c) rfl rfl (by omega) (by omega) ?_
      first | refine S_ixn T.el56 rfl rfl (by omega) ?_ | refine S_ix1 T.el56 rfl rfl (by omega) (by omega) ?_ | refine S_ix T.el56 rfl rfl (by omega) (by omega) ?_
      refine S_ldK T.ag3 rfl (fun K' hK' => ?_)
      simp (disch := omega) only [p0, p1, p2, p3, p4, p5, p6, p7, acn, oP_some, Nat.add_zero]
      refine hK' _ ?_; clear hK' K'
      refine S_bin rfl rfl rfl ?_
      refine S_nil (hK15 _ _ (V_keep [0, 6, 58] (by simp only [proj, lk, reduceIte, Nat.reduceEqDiff]; rfl) ?_)); clear hK15
      refine V_condp rfl (fun c36 => ?_) (fun c36 => ?_)
      · skip
        refine V_sr T.mix (by kernel_rfl) (fun K16 hK16 => ?_)
        refine S_mv rfl ?_
        refine S_nc rfl ?_
        first | refine S_fa0 T.f75_2 rfl ?_ | refine S_fa T.f75_2 rfl ?_
        refine S_ldK T.ag49 rfl (fun K' hK' => ?_)
        simp (disch := omega) only [p0, p1, p2, p3, p4, p5, p6, p7, acn, oP_some, Nat.add_zero]
        refine hK' _ ?_; clear hK' K'
        refine S_mv rfl ?_
        refine S_call T.hb163 rfl ?_
        have hcc := code_spec hk W.XB ub cbk fb kb (c : Int)
        rw [hnb2, codF_ok ⟨by omega, by omega, by rw [Int.toNat_natCast]; exact hub c (by omega) (by omega)⟩, Int.toNat_natCast] at hcc
        refine FC.mono (hcc) ?_
        rintro v' h' ⟨rfl, rfl⟩
        unfold tri
        refine S_mv rfl ?_
        refine S_ex rfl rfl ?_
        refine S_ex rfl rfl ?_
        refine S_ex rfl rfl ?_
        refine S_as rfl ?_
        refine S_as rfl ?_
        refine S_as rfl ?_
        refine S_nil (hK16 _ _ (V_keep [0, 6, 7, 8] (by simp only [proj, lk, reduceIte, Nat.reduceEqDiff]; rfl) ?_)); clear hK16
        refine V_sr T.mix (by kernel_rfl) (fun K17 hK17 => ?_)
        refine S_mv rfl ?_
        refine S_nc rfl ?_
        first | refine S_fa0 T.f75_6 rfl ?_ | refine S_fa T.f75_6 rfl ?_
        refine S_ldK T.ag56 rfl (fun K' hK' => ?_)
        simp (disch := omega) only [p0, p1, p2, p3, p4, p5, p6, p7, acn, oP_some, Nat.add_zero]
        refine hK' _ ?_; clear hK' K'
        refine S_mv rfl ?_
        refine S_addN (265 + c) rfl rfl (by omega) (by omega) ?_
        refine S_mv rfl ?_
        first | refine S_ixn T.el56 rfl rfl (by omega) ?_ | refine S_ix1 T.el56 rfl rfl (by omega) (by omega) ?_ | refine S_ix T.el56 rfl rfl (by omega) (by omega) ?_
        refine S_st T.sz3 rfl rfl rfl rfl (by simp (disch := omega) only [hok3]) ?_
        generalize hh : putH _ _ _ = h1
        have bkh1 : B h1 (W.P + 3) (ia 273 (Huf.ups A (265 + c) (Huf.cd fb 8 c))) 3 := by rw [← hh]; exact ia_put pbk.k _ _
        have hEh1 : Ext (fun z => z = W.P + 3) hk h1 := by rw [← hh]; exact Ext.put _ _ rfl
        clear hh
        try clear p7 hok4
        have x1 := pbk.x.ext hEh1 (show ¬ (W.P = W.P + 3) by omega)
        have p7 := (pq x1).2.2.2.2.2.2.2
        have w1 := pbk.w.ext hEh1 (show ¬ (W.P + 4 = W.P + 3) by omega)
        have hok4 := ia_ok w1
        refine S_nil (hK17 _ _ (V_keep [0, 6, 8] (by simp only [proj, lk, reduceIte, Nat.reduceEqDiff]; rfl) ?_)); clear hK17
        refine V_reg T.mix (by kernel_rfl) ?_
        refine S_mv rfl ?_
        refine S_nc rfl ?_
        first | refine S_fa0 T.f75_7 rfl ?_ | refine S_fa T.f75_7 rfl ?_
        refine S_ldK T.ag56 rfl (fun K' hK' => ?_)
        simp (disch := omega) only [p0, p1, p2, p3, p4, p5, p6, p7, acn, oP_some, Nat.add_zero]
        refine hK' _ ?_; clear hK' K'
        refine S_mv rfl ?_
        refine S_addN (265 + c) rfl rfl (by omega) (by omega) ?_
        refine S_mv rfl ?_
        first | refine S_ixn T.el56 rfl rfl (by omega) ?_ | refine S_ix1 T.el56 rfl rfl (by omega) (by omega) ?_ | refine S_ix T.el56 rfl rfl (by omega) (by omega) ?_
        refine S_st T.sz3 rfl rfl rfl rfl (by simp (disch := omega) only [hok4]) ?_
        generalize hh : putH _ _ _ = h2
        have bw2 : B h2 (W.P + 4) (ia 273 (Huf.ups A4 (265 + c) (fb c))) 3 := by rw [← hh]; exact ia_put w1 _ _
        have hEh2 : Ext (fun z => z = W.P + 4) h1 h2 := by rw [← hh]; exact Ext.put _ _ rfl
        clear hh
        have pb2 : PB h2 W cn pl (Huf.ups A (265 + c) (Huf.cd fb 8 c)) (Huf.ups A4 (265 + c) (fb c)) := ⟨x1.ext hEh2 (show ¬ (W.P = W.P + 4) by omega), (pbk.c.ext hEh1 (show ¬ (W.P + 1 = W.P + 3) by omega)).ext hEh2 (show ¬ (W.P + 1 = W.P + 4) by omega), (pbk.p.ext hEh1 (show ¬ (W.P + 2 = W.P + 3) by omega)).ext hEh2 (show ¬ (W.P + 2 = W.P + 4) by omega), bkh1.ext hEh2 (show ¬ (W.P + 3 = W.P + 4) by omega), bw2⟩
        have hE12 : Ext (fun z => z = W.P + 3 ∨ z = W.P + 4) hk h2 := (hEh1.mono fun _ e => .inl e).trans (hEh2.mono fun _ e => .inr e)
        refine S_nilk [0, 6] (by simp only [proj, lk, reduceIte, Nat.reduceEqDiff]; rfl) ?_
        refine hK14 _ _ ?_; clear hK14
        refine V_reg T.mix (by kernel_rfl) ?_
        refine S_mv rfl ?_
        first | refine S_add rfl rfl (by omega) (by omega) ?_ | refine S_bin rfl rfl rfl ?_
        refine S_as rfl ?_
        refine S_nilk [0, 6] (by simp only [proj, lk, reduceIte, Nat.reduceEqDiff]; rfl) ?_
        exact hK11 _ _ ⟨_, by omega, c + 1, h2, _, _, by omega, pb2, fun j hj hp => by rw [Huf.ups_ne _ _ (by omega), Huf.ups_ne _ _ (by omega)]; exact hA j hj hp, fun j hj hp => by by_cases e : j = c; (rw [e, Huf.ups_eq, Huf.ups_eq]; exact ⟨rfl, rfl⟩); (rw [Huf.ups_ne _ _ (by omega), Huf.ups_ne _ _ (by omega)]; exact hB j (by omega) hp), hEk.trans hE12, rfl, rfl, rfl⟩
      · skip
        refine V_skipk [0, 6] (by simp only [proj, lk, reduceIte, Nat.reduceEqDiff]; rfl) ?_
        refine hK14 _ _ ?_; clear hK14
        refine V_reg T.mix (by kernel_rfl) ?_
        refine S_mv rfl ?_
        first | refine S_add rfl rfl (by omega) (by omega) ?_ | refine S_bin rfl rfl rfl ?_
        refine S_as rfl ?_
        refine S_nilk [0, 6] (by simp only [proj, lk, reduceIte, Nat.reduceEqDiff]; rfl) ?_
        exact hK11 _ _ ⟨_, by omega, c + 1, hk, A, A4, by omega, pbA, hA, fun j hj hp => by by_cases e : j = c; (rw [e] at hp; omega); (exact hB j (by omega) hp), hEk, rfl, rfl, rfl⟩
    · skip
      refine V_exitk [] rfl (by simp only [proj, lk, reduceIte, Nat.reduceEqDiff]; rfl) ?_
      -- end
      refine hR _ _ (ret0 rfl ?_)
      exact ⟨rfl, A, A4, pbA, ⟨hA, fun j hj => hB j (by omega)⟩, hEk⟩
set_option maxHeartbeats 400000 in
theorem sym_spec (h : Heap) (W : WA) (cn pl co wi : Nat → Nat) (pb : PB h W cn pl co wi) (s : TS) (rt : BitW.RT h W.T W.tb s) (dPT : ∀ z, PT W.P z → z ≠ W.T ∧ z ≠ W.tb) (i : Nat) (hi : i < 273) :
    FC Tryz.prog 164 (#[.pointer (some ⟨W.P, 0, none⟩), .int .i64 (i : Int)] : Array Value) h fun rv h' => rv = .tuple #[] ∧ BitW.RT h' W.T W.tb (putS s (co i : Int) (wi i : Int)) ∧ Ext (fun z => z = W.T ∨ z = W.tb) h h' := by
  try clear p0 p1 p2 p3 p4 p5 p6 p7
  obtain ⟨p0, p1, p2, p3, p4, p5, p6, p7⟩ := pq (pb.x)
  have aco := ia_at pb.k
  have awi := ia_at pb.w
  refine FC_of [(0, .pointer (some ⟨W.P, 0, none⟩)), (1, .int .i64 (i : Int))] Tryz.func164 rfl Tryz.ntmps164 (by simp) rfl (fun R hR => ?_)
  refine V_reg T.mix (by kernel_rfl) ?_
  refine S_mv rfl ?_
  refine S_nc rfl ?_
  first | refine S_fa0 T.f75_0 rfl ?_ | refine S_fa T.f75_0 rfl ?_
  refine S_ldK T.ag47 rfl (fun K' hK' => ?_)
  simp (disch := omega) only [p0, p1, p2, p3, p4, p5, p6, p7, aco, awi, oP_some, Nat.add_zero]
  refine hK' _ ?_; clear hK' K'
  refine S_mv rfl ?_
  refine S_nc rfl ?_
  first | refine S_fa0 T.f75_6 rfl ?_ | refine S_fa T.f75_6 rfl ?_
  refine S_ldK T.ag56 rfl (fun K' hK' => ?_)
  simp (disch := omega) only [p0, p1, p2, p3, p4, p5, p6, p7, aco, awi, oP_some, Nat.add_zero]
  refine hK' _ ?_; clear hK' K'
  refine S_mv rfl ?_
  first | refine S_ixn T.el56 rfl rfl (by omega) ?_ | refine S_ix1 T.el56 rfl rfl (by omega) (by omega) ?_ | refine S_ix T.el56 rfl rfl (by omega) (by omega) ?_
  refine S_ldK T.ag3 rfl (fun K' hK' => ?_)
  simp (disch := omega) only [p0, p1, p2, p3, p4, p5, p6, p7, aco, awi, oP_some, Nat.add_zero]
  refine hK' _ ?_; clear hK' K'
  refine S_mv rfl ?_
  refine S_nc rfl ?_
  first | refine S_fa0 T.f75_7 rfl ?_ | refine S_fa T.f75_7 rfl ?_
  refine S_ldK T.ag56 rfl (fun K' hK' => ?_)
  simp (disch := omega) only [p0, p1, p2, p3, p4, p5, p6, p7, aco, awi, oP_some, Nat.add_zero]
  refine hK' _ ?_; clear hK' K'
  refine S_mv rfl ?_
  first | refine S_ixn T.el56 rfl rfl (by omega) ?_ | refine S_ix1 T.el56 rfl rfl (by omega) (by omega) ?_ | refine S_ix T.el56 rfl rfl (by omega) (by omega) ?_
  refine S_ldK T.ag3 rfl (fun K' hK' => ?_)
  simp (disch := omega) only [p0, p1, p2, p3, p4, p5, p6, p7, aco, awi, oP_some, Nat.add_zero]
  refine hK' _ ?_; clear hK' K'
  refine S_call T.hb96 rfl ?_
  refine FC.mono (BitW.put_spec h W.T W.tb _ rt ((co i : Int)) ((wi i : Int))) ?_
  rintro v' h1 ⟨rfl, rth1, hEh1⟩
  refine S_nilk [] (by simp only [proj, lk, reduceIte, Nat.reduceEqDiff]; rfl) ?_
  -- end
  refine hR _ _ (ret0 rfl ?_)
  exact ⟨rfl, rth1, hEh1⟩
set_option maxHeartbeats 1600000 in
theorem tokens_spec (h : Heap) (W : WA) (cn pl co wi : Nat → Nat) (pb : PB h W cn pl co wi) (s : TS) (rt : BitW.RT h W.T W.tb s) (dPT : ∀ z, PT W.P z → z ≠ W.T ∧ z ≠ W.tb) (nb : Nat) (Q : List Lz.Tok) (hT : LzW.TokB h nb Q) (hnb : ¬ PT W.P nb) (tk : ∀ t, t ∈ Q → Tk t) (hTl : Q.length ≤ 256) (fa fb : Nat → Nat) (fe : FE cn co wi fa fb) (hcn : cn = cnT Q) (hQT : nb ≠ W.T ∧ nb ≠ W.tb) :
    FC Tryz.prog 133 (#[.pointer (some ⟨W.P, 0, none⟩), .slice (some ⟨nb, 0, none⟩) Q.length Q.length] : Array Value) h fun rv h' => rv = .tuple #[] ∧ BitW.RT h' W.T W.tb (wr s (bp fa fb Q)) ∧ Ext (fun z => z = W.T ∨ z = W.tb) h h' := by
  have t0 : (0 : Nat) = 0 := rfl
  have t1 := t0
  have t2 := t0
  try clear p0 p1 p2 p3 p4 p5 p6 p7
  obtain ⟨p0, p1, p2, p3, p4, p5, p6, p7⟩ := pq (pb.x)
  have nT : ∀ z, ¬ (z = W.T ∨ z = W.tb) ↔ z ≠ W.T ∧ z ≠ W.tb := fun z => not_or
  refine FC_of [(0, .pointer (some ⟨W.P, 0, none⟩)), (1, .slice (some ⟨nb, 0, none⟩) Q.length Q.length)] Tryz.func133 rfl Tryz.ntmps133 (by simp) rfl (fun R hR => ?_)
  refine V_seq (fun K1 hK1 => ?_)
  refine V_sr T.mix (by kernel_rfl) (fun K2 hK2 => ?_)
  refine S_as rfl ?_
  refine S_nil (hK2 _ _ (V_keep [0, 1, 4] (by simp only [proj, lk, reduceIte, Nat.reduceEqDiff]; rfl) ?_)); clear hK2
  refine V_block ?_
  refine V_loop (fun m l h' => ∃ (k : Nat) (hk : Heap), (k ≤ Q.length) ∧ (BitW.RT hk W.T W.tb (wr s (tps fa fb (Q.take k)))) ∧ (Ext (fun z => z = W.T ∨ z = W.tb) h hk) ∧ m = Q.length - k ∧ l = [(0, .pointer (some ⟨W.P, 0, none⟩)), (1, .slice (some ⟨nb, 0, none⟩) Q.length Q.length), (4, .int .i64 (k : Int))] ∧ hk = h') _ ⟨0, h, Nat.zero_le _, rt, Ext.refl _ _, rfl, rfl, rfl⟩ ?_
  rintro m l h' ⟨k, hk, hk_, rtk, hEk, rfl, rfl, rfl⟩ K3 hK3
  have pbk := pb.ext hEk (fun z e => (nT _).2 (dPT z e))
  try clear p0 p1 p2 p3 p4 p5 p6 p7
  obtain ⟨p0, p1, p2, p3, p4, p5, p6, p7⟩ := pq (pbk.x)
  refine V_seq (fun K4 hK4 => ?_)
  refine V_sr T.mix (by kernel_rfl) (fun K5 hK5 => ?_)
  refine S_mv rfl ?_
  refine S_mv rfl ?_
  refine S_lenl T.el71 rfl ?_
  refine S_bin rfl rfl rfl ?_
  refine S_nil (hK5 _ _ (V_keep [0, 1, 4, 14] (by simp only [proj, lk, reduceIte, Nat.reduceEqDiff]; rfl) ?_)); clear hK5
  refine V_condp rfl (fun c51 => ?_) (fun c51 => ?_)
  · skip
    clear t0 t1 t2
    have hTk : LzW.TokB hk nb Q := B.ext hT hEk ((nT _).2 hQT)
    obtain ⟨t, tm, tks, t0, t1, t2⟩ := tok_at hTk (k := k) (by omega)
    have htk := tk t tm
    refine V_skipk [0, 1, 4] (by simp only [proj, lk, reduceIte, Nat.reduceEqDiff]; rfl) ?_
    refine hK4 _ _ ?_; clear hK4
    refine V_seq (fun K6 hK6 => ?_)
    refine V_block ?_
    refine V_sr T.mix (by kernel_rfl) (fun K7 hK7 => ?_)
    refine S_mv rfl ?_
    refine S_mv rfl ?_
    first | refine S_ixmn T.el71 rfl rfl (by omega) ?_ | refine S_ixm T.el71 rfl rfl (by omega) (by omega) ?_ | refine S_ix T.el71 rfl rfl (by omega) (by omega) ?_
    first | refine S_fa0 T.f174_0 rfl ?_ | refine S_fa T.f174_0 rfl ?_
    refine S_ldK T.ag3 rfl (fun K' hK' => ?_)
    simp (disch := omega) only [p0, p1, p2, p3, p4, p5, p6, p7, t0, t1, t2, oP_some, Nat.add_zero]
    refine hK' _ ?_; clear hK' K'
    refine S_as rfl ?_
    refine S_nil (hK7 _ _ (V_keep [0, 1, 4, 5] (by simp only [proj, lk, reduceIte, Nat.reduceEqDiff]; rfl) ?_)); clear hK7
    refine V_sr T.mix (by kernel_rfl) (fun K8 hK8 => ?_)
    refine S_mv rfl ?_
    refine S_bin rfl rfl rfl ?_
    refine S_nil (hK8 _ _ (V_keep [0, 1, 4, 5, 23] (by simp only [proj, lk, reduceIte, Nat.reduceEqDiff]; rfl) ?_)); clear hK8
    refine V_condp rfl (fun c53 => ?_) (fun c53 => ?_)
    · skip
      obtain ⟨b, hb, rfl⟩ : ∃ b : Nat, b < 256 ∧ t = ⟨0, 0, (b : Int)⟩ := by rcases htk with q | ⟨n, d, h1, h2, h3, h4, e⟩; (exact q); (rw [e] at c53; simp only [] at c53; omega)
      refine V_reg T.mix (by kernel_rfl) ?_
      refine S_mv rfl ?_
      refine S_mv rfl ?_
      refine S_mv rfl ?_
      first | refine S_ixmn T.el71 rfl rfl (by omega) ?_ | refine S_ixm T.el71 rfl rfl (by omega) (by omega) ?_ | refine S_ix T.el71 rfl rfl (by omega) (by omega) ?_
      first | refine S_fa0 T.f174_2 rfl ?_ | refine S_fa T.f174_2 rfl ?_
      refine S_ldK T.ag3 rfl (fun K' hK' => ?_)
      simp (disch := omega) only [p0, p1, p2, p3, p4, p5, p6, p7, t0, t1, t2, oP_some, Nat.add_zero]
      refine hK' _ ?_; clear hK' K'
      refine S_call T.hb164 rfl ?_
      refine FC.mono (sym_spec hk W cn pl co wi pbk _ rtk dPT (b) (by omega)) ?_
      rintro v' h1 ⟨rfl, rth1, hEh1⟩
      have hq := fe.a b (by omega) (by have h9 := cnT_mem tm b; rw [cn1_lit, if_pos rfl] at h9; rw [hcn]; omega)
      rw [hq.1, hq.2] at rth1
      refine S_nilk [0, 1, 4] (by simp only [proj, lk, reduceIte, Nat.reduceEqDiff]; rfl) ?_
      refine hK6 _ _ ?_; clear hK6
      refine V_reg T.mix (by kernel_rfl) ?_
      refine S_mv rfl ?_
      first | refine S_add rfl rfl (by omega) (by omega) ?_ | refine S_bin rfl rfl rfl ?_
      refine S_as rfl ?_
      refine S_nilk [0, 1, 4] (by simp only [proj, lk, reduceIte, Nat.reduceEqDiff]; rfl) ?_
      exact hK3 _ _ ⟨_, by omega, k + 1, h1, by omega, rth1.eq (by rw [tks, tps_snoc, tp_lit, wr_snoc]; rfl), hEk.trans hEh1, rfl, rfl, rfl⟩
    · skip
      obtain ⟨n, d, hn1, hn2, hd1, hd2, rfl⟩ : ∃ n d : Nat, 3 ≤ n ∧ n ≤ 10 ∧ 1 ≤ d ∧ d ≤ 16 ∧ t = ⟨(n : Int), (d : Int), 0⟩ := by rcases htk with ⟨b, hb, e⟩ | q; (exfalso; exact c53 (by rw [e])); (exact q)
      refine V_sr T.mix (by kernel_rfl) (fun K9 hK9 => ?_)
      refine S_mv rfl ?_
      refine S_call T.hb124 rfl ?_
      refine FC.mono (lensym_spec hk n (by omega)) ?_
      rintro v' h' ⟨rfl, rfl⟩
      refine S_as rfl ?_
      refine S_nil (hK9 _ _ (V_keep [0, 1, 4, 6] (by simp only [proj, lk, reduceIte, Nat.reduceEqDiff]; rfl) ?_)); clear hK9
      refine V_sr T.mix (by kernel_rfl) (fun K10 hK10 => ?_)
      refine S_mv rfl ?_
      refine S_mv rfl ?_
      refine S_call T.hb164 rfl ?_
      refine FC.mono (sym_spec hk W cn pl co wi pbk _ rtk dPT (n + 254) (by omega)) ?_
      rintro v' h1 ⟨rfl, rth1, hEh1⟩
      have hq := fe.a (n + 254) (by omega) (by have h9 := cnT_mem tm (n + 254); rw [cn1_dup _ _ (by omega), if_pos rfl] at h9; rw [hcn]; omega)
      rw [hq.1, hq.2] at rth1
      rw [← cell_ext hEh1 (B.lt hTk) ((nT _).2 hQT)] at t1
      have pb1 := pbk.ext hEh1 (fun z e => (nT _).2 (dPT z e))
      refine S_nil (hK10 _ _ (V_keep [0, 1, 4] (by simp only [proj, lk, reduceIte, Nat.reduceEqDiff]; rfl) ?_)); clear hK10
      refine V_sr T.mix (by kernel_rfl) (fun K11 hK11 => ?_)
      refine S_mv rfl ?_
      refine S_mv rfl ?_
      first | refine S_ixmn T.el71 rfl rfl (by omega) ?_ | refine S_ixm T.el71 rfl rfl (by omega) (by omega) ?_ | refine S_ix T.el71 rfl rfl (by omega) (by omega) ?_
      first | refine S_fa0 T.f174_1 rfl ?_ | refine S_fa T.f174_1 rfl ?_
      refine S_ldK T.ag3 rfl (fun K' hK' => ?_)
      simp (disch := omega) only [p0, p1, p2, p3, p4, p5, p6, p7, t0, t1, t2, oP_some, Nat.add_zero]
      refine hK' _ ?_; clear hK' K'
      refine S_as rfl ?_
      refine S_nil (hK11 _ _ (V_keep [0, 1, 4, 7] (by simp only [proj, lk, reduceIte, Nat.reduceEqDiff]; rfl) ?_)); clear hK11
      refine V_sr T.mix (by kernel_rfl) (fun K12 hK12 => ?_)
      refine S_mv rfl ?_
      refine S_call T.hb101 rfl ?_
      refine FC.mono (distcode_spec h1 d (by omega) (by omega)) ?_
      rintro v' h' ⟨rfl, rfl⟩
      obtain ⟨dc1, dc2, dc3, dc4⟩ := dC_is (d := d) (by omega) (by omega)
      refine S_as rfl ?_
      refine S_nil (hK12 _ _ (V_keep [0, 1, 4, 7, 8] (by simp only [proj, lk, reduceIte, Nat.reduceEqDiff]; rfl) ?_)); clear hK12
      refine V_sr T.mix (by kernel_rfl) (fun K13 hK13 => ?_)
      refine S_mv rfl ?_
      refine S_mv rfl ?_
      refine S_addN (265 + dC d) rfl rfl (by omega) (by omega) ?_
      refine S_call T.hb164 rfl ?_
      refine FC.mono (sym_spec h1 W cn pl co wi pb1 _ rth1 dPT (265 + dC d) (by omega)) ?_
      rintro v' h2 ⟨rfl, rth2, hEh2⟩
      have hq2 := fe.b (dC d) dc1 (by have h9 := cnT_mem tm (265 + dC d); rw [cn1_dup _ _ (by omega), if_pos (rfl : 265 + dC d = 265 + dC d)] at h9; rw [hcn]; omega)
      rw [hq2.1, hq2.2] at rth2
      have pb2 := pb1.ext hEh2 (fun z e => (nT _).2 (dPT z e))
      try clear p0 p1 p2 p3 p4 p5 p6 p7
      obtain ⟨p0, p1, p2, p3, p4, p5, p6, p7⟩ := pq (pb2.x)
      refine S_nil (hK13 _ _ (V_keep [0, 1, 4, 7, 8] (by simp only [proj, lk, reduceIte, Nat.reduceEqDiff]; rfl) ?_)); clear hK13
      refine V_sr T.mix (by kernel_rfl) (fun K14 hK14 => ?_)
      refine S_mv rfl ?_
      refine S_call T.hb108 rfl ?_
      refine FC.mono (distbase_spec h2 (dC d) dc1) ?_
      rintro v' h' ⟨rfl, rfl⟩
      refine S_mv rfl ?_
      refine S_ex rfl rfl ?_
      refine S_ex rfl rfl ?_
      refine S_as rfl ?_
      refine S_as rfl ?_
      refine S_nil (hK14 _ _ (V_keep [0, 1, 4, 7, 9, 10] (by simp only [proj, lk, reduceIte, Nat.reduceEqDiff]; rfl) ?_)); clear hK14
      refine V_sr T.mix (by kernel_rfl) (fun K15 hK15 => ?_)
      refine S_mv rfl ?_
      refine S_bin rfl rfl rfl ?_
      refine S_nil (hK15 _ _ (V_keep [0, 1, 4, 7, 9, 10, 53] (by simp only [proj, lk, reduceIte, Nat.reduceEqDiff]; rfl) ?_)); clear hK15
      refine V_condp rfl (fun c62 => ?_) (fun c62 => ?_)
      · skip
        refine V_reg T.mix (by kernel_rfl) ?_
        refine S_mv rfl ?_
        refine S_nc rfl ?_
        first | refine S_fa0 T.f75_0 rfl ?_ | refine S_fa T.f75_0 rfl ?_
        refine S_ldK T.ag47 rfl (fun K' hK' => ?_)
        simp (disch := omega) only [p0, p1, p2, p3, p4, p5, p6, p7, t0, t1, t2, oP_some, Nat.add_zero]
        refine hK' _ ?_; clear hK' K'
        refine S_mv rfl ?_
        refine S_mv rfl ?_
        refine S_subN (d - dB (dC d)) rfl rfl (by omega) (by omega) ?_
        refine S_mv rfl ?_
        refine S_call T.hb96 rfl ?_
        refine FC.mono (BitW.put_spec h2 W.T W.tb _ rth2 (((d - dB (dC d) : Nat) : Int)) ((dM (dC d) : Int))) ?_
        rintro v' h3 ⟨rfl, rth3, hEh3⟩
        refine S_nilk [0, 1, 4] (by simp only [proj, lk, reduceIte, Nat.reduceEqDiff]; rfl) ?_
        refine hK6 _ _ ?_; clear hK6
        refine V_reg T.mix (by kernel_rfl) ?_
        refine S_mv rfl ?_
        first | refine S_add rfl rfl (by omega) (by omega) ?_ | refine S_bin rfl rfl rfl ?_
        refine S_as rfl ?_
        refine S_nilk [0, 1, 4] (by simp only [proj, lk, reduceIte, Nat.reduceEqDiff]; rfl) ?_
        exact hK3 _ _ ⟨_, by omega, k + 1, h3, by omega, rth3.eq (by rw [tks, tps_snoc, tp_dup _ _ _ (by omega), wr_app]; rfl), ((hEk.trans hEh1).trans hEh2).trans hEh3, rfl, rfl, rfl⟩
      · skip
        refine V_skipk [0, 1, 4] (by simp only [proj, lk, reduceIte, Nat.reduceEqDiff]; rfl) ?_
        refine hK6 _ _ ?_; clear hK6
        refine V_reg T.mix (by kernel_rfl) ?_
        refine S_mv rfl ?_
        first | refine S_add rfl rfl (by omega) (by omega) ?_ | refine S_bin rfl rfl rfl ?_
        refine S_as rfl ?_
        refine S_nilk [0, 1, 4] (by simp only [proj, lk, reduceIte, Nat.reduceEqDiff]; rfl) ?_
        have hm0 : dM (dC d) = 0 := by omega
        rw [hm0] at dc3
        have hd0 : d - dB (dC d) = 0 := by omega
        exact hK3 _ _ ⟨_, by omega, k + 1, h2, by omega, rth2.eq (by rw [tks, tps_snoc, tp_dup _ _ _ (by omega), wr_app, hm0, hd0]; exact (put_0 rth2.ok).symm), (hEk.trans hEh1).trans hEh2, rfl, rfl, rfl⟩
  · skip
    refine V_exitk [0] rfl (by simp only [proj, lk, reduceIte, Nat.reduceEqDiff]; rfl) ?_
    refine hK1 _ _ ?_; clear hK1
    refine V_reg T.mix (by kernel_rfl) ?_
    refine S_mv rfl ?_
    refine S_call T.hb164 rfl ?_
    refine FC.mono (sym_spec hk W cn pl co wi pbk _ rtk dPT (256) (by omega)) ?_
    rintro v' h1 ⟨rfl, rth1, hEh1⟩
    have hq := fe.a 256 (by omega) (by rw [hcn]; exact cnT_256 _)
    rw [hq.1, hq.2] at rth1
    refine S_nilk [] (by simp only [proj, lk, reduceIte, Nat.reduceEqDiff]; rfl) ?_
    -- end
    refine hR _ _ (ret0 rfl ?_)
    have hkQ : k = Q.length := by omega
    rw [hkQ, List.take_length] at rth1
    exact ⟨rfl, rth1.eq (by rw [bp_tps, wr_snoc]; rfl), hEk.trans hEh1⟩
end Go.Proofs.Qxb6500404aGreat
