import Derived.Test.Qxb6500408aWg
set_option linter.unusedVariables false
set_option linter.unusedSimpArgs false
namespace Go.Proofs.Qxb6500408a
open Go.Eng Go.Lz

theorem DI.ext {base : Nat} {h h' : Heap} {D : Nat} {A : MA} {t : DS} {st : MS} {ts : List Tok} (hI : DI base h D A t st ts) (he : Ext (fun _ => False) h h') : DI base h' D A t st ts :=
  ⟨hI.M.ext he (fun _ _ f => f), hI.K.ext he (hI.K.s.ext he (fun f => f)) (fun _ f => f.elim) (fun _ _ => rfl) rfl rfl rfl, hI.ri, hI.n256, hI.ax.ext he (fun _ _ f => f), hI.am.ext he (fun _ _ f => f), hI.tl, hI.nx, hI.pr, hI.lo, hI.lx, hI.DA, hI.nm⟩
theorem DI.put {base : Nat} {h h' : Heap} {D : Nat} {A : MA} {t t' : DS} {st : MS} {ts : List Tok} (hI : DI base h D A t st ts) (he : Ext (fun b => b = D) h h') (hS : B h' D (dcells t') 35) (e1 : t'.x = t.x) (e2 : t'.m = t.m) (e3 : t'.old = t.old) (e4 : t'.far = t.far) (e5 : t'.held = t.held) (e6 : t'.n = t.n) (e7 : t'.lid = t.lid) : DI base h' D A t' st ts := by
  refine ⟨hI.M.ext he (fun b hb e => hI.DA (e ▸ hb)), hI.K.ext he hS (fun b e => .inl (.inl e)) (fun i _ => by rw [e3]) e4 e5 e6, hI.ri, hI.n256, ?_, ?_, hI.tl, ?_, by rw [e7]; exact hI.pr, hI.lo, ?_, hI.DA, ?_⟩
  · rw [e1]; exact hI.ax.ext he (fun b hb e => (hI.nx b hb).1 (.inl e))
  · rw [e2]; exact hI.am.ext he (fun b hb e => hI.nm b hb (.inl e))
  · rw [e1]; intro b hb; refine ⟨(hI.nx b hb).1, ?_⟩; have := (hI.nx b hb).2; unfold Away at *; rw [e3, e4, e5]; exact this
  · rw [e1]; exact hI.lx
  · rw [e2]; exact hI.nm
set_option maxHeartbeats 400000 in
theorem lengthen_spec (r s : ByteArray) (h : Heap) (hr : r.size ≤ 9223372036854775807) :
    FC Try.prog 15 (#[.string r, .string s, .int .i64 256] : Array Value) h fun v h' => (∃ u, v = .string u ∧ u.size ≤ max r.size 257) ∧ h = h' := by
  refine FC_of [(0, .string r), (1, .string s), (2, .int .i64 256)] Try.func15 rfl Try.ntmps15 (by simp) rfl (fun R hR => ?_)
  refine V_sr T.mix (by kernel_rfl) (fun K1 hK1 => ?_)
  refine S_as rfl ?_
  refine S_nil (hK1 _ _ (V_keep [0, 1, 2] (by simp only [proj, lk, reduceIte, Nat.reduceEqDiff]; rfl) ?_)); clear hK1
  refine V_sr T.mix (by kernel_rfl) (fun K2 hK2 => ?_)
  refine S_mv rfl ?_
  first | refine S_add rfl rfl (by omega) (by omega) ?_ | refine S_bin rfl rfl rfl ?_
  refine S_mv rfl ?_
  refine S_lens T.kd9 rfl ?_
  first | refine S_sub rfl rfl (by omega) (by omega) ?_ | refine S_bin rfl rfl rfl ?_
  refine S_as rfl ?_
  refine S_nil (hK2 _ _ (V_keep [0, 1, 7] (by simp only [proj, lk, reduceIte, Nat.reduceEqDiff]; rfl) ?_)); clear hK2
  refine V_seq (fun K3 hK3 => ?_)
  refine V_sr T.mix (by kernel_rfl) (fun K4 hK4 => ?_)
  refine S_mv rfl ?_
  refine S_bin rfl rfl rfl ?_
  refine S_nil (hK4 _ _ (V_keep [0, 1, 7, 14] (by simp only [proj, lk, reduceIte, Nat.reduceEqDiff]; rfl) ?_)); clear hK4
  refine V_condp rfl (fun c51 => ?_) (fun c51 => ?_)
  · skip
    refine V_sr T.mix (by kernel_rfl) (fun K5 hK5 => ?_)
    refine S_mv rfl ?_
    refine S_as rfl ?_
    refine S_nil (hK5 _ _ (V_keep [6] (by simp only [proj, lk, reduceIte, Nat.reduceEqDiff]; rfl) ?_)); clear hK5
    refine V_ret ?_
    refine hR _ _ (ret1 rfl rfl ?_)
    exact ⟨⟨_, rfl, by omega⟩, rfl⟩
  · skip
    refine V_skipk [0, 1, 7] (by simp only [proj, lk, reduceIte, Nat.reduceEqDiff]; rfl) ?_
    refine hK3 _ _ ?_; clear hK3
    refine V_seq (fun K6 hK6 => ?_)
    refine V_sr T.mix (by kernel_rfl) (fun K7 hK7 => ?_)
    refine S_mv rfl ?_
    refine S_lens T.kd9 rfl ?_
    refine S_mv rfl ?_
    refine S_bin rfl rfl rfl ?_
    refine S_nil (hK7 _ _ (V_keep [0, 1, 7, 19] (by simp only [proj, lk, reduceIte, Nat.reduceEqDiff]; rfl) ?_)); clear hK7
    refine V_condp rfl (fun c54 => ?_) (fun c54 => ?_)
    · skip
      refine V_reg T.mix (by kernel_rfl) ?_
      refine S_mv rfl ?_
      refine S_mv rfl ?_
      refine S_sl rfl rfl rfl (sliceV_strhi T.kd9 (by omega) (by omega)) ?_
      have hsz : (s.extract 0 (256 + 1 - (r.size : Int)).toNat).size ≤ 257 - r.size := by rw [ByteArray.size_extract]; omega
      refine S_as rfl ?_
      refine S_nilk [0, 1] (by simp only [proj, lk, reduceIte, Nat.reduceEqDiff]; rfl) ?_
      refine hK6 _ _ ?_; clear hK6
      refine V_sr T.mix (by kernel_rfl) (fun K8 hK8 => ?_)
      refine S_mv rfl ?_
      refine S_mv rfl ?_
      refine S_bin rfl rfl (strV_add (by omega)) ?_
      refine S_as rfl ?_
      refine S_nil (hK8 _ _ (V_keep [6] (by simp only [proj, lk, reduceIte, Nat.reduceEqDiff]; rfl) ?_)); clear hK8
      refine V_ret ?_
      refine hR _ _ (ret1 rfl rfl ?_)
      exact ⟨⟨_, rfl, by rw [ByteArray.size_append]; omega⟩, rfl⟩
    · skip
      refine V_skipk [0, 1] (by simp only [proj, lk, reduceIte, Nat.reduceEqDiff]; rfl) ?_
      refine hK6 _ _ ?_; clear hK6
      refine V_sr T.mix (by kernel_rfl) (fun K9 hK9 => ?_)
      refine S_mv rfl ?_
      refine S_mv rfl ?_
      refine S_bin rfl rfl (strV_add (by omega)) ?_
      refine S_as rfl ?_
      refine S_nil (hK9 _ _ (V_keep [6] (by simp only [proj, lk, reduceIte, Nat.reduceEqDiff]; rfl) ?_)); clear hK9
      refine V_ret ?_
      refine hR _ _ (ret1 rfl rfl ?_)
      exact ⟨⟨_, rfl, by rw [ByteArray.size_append]; omega⟩, rfl⟩
set_option maxHeartbeats 400000 in
theorem run_spec (r : ByteArray) (c times : Int) (h : Heap) (hr : r.size ≤ 9223372036854775807) :
    FC Try.prog 16 (#[.string r, .int .u8 c, .int .i64 times] : Array Value) h fun v h' => (∃ u, v = .string u ∧ u.size ≤ max r.size 257) ∧ Ext (fun _ => False) h h' := by
  refine FC_of [(0, .string r), (1, .int .u8 c), (2, .int .i64 times)] Try.func16 rfl Try.ntmps16 (by simp) rfl (fun R hR => ?_)
  refine V_sr T.mix (by kernel_rfl) (fun K1 hK1 => ?_)
  refine S_as rfl ?_
  refine S_nil (hK1 _ _ (V_keep [0, 1, 2] (by simp only [proj, lk, reduceIte, Nat.reduceEqDiff]; rfl) ?_)); clear hK1
  refine V_sr T.mix (by kernel_rfl) (fun K2 hK2 => ?_)
  refine S_mk T.ei50 rfl rfl (by omega) (by omega) (by omega) (by omega) ?_
  simp only [show Int.toNat 16 = 16 from rfl, Nat.mul_one, mkZ_one]
  generalize hh : Array.push h _ = h1
  have hB1 : B h1 h.size (arr 16 fun j => .int .u8 (if j < 0 then c else 0)) 5 := by rw [← hh]; exact (B.new h _ 5).cong (arr_ext fun j _ => by simp)
  have hE1 : Ext (fun _ => False) h h1 := by rw [← hh]; exact Ext.push _ _ _
  clear hh
  refine S_as rfl ?_
  refine S_nil (hK2 _ _ (V_keep [0, 1, 2, 7] (by simp only [proj, lk, reduceIte, Nat.reduceEqDiff]; rfl) ?_)); clear hK2
  refine V_seq (fun K3 hK3 => ?_)
  refine V_sr T.mix (by kernel_rfl) (fun K4 hK4 => ?_)
  refine S_as rfl ?_
  refine S_nil (hK4 _ _ (V_keep [0, 1, 2, 7, 8] (by simp only [proj, lk, reduceIte, Nat.reduceEqDiff]; rfl) ?_)); clear hK4
  refine V_block ?_
  refine V_loop (fun m l h' => ∃ (k : Nat) (hk : Heap), (k ≤ 16) ∧ (B hk h.size (arr 16 fun j => .int .u8 (if j < k then c else 0)) 5) ∧ (Ext (fun _ => False) h hk) ∧ m = 16 - k ∧ l = [(0, .string r), (1, .int .u8 c), (2, .int .i64 times), (7, .slice (some ⟨h.size, 0, none⟩) 16 16), (8, .int .i64 k)] ∧ hk = h') _ ⟨0, h1, by omega, hB1, hE1, rfl, rfl, rfl⟩ ?_
  rintro m l h' ⟨k, hk, hk16, hBk, hEk, rfl, rfl, rfl⟩ K5 hK5
  refine V_seq (fun K6 hK6 => ?_)
  refine V_sr T.mix (by kernel_rfl) (fun K7 hK7 => ?_)
  refine S_mv rfl ?_
  refine S_bin rfl rfl rfl ?_
  refine S_nil (hK7 _ _ (V_keep [0, 1, 2, 7, 8, 14] (by simp only [proj, lk, reduceIte, Nat.reduceEqDiff]; rfl) ?_)); clear hK7
  refine V_condp rfl (fun c245 => ?_) (fun c245 => ?_)
  · skip
    refine V_skipk [0, 1, 2, 7, 8] (by simp only [proj, lk, reduceIte, Nat.reduceEqDiff]; rfl) ?_
    refine hK6 _ _ ?_; clear hK6
    refine V_seq (fun K8 hK8 => ?_)
    refine V_block ?_
    refine V_reg T.mix (by kernel_rfl) ?_
    refine S_mv rfl ?_
    refine S_mv rfl ?_
    refine S_mv rfl ?_
    first | refine S_ixn T.el50 rfl rfl (by omega) ?_ | refine S_ix1 T.el50 rfl rfl (by omega) (by omega) ?_ | refine S_ix T.el50 rfl rfl (by omega) (by omega) ?_
    refine S_st T.sz5 rfl rfl rfl rfl (by simp (disch := omega) only [hBk.okA]) ?_
    generalize hh : putH _ _ _ = h2
    have hB2 : B h2 h.size (arr 16 fun j => .int .u8 (if j < k + 1 then c else 0)) 5 := by rw [← hh]; exact (hBk.putA k _).cong (arr_ext fun j _ => by
      by_cases e : j = k
      · rw [if_pos e, if_pos (by omega)]
      · rw [if_neg e]; congr 1; by_cases e2 : j < k
        · rw [if_pos e2, if_pos (by omega)]
        · rw [if_neg e2, if_neg (by omega)])
    have hE2 : Ext (fun _ => False) h h2 := by rw [← hh]; exact hEk.putn (Nat.le_refl _)
    clear hh
    refine S_nilk [0, 1, 2, 7, 8] (by simp only [proj, lk, reduceIte, Nat.reduceEqDiff]; rfl) ?_
    refine hK8 _ _ ?_; clear hK8
    refine V_reg T.mix (by kernel_rfl) ?_
    refine S_mv rfl ?_
    first | refine S_add rfl rfl (by omega) (by omega) ?_ | refine S_bin rfl rfl rfl ?_
    refine S_as rfl ?_
    refine S_nilk [0, 1, 2, 7, 8] (by simp only [proj, lk, reduceIte, Nat.reduceEqDiff]; rfl) ?_
    exact hK5 _ _ ⟨_, by omega, k + 1, h2, by omega, hB2, hE2, rfl, rfl, rfl⟩
  · skip
    refine V_exitk [0, 2, 7] rfl (by simp only [proj, lk, reduceIte, Nat.reduceEqDiff]; rfl) ?_
    refine hK3 _ _ ?_; clear hK3
    refine V_sr T.mix (by kernel_rfl) (fun K9 hK9 => ?_)
    refine S_mv rfl ?_
    refine S_str T.kd50 T.kd9 T.in9 rfl (srcV_u8 hBk) ?_
    generalize hpc : mkS _ = pc
    have hps : pc.size = 16 := by rw [← hpc, mkS_size]; simp
    clear hpc
    refine S_as rfl ?_
    refine S_nil (hK9 _ _ (V_keep [0, 2, 9] (by simp only [proj, lk, reduceIte, Nat.reduceEqDiff]; rfl) ?_)); clear hK9
    refine V_sr T.mix (by kernel_rfl) (fun K10 hK10 => ?_)
    refine S_mv rfl ?_
    refine S_as rfl ?_
    refine S_nil (hK10 _ _ (V_keep [0, 9, 10] (by simp only [proj, lk, reduceIte, Nat.reduceEqDiff]; rfl) ?_)); clear hK10
    refine V_seqJ (fun l h' => ∃ (lf0 : Int), (lf0 ≤ 257) ∧ l = [(0, .string r), (9, .string pc), (10, .int .i64 lf0)] ∧ hk = h') ?_ ?_
    · skip
      refine V_sr T.mix (by kernel_rfl) (fun K12 hK12 => ?_)
      refine S_mv rfl ?_
      refine S_bin rfl rfl rfl ?_
      refine S_nil (hK12 _ _ (V_keep [0, 9, 10, 25] (by simp only [proj, lk, reduceIte, Nat.reduceEqDiff]; rfl) ?_)); clear hK12
      refine V_condp rfl (fun c250 => ?_) (fun c250 => ?_)
      · skip
        refine V_reg T.mix (by kernel_rfl) ?_
        refine S_as rfl ?_
        refine S_nilk [0, 9, 10] (by simp only [proj, lk, reduceIte, Nat.reduceEqDiff]; rfl) ?_
        exact ⟨_, by omega, rfl, rfl⟩
      · skip
        refine V_skipk [0, 9, 10] (by simp only [proj, lk, reduceIte, Nat.reduceEqDiff]; rfl) ?_
        exact ⟨_, by omega, rfl, rfl⟩
    rintro l h' ⟨lf0, hlf0, rfl, rfl⟩
    refine V_seq (fun K13 hK13 => ?_)
    refine V_block ?_
    refine V_loop (fun m l h' => ∃ (r2 : ByteArray) (lf : Int), (r2.size ≤ max r.size 257) ∧ (lf ≤ 257) ∧ m = lf.toNat ∧ l = [(0, .string r2), (9, .string pc), (10, .int .i64 lf)] ∧ hk = h') _ ⟨r, lf0, by omega, hlf0, rfl, rfl, rfl⟩ ?_
    rintro m l h' ⟨r2, lf, hr2, hlf, rfl, rfl, rfl⟩ K14 hK14
    refine V_seq (fun K15 hK15 => ?_)
    refine V_sr T.mix (by kernel_rfl) (fun K16 hK16 => ?_)
    refine S_mv rfl ?_
    refine S_bin rfl rfl rfl ?_
    refine S_nil (hK16 _ _ (V_keep [0, 9, 10, 27] (by simp only [proj, lk, reduceIte, Nat.reduceEqDiff]; rfl) ?_)); clear hK16
    refine V_condp rfl (fun c253 => ?_) (fun c253 => ?_)
    · skip
      refine V_skipk [0, 9, 10] (by simp only [proj, lk, reduceIte, Nat.reduceEqDiff]; rfl) ?_
      refine hK15 _ _ ?_; clear hK15
      refine V_block ?_
      refine V_sr T.mix (by kernel_rfl) (fun K17 hK17 => ?_)
      refine S_mv rfl ?_
      refine S_as rfl ?_
      refine S_nil (hK17 _ _ (V_keep [0, 9, 10, 11] (by simp only [proj, lk, reduceIte, Nat.reduceEqDiff]; rfl) ?_)); clear hK17
      refine V_seq (fun K18 hK18 => ?_)
      refine V_sr T.mix (by kernel_rfl) (fun K19 hK19 => ?_)
      refine S_mv rfl ?_
      refine S_bin rfl rfl rfl ?_
      refine S_nil (hK19 _ _ (V_keep [0, 9, 10, 11, 30] (by simp only [proj, lk, reduceIte, Nat.reduceEqDiff]; rfl) ?_)); clear hK19
      refine V_condp rfl (fun c255 => ?_) (fun c255 => ?_)
      · skip
        refine V_reg T.mix (by kernel_rfl) ?_
        refine S_as rfl ?_
        refine S_nilk [0, 9, 10, 11] (by simp only [proj, lk, reduceIte, Nat.reduceEqDiff]; rfl) ?_
        refine hK18 _ _ ?_; clear hK18
        refine V_sr T.mix (by kernel_rfl) (fun K20 hK20 => ?_)
        refine S_mv rfl ?_
        refine S_mv rfl ?_
        refine S_mv rfl ?_
        refine S_sl rfl rfl rfl (sliceV_strhi T.kd9 (by omega) (by omega)) ?_
        refine S_call T.hb15 rfl ?_
        refine FC.mono (lengthen_spec r2 _ hk (by omega)) ?_
        rintro v h' ⟨⟨u2, rfl, hu2⟩, rfl⟩
        refine S_as rfl ?_
        refine S_nil (hK20 _ _ (V_keep [0, 9, 10, 11] (by simp only [proj, lk, reduceIte, Nat.reduceEqDiff]; rfl) ?_)); clear hK20
        refine V_reg T.mix (by kernel_rfl) ?_
        refine S_mv rfl ?_
        refine S_mv rfl ?_
        first | refine S_sub rfl rfl (by omega) (by omega) ?_ | refine S_bin rfl rfl rfl ?_
        refine S_as rfl ?_
        refine S_nilk [0, 9, 10] (by simp only [proj, lk, reduceIte, Nat.reduceEqDiff]; rfl) ?_
        exact hK14 _ _ ⟨_, by omega, u2, _, by omega, by omega, rfl, rfl, rfl⟩
      · skip
        refine V_skipk [0, 9, 10, 11] (by simp only [proj, lk, reduceIte, Nat.reduceEqDiff]; rfl) ?_
        refine hK18 _ _ ?_; clear hK18
        refine V_sr T.mix (by kernel_rfl) (fun K21 hK21 => ?_)
        refine S_mv rfl ?_
        refine S_mv rfl ?_
        refine S_mv rfl ?_
        refine S_sl rfl rfl rfl (sliceV_strhi T.kd9 (by omega) (by omega)) ?_
        refine S_call T.hb15 rfl ?_
        refine FC.mono (lengthen_spec r2 _ hk (by omega)) ?_
        rintro v h' ⟨⟨u2, rfl, hu2⟩, rfl⟩
        refine S_as rfl ?_
        refine S_nil (hK21 _ _ (V_keep [0, 9, 10, 11] (by simp only [proj, lk, reduceIte, Nat.reduceEqDiff]; rfl) ?_)); clear hK21
        refine V_reg T.mix (by kernel_rfl) ?_
        refine S_mv rfl ?_
        refine S_mv rfl ?_
        first | refine S_sub rfl rfl (by omega) (by omega) ?_ | refine S_bin rfl rfl rfl ?_
        refine S_as rfl ?_
        refine S_nilk [0, 9, 10] (by simp only [proj, lk, reduceIte, Nat.reduceEqDiff]; rfl) ?_
        exact hK14 _ _ ⟨_, by omega, u2, _, by omega, by omega, rfl, rfl, rfl⟩
    · skip
      refine V_exitk [0] rfl (by simp only [proj, lk, reduceIte, Nat.reduceEqDiff]; rfl) ?_
      refine hK13 _ _ ?_; clear hK13
      refine V_sr T.mix (by kernel_rfl) (fun K22 hK22 => ?_)
      refine S_mv rfl ?_
      refine S_as rfl ?_
      refine S_nil (hK22 _ _ (V_keep [6] (by simp only [proj, lk, reduceIte, Nat.reduceEqDiff]; rfl) ?_)); clear hK22
      refine V_ret ?_
      refine hR _ _ (ret1 rfl rfl ?_)
      exact ⟨⟨r2, rfl, hr2⟩, hEk⟩
set_option maxHeartbeats 400000 in
theorem play_spec (base : Nat) (h : Heap) (D : Nat) (A : MA) (t : DS) (st : MS) (ts : List Tok) (hI : DI base h D A t st ts) (mv : Value) (k a b c : Int) (s u : ByteArray) (hs : s.size ≤ 9223372036854775807) (hT : t.text.size ≤ 9223372036854775807) (hna : t.na ≤ 100000000000000) :
    FC Try.prog 11 (#[.pointer (some ⟨A.m, 0, none⟩), mv, .pointer (some ⟨D, 0, none⟩), .agg #[.int .i64 k, .int .i64 a, .int .i64 b, .int .i64 c, .string s, .string u]] : Array Value) h fun v h' => v = .bool true ∧ ∃ t' st' ts', DI base h' D A t' st' ts' ∧ t'.na ≤ t.na + 1 ∧ t'.text.size ≤ 9223372036854775807 ∧ Ext (fun b => base ≤ b) h h' := by
  refine FC_of [(0, .pointer (some ⟨A.m, 0, none⟩)), (1, mv), (2, .pointer (some ⟨D, 0, none⟩)), (3, .agg #[.int .i64 k, .int .i64 a, .int .i64 b, .int .i64 c, .string s, .string u])] Try.func11 rfl Try.ntmps11 (by simp) rfl (fun R hR => ?_)
  refine V_sr T.mix (by kernel_rfl) (fun K1 hK1 => ?_)
  refine S_boxA rfl ?_
  generalize hh : Array.push h _ = h1
  have hO : B h1 h.size #[.int .i64 k, .int .i64 a, .int .i64 b, .int .i64 c, .string s, .string u] 39 := by rw [← hh]; exact B.new _ _ _
  have hE1 : Ext (fun _ => False) h h1 := by rw [← hh]; exact Ext.push _ _ _
  clear hh
  replace hI := hI.ext hE1
  have hD := hI.K
  have hEE : Ext (fun b => base ≤ b) h h1 := hE1.mono fun _ f => f.elim
  have hN : t.na ≤ t.na + 1 := by omega
  have o0 : cellH h1 ⟨h.size, 0, none⟩ = some (.int .i64 k) := hO.cell 0
  have o1 : cellH h1 ⟨h.size, 1, none⟩ = some (.int .i64 a) := hO.cell 1
  have o2 : cellH h1 ⟨h.size, 2, none⟩ = some (.int .i64 b) := hO.cell 2
  have o4 : cellH h1 ⟨h.size, 4, none⟩ = some (.string s) := hO.cell 4
  refine S_as rfl ?_
  refine S_nil (hK1 _ _ (V_keep [0, 1, 2, 7] (by simp only [proj, lk, reduceIte, Nat.reduceEqDiff]; rfl) ?_)); clear hK1
  refine V_seq (fun K2 hK2 => ?_)
  refine V_sr T.mix (by kernel_rfl) (fun K3 hK3 => ?_)
  first | refine S_fa0 T.f39_0 rfl ?_ | refine S_fa T.f39_0 rfl ?_
  refine S_ldK T.ag3 rfl (fun K' hK' => ?_)
  simp (disch := omega) only [hD.c0, hD.c1, hD.c2, hD.c3, hD.co, hD.c8, hD.c9, hD.c10, hD.c11, hD.c12, o0, o1, o2, o4, oP_some, Nat.add_zero]
  refine hK' _ ?_; clear hK' K'
  refine S_nil (hK3 _ _ (V_keep [0, 1, 2, 7, 10] (by simp only [proj, lk, reduceIte, Nat.reduceEqDiff]; rfl) ?_)); clear hK3
  refine V_block ?_
  refine V_sr T.mix (by kernel_rfl) (fun K4 hK4 => ?_)
  refine S_bin rfl rfl rfl ?_
  refine S_as rfl ?_
  refine S_nil (hK4 _ _ (V_keep [0, 1, 2, 7, 10, 11] (by simp only [proj, lk, reduceIte, Nat.reduceEqDiff]; rfl) ?_)); clear hK4
  refine V_condp rfl (fun c267 => ?_) (fun c267 => ?_)
  · skip
    refine V_reg T.mix (by kernel_rfl) ?_
    refine S_mv rfl ?_
    refine S_mv rfl ?_
    refine S_nc rfl ?_
    first | refine S_fa0 T.f35_0 rfl ?_ | refine S_fa T.f35_0 rfl ?_
    refine S_ldK T.ag9 rfl (fun K' hK' => ?_)
    simp (disch := omega) only [hD.c0, hD.c1, hD.c2, hD.c3, hD.co, hD.c8, hD.c9, hD.c10, hD.c11, hD.c12, o0, o1, o2, o4, oP_some, Nat.add_zero]
    refine hK' _ ?_; clear hK' K'
    first | refine S_fa0 T.f39_4 rfl ?_ | refine S_fa T.f39_4 rfl ?_
    refine S_ldK T.ag9 rfl (fun K' hK' => ?_)
    simp (disch := omega) only [hD.c0, hD.c1, hD.c2, hD.c3, hD.co, hD.c8, hD.c9, hD.c10, hD.c11, hD.c12, o0, o1, o2, o4, oP_some, Nat.add_zero]
    refine hK' _ ?_; clear hK' K'
    refine S_call T.hb15 rfl ?_
    refine FC.mono (lengthen_spec t.text s h1 hT) ?_
    rintro v h' ⟨⟨r2, rfl, hr2⟩, rfl⟩
    refine S_nc rfl ?_
    first | refine S_fa0 T.f35_0 rfl ?_ | refine S_fa T.f35_0 rfl ?_
    refine S_st T.sz9 rfl rfl rfl rfl (by simp (disch := omega) only [hD.ok]) ?_
    generalize hh : putH _ _ _ = h2
    have hEp : Ext (fun b => b = D) h1 h2 := by rw [← hh]; exact Ext.put _ _ rfl
    have hSp : B h2 D (dcells { t with text := r2 }) 35 := by rw [← hh]; exact hD.s.put 0 _
    clear hh
    replace hEE := hEE.trans (hEp.mono fun b e => e ▸ hI.lo D (.inl rfl))
    replace hI : DI base h2 D A { t with text := r2 } st ts := hI.put hEp hSp rfl rfl rfl rfl rfl rfl rfl
    replace hT : ({ t with text := r2 } : DS).text.size ≤ 9223372036854775807 := by simp only []; omega
    replace hN : ({ t with text := r2 } : DS).na ≤ t.na + 1 := hN
    refine S_nilk [] (by simp only [proj, lk, reduceIte, Nat.reduceEqDiff]; rfl) ?_
    refine hK2 _ _ ?_; clear hK2
    refine V_sr T.mix (by kernel_rfl) (fun K5 hK5 => ?_)
    refine S_as rfl ?_
    refine S_nil (hK5 _ _ (V_keep [8] (by simp only [proj, lk, reduceIte, Nat.reduceEqDiff]; rfl) ?_)); clear hK5
    refine V_ret ?_
    refine hR _ _ (ret1 rfl rfl ?_)
    exact ⟨rfl, _, _, _, hI, hN, hT, hEE⟩
  · skip
    refine V_sr T.mix (by kernel_rfl) (fun K6 hK6 => ?_)
    refine S_bin rfl rfl rfl ?_
    refine S_as rfl ?_
    refine S_nil (hK6 _ _ (V_keep [0, 1, 2, 7, 10, 23] (by simp only [proj, lk, reduceIte, Nat.reduceEqDiff]; rfl) ?_)); clear hK6
    refine V_condp rfl (fun c269 => ?_) (fun c269 => ?_)
    · skip
      refine V_reg T.mix (by kernel_rfl) ?_
      refine S_mv rfl ?_
      refine S_mv rfl ?_
      refine S_nc rfl ?_
      first | refine S_fa0 T.f35_0 rfl ?_ | refine S_fa T.f35_0 rfl ?_
      refine S_ldK T.ag9 rfl (fun K' hK' => ?_)
      simp (disch := omega) only [hD.c0, hD.c1, hD.c2, hD.c3, hD.co, hD.c8, hD.c9, hD.c10, hD.c11, hD.c12, o0, o1, o2, o4, oP_some, Nat.add_zero]
      refine hK' _ ?_; clear hK' K'
      first | refine S_fa0 T.f39_1 rfl ?_ | refine S_fa T.f39_1 rfl ?_
      refine S_ldK T.ag3 rfl (fun K' hK' => ?_)
      simp (disch := omega) only [hD.c0, hD.c1, hD.c2, hD.c3, hD.co, hD.c8, hD.c9, hD.c10, hD.c11, hD.c12, o0, o1, o2, o4, oP_some, Nat.add_zero]
      refine hK' _ ?_; clear hK' K'
      first | refine S_andm 255 8 256 rfl rfl rfl (by decide) (by decide) (by omega) (by omega) ?_ | refine S_bin rfl rfl rfl ?_
      first | refine S_cvb T.us3 T.in5 rfl (by omega) (by omega) ?_ | refine S_cv T.us3 T.in5 rfl ?_
      first | refine S_fa0 T.f39_2 rfl ?_ | refine S_fa T.f39_2 rfl ?_
      refine S_ldK T.ag3 rfl (fun K' hK' => ?_)
      simp (disch := omega) only [hD.c0, hD.c1, hD.c2, hD.c3, hD.co, hD.c8, hD.c9, hD.c10, hD.c11, hD.c12, o0, o1, o2, o4, oP_some, Nat.add_zero]
      refine hK' _ ?_; clear hK' K'
      refine S_call T.hb16 rfl ?_
      refine FC.mono (run_spec t.text _ _ h1 hT) ?_
      rintro v h2 ⟨⟨r2, rfl, hr2⟩, hEr⟩
      replace hI := hI.ext hEr
      replace hD := hI.K
      replace hEE := hEE.trans (hEr.mono fun _ f => f.elim)
      refine S_nc rfl ?_
      first | refine S_fa0 T.f35_0 rfl ?_ | refine S_fa T.f35_0 rfl ?_
      refine S_st T.sz9 rfl rfl rfl rfl (by simp (disch := omega) only [hD.ok]) ?_
      generalize hh : putH _ _ _ = h3
      have hEp : Ext (fun b => b = D) h2 h3 := by rw [← hh]; exact Ext.put _ _ rfl
      have hSp : B h3 D (dcells { t with text := r2 }) 35 := by rw [← hh]; exact hD.s.put 0 _
      clear hh
      replace hEE := hEE.trans (hEp.mono fun b e => e ▸ hI.lo D (.inl rfl))
      replace hI : DI base h3 D A { t with text := r2 } st ts := hI.put hEp hSp rfl rfl rfl rfl rfl rfl rfl
      replace hT : ({ t with text := r2 } : DS).text.size ≤ 9223372036854775807 := by simp only []; omega
      replace hN : ({ t with text := r2 } : DS).na ≤ t.na + 1 := hN
      refine S_nilk [] (by simp only [proj, lk, reduceIte, Nat.reduceEqDiff]; rfl) ?_
      refine hK2 _ _ ?_; clear hK2
      refine V_sr T.mix (by kernel_rfl) (fun K7 hK7 => ?_)
      refine S_as rfl ?_
      refine S_nil (hK7 _ _ (V_keep [8] (by simp only [proj, lk, reduceIte, Nat.reduceEqDiff]; rfl) ?_)); clear hK7
      refine V_ret ?_
      refine hR _ _ (ret1 rfl rfl ?_)
      exact ⟨rfl, _, _, _, hI, hN, hT, hEE⟩
    · skip
      refine V_sr T.mix (by kernel_rfl) (fun K8 hK8 => ?_)
      refine S_bin rfl rfl rfl ?_
      refine S_as rfl ?_
      refine S_nil (hK8 _ _ (V_keep [0, 1, 2, 7, 10, 39] (by simp only [proj, lk, reduceIte, Nat.reduceEqDiff]; rfl) ?_)); clear hK8
      refine V_condp rfl (fun c271 => ?_) (fun c271 => ?_)
      · skip
        refine V_sr T.mix (by kernel_rfl) (fun K9 hK9 => ?_)
        refine S_mv rfl ?_
        refine S_mv rfl ?_
        refine S_mv rfl ?_
        first | refine S_fa0 T.f39_1 rfl ?_ | refine S_fa T.f39_1 rfl ?_
        refine S_ldK T.ag3 rfl (fun K' hK' => ?_)
        simp (disch := omega) only [hD.c0, hD.c1, hD.c2, hD.c3, hD.co, hD.c8, hD.c9, hD.c10, hD.c11, hD.c12, o0, o1, o2, o4, oP_some, Nat.add_zero]
        refine hK' _ ?_; clear hK' K'
        refine S_call T.hb17 rfl ?_
        refine FC.mono (sameparse_spec base h1 D A t st ts hI mv a hna) ?_
        rintro v h2 ⟨rfl, t2, st2, ts2, hI2, a1, a2, hE2⟩
        replace hT : t2.text.size ≤ 9223372036854775807 := by rw [a1]; exact hT
        replace hN := a2
        replace hEE := hEE.trans hE2
        replace hI := hI2
        refine S_as rfl ?_
        refine S_nil (hK9 _ _ (V_keep [8] (by simp only [proj, lk, reduceIte, Nat.reduceEqDiff]; rfl) ?_)); clear hK9
        refine V_ret ?_
        refine hR _ _ (ret1 rfl rfl ?_)
        exact ⟨rfl, _, _, _, hI, hN, hT, hEE⟩
      · skip
        refine V_sr T.mix (by kernel_rfl) (fun K10 hK10 => ?_)
        refine S_bin rfl rfl rfl ?_
        refine S_as rfl ?_
        refine S_nil (hK10 _ _ (V_keep [0, 2, 7, 10, 47] (by simp only [proj, lk, reduceIte, Nat.reduceEqDiff]; rfl) ?_)); clear hK10
        refine V_condp rfl (fun c273 => ?_) (fun c273 => ?_)
        · skip
          refine V_reg T.mix (by kernel_rfl) ?_
          refine S_mv rfl ?_
          refine S_nc rfl ?_
          first | refine S_fa0 T.f35_0 rfl ?_ | refine S_fa T.f35_0 rfl ?_
          refine S_st T.sz9 rfl rfl rfl rfl (by simp (disch := omega) only [hD.ok]) ?_
          generalize hh : putH _ _ _ = h2
          have hEp : Ext (fun b => b = D) h1 h2 := by rw [← hh]; exact Ext.put _ _ rfl
          have hSp : B h2 D (dcells { t with text := ⟨#[]⟩ }) 35 := by rw [← hh]; exact hD.s.put 0 _
          clear hh
          replace hEE := hEE.trans (hEp.mono fun b e => e ▸ hI.lo D (.inl rfl))
          replace hI : DI base h2 D A { t with text := ⟨#[]⟩ } st ts := hI.put hEp hSp rfl rfl rfl rfl rfl rfl rfl
          replace hT : ({ t with text := ⟨#[]⟩ } : DS).text.size ≤ 9223372036854775807 := Nat.zero_le _
          replace hN : ({ t with text := ⟨#[]⟩ } : DS).na ≤ t.na + 1 := hN
          refine S_nilk [] (by simp only [proj, lk, reduceIte, Nat.reduceEqDiff]; rfl) ?_
          refine hK2 _ _ ?_; clear hK2
          refine V_sr T.mix (by kernel_rfl) (fun K11 hK11 => ?_)
          refine S_as rfl ?_
          refine S_nil (hK11 _ _ (V_keep [8] (by simp only [proj, lk, reduceIte, Nat.reduceEqDiff]; rfl) ?_)); clear hK11
          refine V_ret ?_
          refine hR _ _ (ret1 rfl rfl ?_)
          exact ⟨rfl, _, _, _, hI, hN, hT, hEE⟩
        · skip
          refine V_sr T.mix (by kernel_rfl) (fun K12 hK12 => ?_)
          refine S_bin rfl rfl rfl ?_
          refine S_as rfl ?_
          refine S_nil (hK12 _ _ (V_keep [0, 2, 7, 10, 52] (by simp only [proj, lk, reduceIte, Nat.reduceEqDiff]; rfl) ?_)); clear hK12
          refine V_condp rfl (fun c275 => ?_) (fun c275 => ?_)
          · skip
            refine V_reg T.mix (by kernel_rfl) ?_
            refine S_mv rfl ?_
            first | refine S_fa0 T.f39_4 rfl ?_ | refine S_fa T.f39_4 rfl ?_
            refine S_ldK T.ag9 rfl (fun K' hK' => ?_)
            simp (disch := omega) only [hD.c0, hD.c1, hD.c2, hD.c3, hD.co, hD.c8, hD.c9, hD.c10, hD.c11, hD.c12, o0, o1, o2, o4, oP_some, Nat.add_zero]
            refine hK' _ ?_; clear hK' K'
            refine S_nc rfl ?_
            first | refine S_fa0 T.f35_0 rfl ?_ | refine S_fa T.f35_0 rfl ?_
            refine S_st T.sz9 rfl rfl rfl rfl (by simp (disch := omega) only [hD.ok]) ?_
            generalize hh : putH _ _ _ = h2
            have hEp : Ext (fun b => b = D) h1 h2 := by rw [← hh]; exact Ext.put _ _ rfl
            have hSp : B h2 D (dcells { t with text := s }) 35 := by rw [← hh]; exact hD.s.put 0 _
            clear hh
            replace hEE := hEE.trans (hEp.mono fun b e => e ▸ hI.lo D (.inl rfl))
            replace hI : DI base h2 D A { t with text := s } st ts := hI.put hEp hSp rfl rfl rfl rfl rfl rfl rfl
            replace hT : ({ t with text := s } : DS).text.size ≤ 9223372036854775807 := hs
            replace hN : ({ t with text := s } : DS).na ≤ t.na + 1 := hN
            refine S_nilk [] (by simp only [proj, lk, reduceIte, Nat.reduceEqDiff]; rfl) ?_
            refine hK2 _ _ ?_; clear hK2
            refine V_sr T.mix (by kernel_rfl) (fun K13 hK13 => ?_)
            refine S_as rfl ?_
            refine S_nil (hK13 _ _ (V_keep [8] (by simp only [proj, lk, reduceIte, Nat.reduceEqDiff]; rfl) ?_)); clear hK13
            refine V_ret ?_
            refine hR _ _ (ret1 rfl rfl ?_)
            exact ⟨rfl, _, _, _, hI, hN, hT, hEE⟩
          · skip
            refine V_sr T.mix (by kernel_rfl) (fun K14 hK14 => ?_)
            refine S_bin rfl rfl rfl ?_
            refine S_as rfl ?_
            refine S_nil (hK14 _ _ (V_keep [0, 2, 10, 59] (by simp only [proj, lk, reduceIte, Nat.reduceEqDiff]; rfl) ?_)); clear hK14
            refine V_condp rfl (fun c277 => ?_) (fun c277 => ?_)
            · skip
              refine V_reg T.mix (by kernel_rfl) ?_
              refine S_mv rfl ?_
              refine S_nc rfl ?_
              first | refine S_fa0 T.f35_8 rfl ?_ | refine S_fa T.f35_8 rfl ?_
              refine S_st T.sz4 rfl rfl rfl rfl (by simp (disch := omega) only [hD.ok]) ?_
              generalize hh : putH _ _ _ = h2
              have hEp : Ext (fun b => b = D) h1 h2 := by rw [← hh]; exact Ext.put _ _ rfl
              have hSp : B h2 D (dcells { t with pin := true }) 35 := by rw [← hh]; exact hD.s.put 11 _
              clear hh
              replace hEE := hEE.trans (hEp.mono fun b e => e ▸ hI.lo D (.inl rfl))
              replace hI : DI base h2 D A { t with pin := true } st ts := hI.put hEp hSp rfl rfl rfl rfl rfl rfl rfl
              replace hT : ({ t with pin := true } : DS).text.size ≤ 9223372036854775807 := hT
              replace hN : ({ t with pin := true } : DS).na ≤ t.na + 1 := hN
              refine S_nilk [] (by simp only [proj, lk, reduceIte, Nat.reduceEqDiff]; rfl) ?_
              refine hK2 _ _ ?_; clear hK2
              refine V_sr T.mix (by kernel_rfl) (fun K15 hK15 => ?_)
              refine S_as rfl ?_
              refine S_nil (hK15 _ _ (V_keep [8] (by simp only [proj, lk, reduceIte, Nat.reduceEqDiff]; rfl) ?_)); clear hK15
              refine V_ret ?_
              refine hR _ _ (ret1 rfl rfl ?_)
              exact ⟨rfl, _, _, _, hI, hN, hT, hEE⟩
            · skip
              refine V_sr T.mix (by kernel_rfl) (fun K16 hK16 => ?_)
              refine S_bin rfl rfl rfl ?_
              refine S_as rfl ?_
              refine S_nil (hK16 _ _ (V_keep [0, 2, 10, 64] (by simp only [proj, lk, reduceIte, Nat.reduceEqDiff]; rfl) ?_)); clear hK16
              refine V_condp rfl (fun c279 => ?_) (fun c279 => ?_)
              · skip
                refine V_sr T.mix (by kernel_rfl) (fun K17 hK17 => ?_)
                refine S_mv rfl ?_
                refine S_call T.hb13 rfl ?_
                refine FC.mono (check_spec A st h1 hI.M hI.ri hI.n256) ?_
                rintro v h' ⟨rfl, rfl⟩
                refine S_as rfl ?_
                refine S_nil (hK17 _ _ (V_keep [8] (by simp only [proj, lk, reduceIte, Nat.reduceEqDiff]; rfl) ?_)); clear hK17
                refine V_ret ?_
                refine hR _ _ (ret1 rfl rfl ?_)
                exact ⟨rfl, _, _, _, hI, hN, hT, hEE⟩
              · skip
                refine V_sr T.mix (by kernel_rfl) (fun K18 hK18 => ?_)
                refine S_bin rfl rfl rfl ?_
                refine S_as rfl ?_
                refine S_nil (hK18 _ _ (V_keep [0, 2, 68] (by simp only [proj, lk, reduceIte, Nat.reduceEqDiff]; rfl) ?_)); clear hK18
                refine V_condp rfl (fun c281 => ?_) (fun c281 => ?_)
                · skip
                  refine V_sr T.mix (by kernel_rfl) (fun K19 hK19 => ?_)
                  refine S_mv rfl ?_
                  refine S_mv rfl ?_
                  refine S_call T.hb14 rfl ?_
                  refine FC.mono (gauge_spec A st h1 hI.M D _ t hI.K hI.pr) ?_
                  rintro v h' ⟨rfl, rfl⟩
                  refine S_as rfl ?_
                  refine S_nil (hK19 _ _ (V_keep [8] (by simp only [proj, lk, reduceIte, Nat.reduceEqDiff]; rfl) ?_)); clear hK19
                  refine V_ret ?_
                  refine hR _ _ (ret1 rfl rfl ?_)
                  exact ⟨rfl, _, _, _, hI, hN, hT, hEE⟩
                · skip
                  refine V_skipk [] (by simp only [proj, lk, reduceIte, Nat.reduceEqDiff]; rfl) ?_
                  refine hK2 _ _ ?_; clear hK2
                  refine V_sr T.mix (by kernel_rfl) (fun K20 hK20 => ?_)
                  refine S_as rfl ?_
                  refine S_nil (hK20 _ _ (V_keep [8] (by simp only [proj, lk, reduceIte, Nat.reduceEqDiff]; rfl) ?_)); clear hK20
                  refine V_ret ?_
                  refine hR _ _ (ret1 rfl rfl ?_)
                  exact ⟨rfl, _, _, _, hI, hN, hT, hEE⟩
end Go.Proofs.Qxb6500408a
