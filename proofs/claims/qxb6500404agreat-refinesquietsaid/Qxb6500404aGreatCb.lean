import Derived.Test.Qxb6500404aGreatCa
set_option linter.unusedVariables false
set_option linter.unusedSimpArgs false
namespace Go.Proofs.Qxb6500404aGreat.LzW
open Go.Eng Go.Lz
set_option maxHeartbeats 400000 in
theorem lit_spec (A : MA) (st : MS) (h : Heap) (hM : Mat h A st) (c : Int) (h0 : 0 ≤ c) (h1 : c < 256) (hn : st.n < 256) :
    FC Tryz.prog 151 (#[.pointer (some ⟨A.m, 0, none⟩), .int .u8 c] : Array Value) h fun v h' => v = .tuple #[] ∧ Mat h' A { st with tk := updT st.tk st.n 0 0 c, n := st.n + 1 } ∧ Ext (ES A) h h' := by
  refine FC_of [(0, .pointer (some ⟨A.m, 0, none⟩)), (1, .int .u8 c)] Tryz.func151 rfl Tryz.ntmps151 (by simp) rfl (fun R hR => ?_)
  refine V_sr T.mix (by kernel_rfl) (fun K1 hK1 => ?_)
  refine S_mv rfl ?_
  refine S_nc rfl ?_
  first | refine S_fa0 T.f73_2 rfl ?_ | refine S_fa T.f73_2 rfl ?_
  refine S_ldK T.ag71 rfl (fun K' hK' => ?_)
  simp (disch := omega) only [hM.c0, hM.c1, hM.c2, hM.c3, hM.c4, hM.ch, hM.cp, hM.ct, oP_some, Nat.add_zero]
  refine hK' _ ?_; clear hK' K'
  refine S_mv rfl ?_
  refine S_nc rfl ?_
  first | refine S_fa0 T.f73_3 rfl ?_ | refine S_fa T.f73_3 rfl ?_
  refine S_ldK T.ag3 rfl (fun K' hK' => ?_)
  simp (disch := omega) only [hM.c0, hM.c1, hM.c2, hM.c3, hM.c4, hM.ch, hM.cp, hM.ct, oP_some, Nat.add_zero]
  refine hK' _ ?_; clear hK' K'
  refine S_mv rfl ?_
  first | refine S_cvi T.us5 T.in3 rfl (by omega) (by omega) ?_ | refine S_cv T.us5 T.in3 rfl ?_
  refine S_bld rfl (T.bld174_2 _) ?_
  first | refine S_ixmn T.el71 rfl rfl (by omega) ?_ | refine S_ixm T.el71 rfl rfl (by omega) (by omega) ?_ | refine S_ix T.el71 rfl rfl (by omega) (by omega) ?_
  refine S_stl T.sz174 rfl rfl rfl rfl (fun j hj => by simp (disch := omega) only [hM.o3, hM.o4, hM.oh, hM.op, hM.ot]) ?_
  generalize hh : putsH _ _ _ _ = h2
  have hMh2 : Mat h2 A { st with tk := updT st.tk st.n 0 0 c } := by rw [← hh]; exact hM.put_tok
  have hEh2 : Ext (ES A) h h2 := by rw [← hh]; exact ((Ext.put _ _ (.inr (.inr (.inr rfl)))).trans (Ext.put _ _ (.inr (.inr (.inr rfl))))).trans (Ext.put _ _ (.inr (.inr (.inr rfl))))
  clear hh
  replace hM := hMh2
  refine S_nil (hK1 _ _ (V_keep [0] (by simp only [proj, lk, reduceIte, Nat.reduceEqDiff]; rfl) ?_)); clear hK1
  refine V_reg T.mix (by kernel_rfl) ?_
  refine S_mv rfl ?_
  refine S_nc rfl ?_
  first | refine S_fa0 T.f73_3 rfl ?_ | refine S_fa T.f73_3 rfl ?_
  refine S_ldK T.ag3 rfl (fun K' hK' => ?_)
  simp (disch := omega) only [hM.c0, hM.c1, hM.c2, hM.c3, hM.c4, hM.ch, hM.cp, hM.ct, oP_some, Nat.add_zero]
  refine hK' _ ?_; clear hK' K'
  first | refine S_add rfl rfl (by omega) (by omega) ?_ | refine S_bin rfl rfl rfl ?_
  refine S_nc rfl ?_
  first | refine S_fa0 T.f73_3 rfl ?_ | refine S_fa T.f73_3 rfl ?_
  refine S_st T.sz3 rfl rfl rfl rfl (by simp (disch := omega) only [hM.o3, hM.o4, hM.oh, hM.op, hM.ot]) ?_
  generalize hh : putH _ _ _ = h3
  have hMh3 : Mat h3 A { st with tk := updT st.tk st.n 0 0 c, n := st.n + 1 } := by rw [← hh]; exact hM.put_n (by first | omega | (simp; omega) | simp)
  have hEh3 : Ext (ES A) h2 h3 := by rw [← hh]; exact Ext.put _ _ (.inl rfl)
  clear hh
  refine S_nilk [] (by simp only [proj, lk, reduceIte, Nat.reduceEqDiff]; rfl) ?_
  -- end
  refine hR _ _ (ret0 rfl ?_)
  exact ⟨rfl, hMh3, hEh2.trans hEh3⟩
set_option maxHeartbeats 400000 in
theorem dup_spec (A : MA) (st : MS) (h : Heap) (hM : Mat h A st) (a b : Int) (hn : st.n < 256) :
    FC Tryz.prog 153 (#[.pointer (some ⟨A.m, 0, none⟩), .int .i64 a, .int .i64 b] : Array Value) h fun v h' => v = .tuple #[] ∧ Mat h' A { st with tk := updT st.tk st.n a b 0, n := st.n + 1 } ∧ Ext (ES A) h h' := by
  refine FC_of [(0, .pointer (some ⟨A.m, 0, none⟩)), (1, .int .i64 a), (2, .int .i64 b)] Tryz.func153 rfl Tryz.ntmps153 (by simp) rfl (fun R hR => ?_)
  refine V_sr T.mix (by kernel_rfl) (fun K1 hK1 => ?_)
  refine S_mv rfl ?_
  refine S_nc rfl ?_
  first | refine S_fa0 T.f73_2 rfl ?_ | refine S_fa T.f73_2 rfl ?_
  refine S_ldK T.ag71 rfl (fun K' hK' => ?_)
  simp (disch := omega) only [hM.c0, hM.c1, hM.c2, hM.c3, hM.c4, hM.ch, hM.cp, hM.ct, oP_some, Nat.add_zero]
  refine hK' _ ?_; clear hK' K'
  refine S_mv rfl ?_
  refine S_nc rfl ?_
  first | refine S_fa0 T.f73_3 rfl ?_ | refine S_fa T.f73_3 rfl ?_
  refine S_ldK T.ag3 rfl (fun K' hK' => ?_)
  simp (disch := omega) only [hM.c0, hM.c1, hM.c2, hM.c3, hM.c4, hM.ch, hM.cp, hM.ct, oP_some, Nat.add_zero]
  refine hK' _ ?_; clear hK' K'
  refine S_mv rfl ?_
  refine S_mv rfl ?_
  refine S_bld rfl (T.bld174_0_1 _ _) ?_
  first | refine S_ixmn T.el71 rfl rfl (by omega) ?_ | refine S_ixm T.el71 rfl rfl (by omega) (by omega) ?_ | refine S_ix T.el71 rfl rfl (by omega) (by omega) ?_
  refine S_stl T.sz174 rfl rfl rfl rfl (fun j hj => by simp (disch := omega) only [hM.o3, hM.o4, hM.oh, hM.op, hM.ot]) ?_
  generalize hh : putsH _ _ _ _ = h2
  have hMh2 : Mat h2 A { st with tk := updT st.tk st.n a b 0 } := by rw [← hh]; exact hM.put_tok
  have hEh2 : Ext (ES A) h h2 := by rw [← hh]; exact ((Ext.put _ _ (.inr (.inr (.inr rfl)))).trans (Ext.put _ _ (.inr (.inr (.inr rfl))))).trans (Ext.put _ _ (.inr (.inr (.inr rfl))))
  clear hh
  replace hM := hMh2
  refine S_nil (hK1 _ _ (V_keep [0] (by simp only [proj, lk, reduceIte, Nat.reduceEqDiff]; rfl) ?_)); clear hK1
  refine V_reg T.mix (by kernel_rfl) ?_
  refine S_mv rfl ?_
  refine S_nc rfl ?_
  first | refine S_fa0 T.f73_3 rfl ?_ | refine S_fa T.f73_3 rfl ?_
  refine S_ldK T.ag3 rfl (fun K' hK' => ?_)
  simp (disch := omega) only [hM.c0, hM.c1, hM.c2, hM.c3, hM.c4, hM.ch, hM.cp, hM.ct, oP_some, Nat.add_zero]
  refine hK' _ ?_; clear hK' K'
  first | refine S_add rfl rfl (by omega) (by omega) ?_ | refine S_bin rfl rfl rfl ?_
  refine S_nc rfl ?_
  first | refine S_fa0 T.f73_3 rfl ?_ | refine S_fa T.f73_3 rfl ?_
  refine S_st T.sz3 rfl rfl rfl rfl (by simp (disch := omega) only [hM.o3, hM.o4, hM.oh, hM.op, hM.ot]) ?_
  generalize hh : putH _ _ _ = h3
  have hMh3 : Mat h3 A { st with tk := updT st.tk st.n a b 0, n := st.n + 1 } := by rw [← hh]; exact hM.put_n (by first | omega | (simp; omega) | simp)
  have hEh3 : Ext (ES A) h2 h3 := by rw [← hh]; exact Ext.put _ _ (.inl rfl)
  clear hh
  refine S_nilk [] (by simp only [proj, lk, reduceIte, Nat.reduceEqDiff]; rfl) ?_
  -- end
  refine hR _ _ (ret0 rfl ?_)
  exact ⟨rfl, hMh3, hEh2.trans hEh3⟩
set_option maxHeartbeats 400000 in
theorem plain_spec (A : MA) (st : MS) (h : Heap) (hM : Mat h A st) (s : ByteArray) (hs : s.size ≤ 256) (hn0 : st.n = 0) (hp0 : st.pr = 0) (hri : RI st) :
    FC Tryz.prog 121 (#[.pointer (some ⟨A.m, 0, none⟩), .string s] : Array Value) h fun v h' => v = .tuple #[] ∧ ∃ st', Mat h' A st' ∧ Ext (ES A) h h' ∧ TkL st'.tk (toks s 0) ∧ st'.n = (toks s 0).length ∧ st'.pr = 0 ∧ RI st' := by
  refine FC_of [(0, .pointer (some ⟨A.m, 0, none⟩)), (1, .string s)] Tryz.func121 rfl Tryz.ntmps121 (by simp) rfl (fun R hR => ?_)
  refine V_sr T.mix (by kernel_rfl) (fun K1 hK1 => ?_)
  refine S_as rfl ?_
  refine S_nil (hK1 _ _ (V_keep [0, 1, 4] (by simp only [proj, lk, reduceIte, Nat.reduceEqDiff]; rfl) ?_)); clear hK1
  refine V_block ?_
  refine V_loop (fun m l h' => ∃ (i : Nat) (hk : Heap) (sk : MS) (ts : List Tok), (Mat hk A sk) ∧ (Ext (ES A) h hk) ∧ (TkL sk.tk ts) ∧ (sk.n = ts.length) ∧ (sk.pr = 0) ∧ (Pre s 0 ts i) ∧ (RI sk) ∧ m = s.size - i ∧ l = [(0, .pointer (some ⟨A.m, 0, none⟩)), (1, .string s), (4, .int .i64 i)] ∧ hk = h') _ ⟨0, h, st, [], hM, Ext.refl _ _, tkl_nil _, hn0, hp0, pre_start s 0, hri, rfl, rfl, rfl⟩ ?_
  rintro m l h' ⟨i, hk, sk, ts, hM, hE, hT, hn, hp, hPre, hRI, rfl, rfl, rfl⟩ K2 hK2
  have hl := hPre.len
  have hle := hPre.le
  refine V_seq (fun K3 hK3 => ?_)
  refine V_sr T.mix (by kernel_rfl) (fun K4 hK4 => ?_)
  refine S_mv rfl ?_
  refine S_mv rfl ?_
  refine S_lens T.kd9 rfl ?_
  refine S_bin rfl rfl rfl ?_
  refine S_nil (hK4 _ _ (V_keep [0, 1, 4, 8] (by simp only [proj, lk, reduceIte, Nat.reduceEqDiff]; rfl) ?_)); clear hK4
  refine V_condp rfl (fun c21 => ?_) (fun c21 => ?_)
  · skip
    refine V_skipk [0, 1, 4] (by simp only [proj, lk, reduceIte, Nat.reduceEqDiff]; rfl) ?_
    refine hK3 _ _ ?_; clear hK3
    refine V_seq (fun K5 hK5 => ?_)
    refine V_block ?_
    refine V_reg T.mix (by kernel_rfl) ?_
    refine S_mv rfl ?_
    refine S_mv rfl ?_
    refine S_mv rfl ?_
    refine S_si T.kd9 rfl rfl (by omega) (by omega) ?_
    refine S_call T.hb151 rfl ?_
    have hb := bAt_lt s i
    simp only [Int.toNat_natCast]
    refine FC.mono (lit_spec A _ _ hM (bAt s i : Nat) (by omega) (by omega) (by omega)) ?_
    rintro v h1 ⟨rfl, hM1, hE1⟩
    refine S_nilk [0, 1, 4] (by simp only [proj, lk, reduceIte, Nat.reduceEqDiff]; rfl) ?_
    refine hK5 _ _ ?_; clear hK5
    refine V_reg T.mix (by kernel_rfl) ?_
    refine S_mv rfl ?_
    first | refine S_add rfl rfl (by omega) (by omega) ?_ | refine S_bin rfl rfl rfl ?_
    refine S_as rfl ?_
    refine S_nilk [0, 1, 4] (by simp only [proj, lk, reduceIte, Nat.reduceEqDiff]; rfl) ?_
    have hps := pre_step hPre (by omega)
    have ht := tok0 s i
    rw [ht.1, ht.2] at hps
    exact hK2 _ _ ⟨_, by omega, i + 1, _, _, _, hM1, hE.trans hE1, by rw [hn]; exact tkl_snoc _ hT, by simp [hn], hp, hps, hRI, rfl, rfl, rfl⟩
  · skip
    refine V_exitk [] rfl (by simp only [proj, lk, reduceIte, Nat.reduceEqDiff]; rfl) ?_
    -- end
    refine hR _ _ (ret0 rfl ?_)
    obtain ⟨e1, e2⟩ := pre_end hPre (by omega)
    subst e1
    exact ⟨rfl, sk, hM, hE, hT, hn, hp, hRI⟩
set_option maxHeartbeats 400000 in
theorem greedy_spec (A : MA) (st : MS) (h : Heap) (hM : Mat h A st) (s : ByteArray) (hs : s.size ≤ 256) (hn0 : st.n = 0) (hp0 : st.pr = 0) (hri : RI st) (hc0 : Ch s 0 st) :
    FC Tryz.prog 122 (#[.pointer (some ⟨A.m, 0, none⟩), .string s] : Array Value) h fun v h' => v = .tuple #[] ∧ ∃ st', Mat h' A st' ∧ Ext (ES A) h h' ∧ TkL st'.tk (toks s 1) ∧ st'.n = (toks s 1).length ∧ st'.pr ≤ lidF s 1 (toks s 1) 0 ∧ RI st' := by
  refine FC_of [(0, .pointer (some ⟨A.m, 0, none⟩)), (1, .string s)] Tryz.func122 rfl Tryz.ntmps122 (by simp) rfl (fun R hR => ?_)
  refine V_sr T.mix (by kernel_rfl) (fun K1 hK1 => ?_)
  refine S_as rfl ?_
  refine S_nil (hK1 _ _ (V_keep [0, 1, 4] (by simp only [proj, lk, reduceIte, Nat.reduceEqDiff]; rfl) ?_)); clear hK1
  refine V_block ?_
  refine V_loop (fun m l h' => ∃ (i : Nat) (hk : Heap) (sk : MS) (ts : List Tok), (Mat hk A sk) ∧ (Ext (ES A) h hk) ∧ (TkL sk.tk ts) ∧ (sk.n = ts.length) ∧ (sk.pr ≤ lidF s 1 ts 0) ∧ (Ch s i sk) ∧ (Pre s 1 ts i) ∧ (endF ts 0 = i) ∧ (RI sk) ∧ m = s.size - i ∧ l = [(0, .pointer (some ⟨A.m, 0, none⟩)), (1, .string s), (4, .int .i64 i)] ∧ hk = h') _ ⟨0, h, st, [], hM, Ext.refl _ _, tkl_nil _, hn0, by omega, hc0, pre_start s 1, rfl, hri, rfl, rfl, rfl⟩ ?_
  rintro m l h' ⟨i, hk, sk, ts, hM, hE, hT, hn, hp, hC, hPre, hend, hRI, rfl, rfl, rfl⟩ K2 hK2
  have hl := hPre.len
  have hle := hPre.le
  have hll := lid_le s 1 ts 0
  refine V_seq (fun K3 hK3 => ?_)
  refine V_sr T.mix (by kernel_rfl) (fun K4 hK4 => ?_)
  refine S_mv rfl ?_
  refine S_mv rfl ?_
  refine S_lens T.kd9 rfl ?_
  refine S_bin rfl rfl rfl ?_
  refine S_nil (hK4 _ _ (V_keep [0, 1, 4, 10] (by simp only [proj, lk, reduceIte, Nat.reduceEqDiff]; rfl) ?_)); clear hK4
  refine V_condp rfl (fun c29 => ?_) (fun c29 => ?_)
  · skip
    refine V_skipk [0, 1, 4] (by simp only [proj, lk, reduceIte, Nat.reduceEqDiff]; rfl) ?_
    refine hK3 _ _ ?_; clear hK3
    refine V_block ?_
    refine V_sr T.mix (by kernel_rfl) (fun K5 hK5 => ?_)
    refine S_mv rfl ?_
    refine S_mv rfl ?_
    refine S_mv rfl ?_
    refine S_call T.hb152 rfl ?_
    refine FC.mono (seek_spec A _ _ hM s i (by omega) (by omega) hs (by simpa using hC) (by omega)) ?_
    rintro v h1 ⟨rfl, k, hk1, hM1, hE1⟩
    simp only [Int.toNat_natCast] at *
    refine S_mv rfl ?_
    refine S_ex rfl rfl ?_
    refine S_ex rfl rfl ?_
    refine S_as rfl ?_
    refine S_as rfl ?_
    refine S_nil (hK5 _ _ (V_keep [0, 1, 4, 5, 6] (by simp only [proj, lk, reduceIte, Nat.reduceEqDiff]; rfl) ?_)); clear hK5
    refine V_seqJ (fun l h' => ∃ (hj : Heap) (sj : MS), (Mat hj A sj) ∧ (Ext (ES A) h hj) ∧ (TkL sj.tk (ts ++ [tokF s 1 i])) ∧ (sj.n = (ts ++ [tokF s 1 i]).length) ∧ (sj.pr ≤ lidF s 1 (ts ++ [tokF s 1 i]) 0) ∧ (Ch s i sj) ∧ (RI sj) ∧ l = [(0, .pointer (some ⟨A.m, 0, none⟩)), (1, .string s), (4, .int .i64 i), (5, .int .i64 (advF s 1 i : Nat))] ∧ hj = h') ?_ ?_
    · skip
      refine V_sr T.mix (by kernel_rfl) (fun K7 hK7 => ?_)
      refine S_mv rfl ?_
      refine S_bin rfl rfl rfl ?_
      refine S_nil (hK7 _ _ (V_keep [0, 1, 4, 5, 6, 19] (by simp only [proj, lk, reduceIte, Nat.reduceEqDiff]; rfl) ?_)); clear hK7
      refine V_condp rfl (fun c31 => ?_) (fun c31 => ?_)
      · skip
        refine V_sr T.mix (by kernel_rfl) (fun K8 hK8 => ?_)
        refine S_mv rfl ?_
        refine S_mv rfl ?_
        refine S_mv rfl ?_
        refine S_si T.kd9 rfl rfl (by omega) (by omega) ?_
        refine S_call T.hb151 rfl ?_
        simp only [Int.toNat_natCast]
        have hb := bAt_lt s i
        refine FC.mono (lit_spec A _ _ hM1 (bAt s i : Nat) (by omega) (by omega) (by simp only []; omega)) ?_
        rintro v h2 ⟨rfl, hM2, hE2⟩
        refine S_nil (hK8 _ _ (V_keep [0, 1, 4] (by simp only [proj, lk, reduceIte, Nat.reduceEqDiff]; rfl) ?_)); clear hK8
        refine V_reg T.mix (by kernel_rfl) ?_
        refine S_as rfl ?_
        refine S_nilk [0, 1, 4, 5] (by simp only [proj, lk, reduceIte, Nat.reduceEqDiff]; rfl) ?_
        obtain ⟨t1, t2⟩ := tok_lit (s := s) (level := 1) (i := i) (by rw [nF1]; omega)
        rw [t2]
        exact ⟨_, _, hM2, (hE.trans hE1).trans hE2, by rw [t1, hn]; exact tkl_snoc ⟨0, 0, bAt s i⟩ hT, by simp [hn], by rw [lid_snoc, hend]; simp only [costF]; omega, hC, hRI, rfl, rfl⟩
      · skip
        refine V_reg T.mix (by kernel_rfl) ?_
        refine S_mv rfl ?_
        refine S_mv rfl ?_
        refine S_mv rfl ?_
        refine S_call T.hb153 rfl ?_
        refine FC.mono (dup_spec A _ _ hM1 _ _ (by simp only []; omega)) ?_
        rintro v h2 ⟨rfl, hM2, hE2⟩
        refine S_nilk [0, 1, 4, 5] (by simp only [proj, lk, reduceIte, Nat.reduceEqDiff]; rfl) ?_
        obtain ⟨t1, t2⟩ := tok_dup (s := s) (level := 1) (i := i) (nF1 s i) (by omega)
        rw [t2]
        exact ⟨_, _, hM2, (hE.trans hE1).trans hE2, by rw [t1, hn]; exact tkl_snoc ⟨(bestF s i).1, (bestF s i).2, 0⟩ hT, by simp [hn], by rw [lid_snoc, hend]; simp only [costF]; omega, hC, hRI, rfl, rfl⟩
    rintro l h' ⟨hj, sj, hMj, hEj, hTj, hnj, hpj, hCj, hRj, rfl, rfl⟩
    have hadv := adv_pos s 1 i
    have hal := adv_le (s := s) (level := 1) (i := i) (by omega)
    have hps := pre_step hPre (by omega)
    refine V_sr T.mix (by kernel_rfl) (fun K9 hK9 => ?_)
    refine S_mv rfl ?_
    refine S_mv rfl ?_
    refine S_mv rfl ?_
    refine S_mv rfl ?_
    refine S_mv rfl ?_
    first | refine S_add rfl rfl (by omega) (by omega) ?_ | refine S_bin rfl rfl rfl ?_
    refine S_call T.hb154 rfl ?_
    refine FC.mono (enterAll_spec A _ _ hMj s i _ (by omega) (by omega) (by omega) hs) ?_
    rintro v h3 ⟨rfl, hMe, hEe⟩
    rw [show ((i : Int) + (advF s 1 i : Nat) - (i : Int)).toNat = advF s 1 i by omega, Int.toNat_natCast] at hMe
    refine S_nil (hK9 _ _ (V_keep [0, 1, 4, 5] (by simp only [proj, lk, reduceIte, Nat.reduceEqDiff]; rfl) ?_)); clear hK9
    refine V_reg T.mix (by kernel_rfl) ?_
    refine S_mv rfl ?_
    refine S_mv rfl ?_
    first | refine S_add rfl rfl (by omega) (by omega) ?_ | refine S_bin rfl rfl rfl ?_
    refine S_as rfl ?_
    refine S_nilk [0, 1, 4] (by simp only [proj, lk, reduceIte, Nat.reduceEqDiff]; rfl) ?_
    rw [show (i : Int) + (advF s 1 i : Nat) = ((i + advF s 1 i : Nat) : Int) by omega]
    have hsm := enterTo_same s i sj (advF s 1 i)
    exact hK2 _ _ ⟨_, by omega, i + advF s 1 i, _, _, _, hMe, hEj.trans hEe, by rw [hsm.1]; exact hTj, by rw [hsm.2.1]; exact hnj, by rw [hsm.2.2]; exact hpj, ch_enterTo hCj _, hps, by rw [end_snoc, hend, go_tok], ri_enterTo hRj hs _, rfl, rfl, rfl⟩
  · skip
    refine V_exitk [] rfl (by simp only [proj, lk, reduceIte, Nat.reduceEqDiff]; rfl) ?_
    -- end
    refine hR _ _ (ret0 rfl ?_)
    obtain ⟨e1, e2⟩ := pre_end hPre (by omega)
    subst e1
    exact ⟨rfl, sk, hM, hE, hT, hn, hp, hRI⟩
set_option maxHeartbeats 400000 in
theorem lazy_spec (A : MA) (st : MS) (h : Heap) (hM : Mat h A st) (s : ByteArray) (hs : s.size ≤ 256) (hn0 : st.n = 0) (hp0 : st.pr = 0) (hri : RI st) (hc0 : Ch s 0 st) :
    FC Tryz.prog 123 (#[.pointer (some ⟨A.m, 0, none⟩), .string s] : Array Value) h fun v h' => v = .tuple #[] ∧ ∃ st', Mat h' A st' ∧ Ext (ES A) h h' ∧ TkL st'.tk (toks s 2) ∧ st'.n = (toks s 2).length ∧ st'.pr ≤ lidF s 2 (toks s 2) 0 ∧ RI st' := by
  refine FC_of [(0, .pointer (some ⟨A.m, 0, none⟩)), (1, .string s)] Tryz.func123 rfl Tryz.ntmps123 (by simp) rfl (fun R hR => ?_)
  refine V_sr T.mix (by kernel_rfl) (fun K1 hK1 => ?_)
  refine S_as rfl ?_
  refine S_nil (hK1 _ _ (V_keep [0, 1, 4] (by simp only [proj, lk, reduceIte, Nat.reduceEqDiff]; rfl) ?_)); clear hK1
  refine V_sr T.mix (by kernel_rfl) (fun K2 hK2 => ?_)
  refine S_mv rfl ?_
  refine S_mv rfl ?_
  refine S_call T.hb152 rfl ?_
  refine FC.mono (seek_spec A _ _ hM s (0 : Int) (by omega) (by omega) hs (by simpa using hc0) (by first | omega | (simp only []; omega))) ?_
  rintro v h1 ⟨rfl, kh1, hkh1, hMh1, hEh1⟩
  simp only [Int.toNat_zero] at *
  refine S_mv rfl ?_
  refine S_ex rfl rfl ?_
  refine S_ex rfl rfl ?_
  refine S_as rfl ?_
  refine S_as rfl ?_
  refine S_nil (hK2 _ _ (V_keep [0, 1, 4, 5, 6] (by simp only [proj, lk, reduceIte, Nat.reduceEqDiff]; rfl) ?_)); clear hK2
  refine V_block ?_
  refine V_loop (fun m l h' => ∃ (i : Nat) (hk : Heap) (sk : MS) (ts : List Tok), (Mat hk A sk) ∧ (Ext (ES A) h hk) ∧ (TkL sk.tk ts) ∧ (sk.n = ts.length) ∧ (sk.pr ≤ lidF s 2 ts 0 + roomF s i) ∧ (Ch s i sk) ∧ (Pre s 2 ts i) ∧ (endF ts 0 = i) ∧ (RI sk) ∧ m = s.size - i ∧ l = [(0, .pointer (some ⟨A.m, 0, none⟩)), (1, .string s), (4, .int .i64 i), (5, .int .i64 (bestF s i).1), (6, .int .i64 (bestF s i).2)] ∧ hk = h') _ ⟨0, _, _, [], hMh1, hEh1, tkl_nil _, hn0, by simp only [hp0, lidF]; omega, hc0, pre_start s 2, rfl, hri, rfl, rfl, rfl⟩ ?_
  rintro m l h' ⟨i, hk, sk, ts, hM, hE, hT, hn, hp, hC, hPre, hend, hRI, rfl, rfl, rfl⟩ K3 hK3
  have hl := hPre.len
  have hle := hPre.le
  have hll := lid_le s 2 ts 0
  have hrm := room_le s i
  refine V_seq (fun K4 hK4 => ?_)
  refine V_sr T.mix (by kernel_rfl) (fun K5 hK5 => ?_)
  refine S_mv rfl ?_
  refine S_mv rfl ?_
  refine S_lens T.kd9 rfl ?_
  refine S_bin rfl rfl rfl ?_
  refine S_nil (hK5 _ _ (V_keep [0, 1, 4, 5, 6, 18] (by simp only [proj, lk, reduceIte, Nat.reduceEqDiff]; rfl) ?_)); clear hK5
  refine V_condp rfl (fun c47 => ?_) (fun c47 => ?_)
  · skip
    refine V_skipk [0, 1, 4, 5, 6] (by simp only [proj, lk, reduceIte, Nat.reduceEqDiff]; rfl) ?_
    refine hK4 _ _ ?_; clear hK4
    refine V_block ?_
    refine V_sr T.mix (by kernel_rfl) (fun K6 hK6 => ?_)
    refine S_mv rfl ?_
    refine S_mv rfl ?_
    refine S_mv rfl ?_
    refine S_call T.hb155 rfl ?_
    refine FC.mono (enter_spec A _ _ hM s i (by omega) (by omega) hs) ?_
    rintro v h2 ⟨rfl, hM2, hE2⟩
    simp only [Int.toNat_natCast] at hM2
    have hC2 := ch_enter hC
    have hsm := enter_same s i sk
    refine S_nil (hK6 _ _ (V_keep [0, 1, 4, 5, 6] (by simp only [proj, lk, reduceIte, Nat.reduceEqDiff]; rfl) ?_)); clear hK6
    refine V_seq (fun K7 hK7 => ?_)
    refine V_sr T.mix (by kernel_rfl) (fun K8 hK8 => ?_)
    refine S_mv rfl ?_
    refine S_bin rfl rfl rfl ?_
    refine S_nil (hK8 _ _ (V_keep [0, 1, 4, 5, 6, 24] (by simp only [proj, lk, reduceIte, Nat.reduceEqDiff]; rfl) ?_)); clear hK8
    refine V_condp rfl (fun c49 => ?_) (fun c49 => ?_)
    · skip
      refine V_sr T.mix (by kernel_rfl) (fun K9 hK9 => ?_)
      refine S_mv rfl ?_
      refine S_mv rfl ?_
      refine S_mv rfl ?_
      refine S_si T.kd9 rfl rfl (by omega) (by omega) ?_
      refine S_call T.hb151 rfl ?_
      simp only [Int.toNat_natCast]
      have hb := bAt_lt s i
      refine FC.mono (lit_spec A _ _ hM2 (bAt s i : Nat) (by omega) (by omega) (by omega)) ?_
      rintro v h3 ⟨rfl, hM3, hE3⟩
      refine S_nil (hK9 _ _ (V_keep [0, 1, 4] (by simp only [proj, lk, reduceIte, Nat.reduceEqDiff]; rfl) ?_)); clear hK9
      refine V_sr T.mix (by kernel_rfl) (fun K10 hK10 => ?_)
      refine S_mv rfl ?_
      first | refine S_add rfl rfl (by omega) (by omega) ?_ | refine S_bin rfl rfl rfl ?_
      refine S_as rfl ?_
      refine S_nil (hK10 _ _ (V_keep [0, 1, 4] (by simp only [proj, lk, reduceIte, Nat.reduceEqDiff]; rfl) ?_)); clear hK10
      refine V_sr T.mix (by kernel_rfl) (fun K11 hK11 => ?_)
      refine S_mv rfl ?_
      refine S_mv rfl ?_
      refine S_mv rfl ?_
      refine S_call T.hb152 rfl ?_
      refine FC.mono (seek_spec A _ _ hM3 s ((i : Int) + 1) (by omega) (by omega) hs (by rw [show ((i : Int) + 1).toNat = i + 1 by omega]; exact hC2) (by first | omega | (simp only []; omega))) ?_
      rintro v h4 ⟨rfl, kh4, hkh4, hMh4, hEh4⟩
      rw [show ((i : Int) + 1).toNat = i + 1 by omega] at *
      refine S_mv rfl ?_
      refine S_ex rfl rfl ?_
      refine S_ex rfl rfl ?_
      refine S_as rfl ?_
      refine S_as rfl ?_
      refine S_nil (hK11 _ _ (V_keep [0, 1, 4, 5, 6] (by simp only [proj, lk, reduceIte, Nat.reduceEqDiff]; rfl) ?_)); clear hK11
      refine V_exitk [0, 1, 4, 5, 6] rfl (by simp only [proj, lk, reduceIte, Nat.reduceEqDiff]; rfl) ?_
      obtain ⟨t1, t2⟩ := tok_lit (s := s) (level := 2) (i := i) (by rw [nF2_low s i (by omega)]; omega)
      have hps := pre_step hPre (by omega)
      rw [t1, t2] at hps
      exact hK3 _ _ ⟨_, by omega, i + 1, _, _, _, hMh4, ((hE.trans hE2).trans hE3).trans hEh4, by rw [hsm.2.1, hsm.1, hn]; exact tkl_snoc ⟨0, 0, bAt s i⟩ hT, by simp [hsm.2.1, hn], by rw [lid_snoc, hend]; simp only [costF]; simp; omega, hC2, hps, by rw [end_snoc, hend]; rfl, ri_enter hRI hs, rfl, rfl, rfl⟩
    · skip
      refine V_skipk [0, 1, 4, 5, 6] (by simp only [proj, lk, reduceIte, Nat.reduceEqDiff]; rfl) ?_
      refine hK7 _ _ ?_; clear hK7
      refine V_sr T.mix (by kernel_rfl) (fun K12 hK12 => ?_)
      refine S_as rfl ?_
      refine S_nil (hK12 _ _ (V_keep [0, 1, 4, 5, 6, 7] (by simp only [proj, lk, reduceIte, Nat.reduceEqDiff]; rfl) ?_)); clear hK12
      refine V_sr T.mix (by kernel_rfl) (fun K13 hK13 => ?_)
      refine S_as rfl ?_
      refine S_nil (hK13 _ _ (V_keep [0, 1, 4, 5, 6, 7, 8] (by simp only [proj, lk, reduceIte, Nat.reduceEqDiff]; rfl) ?_)); clear hK13
      refine V_seqJ (fun l h' => ∃ (hj : Heap) (sj : MS) (on od : Nat), (Mat hj A sj) ∧ (Ext (ES A) h hj) ∧ (TkL sj.tk ts) ∧ (sj.n = ts.length) ∧ (sj.pr ≤ lidF s 2 ts 0 + roomF s i + (if (bestF s i).1 < 10 then roomF s (i + 1) else 0)) ∧ (Ch s (i + 1) sj) ∧ ((bestF s i).1 < 10 ∧ on = (bestF s (i + 1)).1 ∧ od = (bestF s (i + 1)).2 ∨ ¬ (bestF s i).1 < 10 ∧ on = 0) ∧ (RI sj) ∧ l = [(0, .pointer (some ⟨A.m, 0, none⟩)), (1, .string s), (4, .int .i64 i), (5, .int .i64 (bestF s i).1), (6, .int .i64 (bestF s i).2), (7, .int .i64 on), (8, .int .i64 od)] ∧ hj = h') ?_ ?_
      · skip
        refine V_sr T.mix (by kernel_rfl) (fun K15 hK15 => ?_)
        refine S_mv rfl ?_
        refine S_bin rfl rfl rfl ?_
        refine S_nil (hK15 _ _ (V_keep [0, 1, 4, 5, 6, 7, 8, 40] (by simp only [proj, lk, reduceIte, Nat.reduceEqDiff]; rfl) ?_)); clear hK15
        refine V_condp rfl (fun c57 => ?_) (fun c57 => ?_)
        · skip
          refine V_reg T.mix (by kernel_rfl) ?_
          refine S_mv rfl ?_
          refine S_mv rfl ?_
          refine S_mv rfl ?_
          first | refine S_add rfl rfl (by omega) (by omega) ?_ | refine S_bin rfl rfl rfl ?_
          refine S_call T.hb152 rfl ?_
          refine FC.mono (seek_spec A _ _ hM2 s ((i : Int) + 1) (by omega) (by omega) hs (by rw [show ((i : Int) + 1).toNat = i + 1 by omega]; exact hC2) (by first | omega | (simp only []; omega))) ?_
          rintro v h4 ⟨rfl, kh4, hkh4, hMh4, hEh4⟩
          rw [show ((i : Int) + 1).toNat = i + 1 by omega] at *
          refine S_mv rfl ?_
          refine S_ex rfl rfl ?_
          refine S_ex rfl rfl ?_
          refine S_as rfl ?_
          refine S_as rfl ?_
          refine S_nilk [0, 1, 4, 5, 6, 7, 8] (by simp only [proj, lk, reduceIte, Nat.reduceEqDiff]; rfl) ?_
          exact ⟨_, _, _, _, hMh4, (hE.trans hE2).trans hEh4, by rw [show _ = sk.tk from hsm.1]; exact hT, by rw [← hn]; exact hsm.2.1, by rw [if_pos (by omega)]; simp only [hsm.2.2]; omega, hC2, .inl ⟨by omega, rfl, rfl⟩, ri_enter hRI hs, rfl, rfl⟩
        · skip
          refine V_skipk [0, 1, 4, 5, 6, 7, 8] (by simp only [proj, lk, reduceIte, Nat.reduceEqDiff]; rfl) ?_
          exact ⟨_, _, 0, 0, hM2, hE.trans hE2, by rw [hsm.1]; exact hT, by rw [← hn]; exact hsm.2.1, by rw [if_neg (by omega), hsm.2.2]; omega, hC2, .inr ⟨by omega, rfl⟩, ri_enter hRI hs, rfl, rfl⟩
      rintro l h' ⟨hj, sj, on, od, hMj, hEj, hTj, hnj, hpj, hCj, hon, hRj, rfl, rfl⟩
      have hr0 := room_le s i
      have hr1 := room_le s (i + 1)
      refine V_seq (fun K16 hK16 => ?_)
      refine V_sr T.mix (by kernel_rfl) (fun K17 hK17 => ?_)
      refine S_mv rfl ?_
      refine S_mv rfl ?_
      refine S_bin rfl rfl rfl ?_
      refine S_nil (hK17 _ _ (V_keep [0, 1, 4, 5, 6, 7, 8, 51] (by simp only [proj, lk, reduceIte, Nat.reduceEqDiff]; rfl) ?_)); clear hK17
      refine V_condp rfl (fun c60 => ?_) (fun c60 => ?_)
      · skip
        refine V_sr T.mix (by kernel_rfl) (fun K18 hK18 => ?_)
        refine S_mv rfl ?_
        refine S_mv rfl ?_
        refine S_mv rfl ?_
        refine S_si T.kd9 rfl rfl (by omega) (by omega) ?_
        refine S_call T.hb151 rfl ?_
        simp only [Int.toNat_natCast]
        have hb := bAt_lt s i
        refine FC.mono (lit_spec A _ _ hMj (bAt s i : Nat) (by omega) (by omega) (by omega)) ?_
        rintro v h5 ⟨rfl, hM5, hE5⟩
        refine S_nil (hK18 _ _ (V_keep [0, 1, 4, 7, 8] (by simp only [proj, lk, reduceIte, Nat.reduceEqDiff]; rfl) ?_)); clear hK18
        refine V_sr T.mix (by kernel_rfl) (fun K19 hK19 => ?_)
        refine S_mv rfl ?_
        first | refine S_add rfl rfl (by omega) (by omega) ?_ | refine S_bin rfl rfl rfl ?_
        refine S_as rfl ?_
        refine S_nil (hK19 _ _ (V_keep [0, 1, 4, 7, 8] (by simp only [proj, lk, reduceIte, Nat.reduceEqDiff]; rfl) ?_)); clear hK19
        refine V_sr T.mix (by kernel_rfl) (fun K20 hK20 => ?_)
        refine S_mv rfl ?_
        refine S_as rfl ?_
        refine S_nil (hK20 _ _ (V_keep [0, 1, 4, 5, 8] (by simp only [proj, lk, reduceIte, Nat.reduceEqDiff]; rfl) ?_)); clear hK20
        refine V_sr T.mix (by kernel_rfl) (fun K21 hK21 => ?_)
        refine S_mv rfl ?_
        refine S_as rfl ?_
        refine S_nil (hK21 _ _ (V_keep [0, 1, 4, 5, 6] (by simp only [proj, lk, reduceIte, Nat.reduceEqDiff]; rfl) ?_)); clear hK21
        refine V_exitk [0, 1, 4, 5, 6] rfl (by simp only [proj, lk, reduceIte, Nat.reduceEqDiff]; rfl) ?_
        have hlate := nF2_late s i (by omega)
        obtain ⟨t1, t2⟩ := tok_lit (s := s) (level := 2) (i := i) hlate
        have hps := pre_step hPre (by omega)
        rw [t1, t2] at hps
        have ho1 : on = (bestF s (i + 1)).1 ∧ od = (bestF s (i + 1)).2 ∧ (bestF s i).1 < 10 := by rcases hon with h | h <;> omega
        rw [ho1.1, ho1.2.1]
        rw [if_pos ho1.2.2] at hpj
        exact hK3 _ _ ⟨_, by omega, i + 1, _, _, _, hM5, hEj.trans hE5, by rw [hnj]; exact tkl_snoc ⟨0, 0, bAt s i⟩ hTj, by simp [hnj], by rw [lid_snoc, hend]; simp only [costF]; simp; omega, hCj, hps, by rw [end_snoc, hend]; rfl, hRj, rfl, rfl, rfl⟩
      · skip
        refine V_skipk [0, 1, 4, 5, 6] (by simp only [proj, lk, reduceIte, Nat.reduceEqDiff]; rfl) ?_
        refine hK16 _ _ ?_; clear hK16
        refine V_sr T.mix (by kernel_rfl) (fun K22 hK22 => ?_)
        refine S_mv rfl ?_
        refine S_mv rfl ?_
        refine S_mv rfl ?_
        refine S_call T.hb153 rfl ?_
        have hbr := best_range (s := s) (i := i) (by omega)
        refine FC.mono (dup_spec A _ _ hMj _ _ (by omega)) ?_
        rintro v h6 ⟨rfl, hM6, hE6⟩
        refine S_nil (hK22 _ _ (V_keep [0, 1, 4, 5] (by simp only [proj, lk, reduceIte, Nat.reduceEqDiff]; rfl) ?_)); clear hK22
        refine V_sr T.mix (by kernel_rfl) (fun K23 hK23 => ?_)
        refine S_mv rfl ?_
        refine S_mv rfl ?_
        refine S_mv rfl ?_
        first | refine S_add rfl rfl (by omega) (by omega) ?_ | refine S_bin rfl rfl rfl ?_
        refine S_mv rfl ?_
        refine S_mv rfl ?_
        first | refine S_add rfl rfl (by omega) (by omega) ?_ | refine S_bin rfl rfl rfl ?_
        refine S_call T.hb154 rfl ?_
        refine FC.mono (enterAll_spec A _ _ hM6 s _ _ (by omega) (by omega) (by omega) hs) ?_
        rintro v h7 ⟨rfl, hM7, hE7⟩
        rw [show ((i : Int) + ((bestF s i).1 : Nat) - ((i : Int) + 1)).toNat = (bestF s i).1 - 1 by omega, show ((i : Int) + 1).toNat = i + 1 by omega] at hM7
        have hsm7 := enterTo_same s (i + 1) { sj with tk := updT sj.tk sj.n (bestF s i).1 (bestF s i).2 0, n := sj.n + 1 } ((bestF s i).1 - 1)
        have hC8 := ch_enterTo (s := s) (p := i + 1) (st := { sj with tk := updT sj.tk sj.n (bestF s i).1 (bestF s i).2 0, n := sj.n + 1 }) hCj ((bestF s i).1 - 1)
        rw [show i + 1 + ((bestF s i).1 - 1) = i + (bestF s i).1 by omega] at hC8
        refine S_nil (hK23 _ _ (V_keep [0, 1, 4, 5] (by simp only [proj, lk, reduceIte, Nat.reduceEqDiff]; rfl) ?_)); clear hK23
        refine V_sr T.mix (by kernel_rfl) (fun K24 hK24 => ?_)
        refine S_mv rfl ?_
        refine S_mv rfl ?_
        first | refine S_add rfl rfl (by omega) (by omega) ?_ | refine S_bin rfl rfl rfl ?_
        refine S_as rfl ?_
        refine S_nil (hK24 _ _ (V_keep [0, 1, 4] (by simp only [proj, lk, reduceIte, Nat.reduceEqDiff]; rfl) ?_)); clear hK24
        refine V_reg T.mix (by kernel_rfl) ?_
        refine S_mv rfl ?_
        refine S_mv rfl ?_
        refine S_mv rfl ?_
        refine S_call T.hb152 rfl ?_
        refine FC.mono (seek_spec A _ _ hM7 s ((i : Int) + ((bestF s i).1 : Nat)) (by omega) (by omega) hs (by rw [show ((i : Int) + ((bestF s i).1 : Nat)).toNat = i + (bestF s i).1 by omega]; exact hC8) (by rw [hsm7.2.2]; simp only []; split at hpj <;> omega)) ?_
        rintro v h8 ⟨rfl, kh8, hkh8, hMh8, hEh8⟩
        rw [show ((i : Int) + ((bestF s i).1 : Nat)).toNat = i + (bestF s i).1 by omega] at *
        refine S_mv rfl ?_
        refine S_ex rfl rfl ?_
        refine S_ex rfl rfl ?_
        refine S_as rfl ?_
        refine S_as rfl ?_
        refine S_nilk [0, 1, 4, 5, 6] (by simp only [proj, lk, reduceIte, Nat.reduceEqDiff]; rfl) ?_
        obtain ⟨t1, t2⟩ := tok_dup (s := s) (level := 2) (i := i) (nF2_low s i (by rcases hon with h | h <;> omega)) (by omega)
        have hps := pre_step hPre (by omega)
        rw [t1, t2] at hps
        rw [show (i : Int) + ((bestF s i).1 : Nat) = ((i + (bestF s i).1 : Nat) : Int) by omega]
        exact hK3 _ _ ⟨_, by omega, i + (bestF s i).1, _, _, _, hMh8, ((hEj.trans hE6).trans hE7).trans hEh8, by rw [hsm7.1, hnj]; exact tkl_snoc ⟨(bestF s i).1, (bestF s i).2, 0⟩ hTj, by simp only [hsm7.2.1]; simp [hnj], by simp only [hsm7.2.2]; rw [lid_snoc, hend]; simp only [costF]; (by_cases hb10 : (bestF s i).1 < 10); (rw [if_pos hb10] at hpj; rw [if_pos ⟨by omega, trivial, by omega⟩]; omega); (rw [if_neg hb10] at hpj; omega), hC8, hps, by rw [end_snoc, hend]; simp only [goF]; rw [if_neg (by omega)]; omega, ri_enterTo (st := { sj with tk := updT sj.tk sj.n (bestF s i).1 (bestF s i).2 0, n := sj.n + 1 }) hRj hs _, rfl, rfl, rfl⟩
  · skip
    refine V_exitk [] rfl (by simp only [proj, lk, reduceIte, Nat.reduceEqDiff]; rfl) ?_
    -- end
    refine hR _ _ (ret0 rfl ?_)
    obtain ⟨e1, e2⟩ := pre_end hPre (by omega)
    subst e1
    have hz : roomF s i = 0 := by unfold roomF; rw [if_pos (by omega)]
    exact ⟨rfl, sk, hM, hE, hT, hn, by omega, hRI⟩
end Go.Proofs.Qxb6500404aGreat.LzW
