import Derived.Test.Qxb6500404aGreatCb
set_option linter.unusedVariables false
set_option linter.unusedSimpArgs false
namespace Go.Proofs.Qxb6500404aGreat.LzW
open Go.Eng Go.Lz
set_option maxHeartbeats 400000 in
theorem parse_spec (A : MA) (st : MS) (h : Heap) (hM : Mat h A st) (s : ByteArray) (level : Int) (hri : RI st) (hn256 : st.n ≤ 256) :
    FC Tryz.prog 92 (#[.pointer (some ⟨A.m, 0, none⟩), .string s, .int .i64 level] : Array Value) h fun v h' => ∃ st', Mat h' A st' ∧ Ext (ES A) h h' ∧ RI st' ∧ st'.n ≤ 256 ∧
      ((256 < s.size ∧ v = .tuple #[.slice none 0 0, .int .i64 1] ∧ st'.pr = 0) ∨
       (s.size ≤ 256 ∧ (level < 0 ∨ 2 < level) ∧ v = .tuple #[.slice none 0 0, .int .i64 13] ∧ st'.pr = 0) ∨
       (s.size ≤ 256 ∧ 0 ≤ level ∧ level ≤ 2 ∧ st'.pr ≤ lid0 s level ∧ ∃ nb, v = .tuple #[.slice (some ⟨nb, 0, none⟩) (toks s level).length (toks s level).length, .int .i64 0] ∧ h.size ≤ nb ∧ TokB h' nb (toks s level))) := by
  refine FC_of [(0, .pointer (some ⟨A.m, 0, none⟩)), (1, .string s), (2, .int .i64 level)] Tryz.func92 rfl Tryz.ntmps92 (by simp) rfl (fun R hR => ?_)
  refine V_sr T.mix (by kernel_rfl) (fun K1 hK1 => ?_)
  refine S_as rfl ?_
  refine S_as rfl ?_
  refine S_nil (hK1 _ _ (V_keep [0, 1, 2] (by simp only [proj, lk, reduceIte, Nat.reduceEqDiff]; rfl) ?_)); clear hK1
  refine V_sr T.mix (by kernel_rfl) (fun K2 hK2 => ?_)
  refine S_mv rfl ?_
  refine S_nc rfl ?_
  first | refine S_fa0 T.f73_4 rfl ?_ | refine S_fa T.f73_4 rfl ?_
  refine S_st T.sz3 rfl rfl rfl rfl (by simp (disch := omega) only [hM.o3, hM.o4, hM.oh, hM.op, hM.ot]) ?_
  generalize hh : putH _ _ _ = h1
  have hMh1 : Mat h1 A { st with pr := 0 } := by rw [← hh]; exact hM.put_pr rfl
  have hEh1 : Ext (ES A) h h1 := by rw [← hh]; exact Ext.put _ _ (.inl rfl)
  clear hh
  replace hM := hMh1
  refine S_nil (hK2 _ _ (V_keep [0, 1, 2] (by simp only [proj, lk, reduceIte, Nat.reduceEqDiff]; rfl) ?_)); clear hK2
  refine V_seq (fun K3 hK3 => ?_)
  refine V_sr T.mix (by kernel_rfl) (fun K4 hK4 => ?_)
  refine S_mv rfl ?_
  refine S_lens T.kd9 rfl ?_
  refine S_bin rfl rfl rfl ?_
  refine S_nil (hK4 _ _ (V_keep [0, 1, 2, 14] (by simp only [proj, lk, reduceIte, Nat.reduceEqDiff]; rfl) ?_)); clear hK4
  refine V_condp rfl (fun c31 => ?_) (fun c31 => ?_)
  · skip
    refine V_sr T.mix (by kernel_rfl) (fun K5 hK5 => ?_)
    refine S_as rfl ?_
    refine S_as rfl ?_
    refine S_nil (hK5 _ _ (V_keep [6, 7] (by simp only [proj, lk, reduceIte, Nat.reduceEqDiff]; rfl) ?_)); clear hK5
    refine V_ret ?_
    refine hR _ _ (ret2 rfl rfl rfl ?_)
    exact ⟨_, hM, hEh1, hri, hn256, .inl ⟨by omega, rfl, rfl⟩⟩
  · skip
    refine V_skipk [0, 1, 2] (by simp only [proj, lk, reduceIte, Nat.reduceEqDiff]; rfl) ?_
    refine hK3 _ _ ?_; clear hK3
    refine V_seq (fun K6 hK6 => ?_)
    refine V_sr T.mix (by kernel_rfl) (fun K7 hK7 => ?_)
    refine S_cut (K' := fun l h' => ∃ b : Bool, (b = true ↔ (level < 0 ∨ 2 < level)) ∧ l = [(0, .pointer (some ⟨A.m, 0, none⟩)), (1, .string s), (2, .int .i64 level), (20, .bool b)] ∧ h1 = h') ?_ ?_
    · skip
      refine S_mv rfl ?_
      refine S_bin rfl rfl rfl ?_
      refine S_mv rfl ?_
      refine S_dec (fun g34 => ?_) (fun g34 => ?_)
      · skip
        refine S_gf rfl ?_
        refine S_gf rfl ?_
        refine S_pt rfl rfl ?_
        exact S_nilk [0, 1, 2, 20] (by simp only [proj, lk, reduceIte, Nat.reduceEqDiff]; rfl) ⟨_, (by first | (simp [*]; done) | (simp; omega)), rfl, rfl⟩
      · skip
        refine S_gt rfl ?_
        refine S_mv rfl ?_
        refine S_gt rfl ?_
        refine S_bin rfl rfl rfl ?_
        refine S_pf rfl rfl ?_
        exact S_nilk [0, 1, 2, 20] (by simp only [proj, lk, reduceIte, Nat.reduceEqDiff]; rfl) ⟨_, (by first | (simp [*]; done) | (simp; omega)), rfl, rfl⟩
    rintro l h' ⟨b, hb34, rfl, rfl⟩
    refine hK7 _ _ ?_; clear hK7
    refine V_condb rfl (fun c34 => ?_) (fun c34 => ?_)
    · replace c34 := hb34.1 c34
      refine V_sr T.mix (by kernel_rfl) (fun K9 hK9 => ?_)
      refine S_as rfl ?_
      refine S_as rfl ?_
      refine S_nil (hK9 _ _ (V_keep [6, 7] (by simp only [proj, lk, reduceIte, Nat.reduceEqDiff]; rfl) ?_)); clear hK9
      refine V_ret ?_
      refine hR _ _ (ret2 rfl rfl rfl ?_)
      exact ⟨_, hM, hEh1, hri, hn256, .inr (.inl ⟨by omega, c34, rfl, rfl⟩)⟩
    · replace c34 : ¬ _ := fun hp => Bool.false_ne_true (c34.symm.trans (hb34.2 hp))
      refine V_skipk [0, 1, 2] (by simp only [proj, lk, reduceIte, Nat.reduceEqDiff]; rfl) ?_
      refine hK6 _ _ ?_; clear hK6
      refine V_sr T.mix (by kernel_rfl) (fun K10 hK10 => ?_)
      refine S_mv rfl ?_
      refine S_nc rfl ?_
      first | refine S_fa0 T.f73_3 rfl ?_ | refine S_fa T.f73_3 rfl ?_
      refine S_st T.sz3 rfl rfl rfl rfl (by simp (disch := omega) only [hM.o3, hM.o4, hM.oh, hM.op, hM.ot]) ?_
      generalize hh : putH _ _ _ = h2
      have hMh2 : Mat h2 A { st with n := 0, pr := 0 } := by rw [← hh]; exact hM.put_n rfl
      have hEh2 : Ext (ES A) h1 h2 := by rw [← hh]; exact Ext.put _ _ (.inl rfl)
      clear hh
      replace hM := hMh2
      refine S_nil (hK10 _ _ (V_keep [0, 1, 2] (by simp only [proj, lk, reduceIte, Nat.reduceEqDiff]; rfl) ?_)); clear hK10
      refine V_seqJ (fun l h' => ∃ (hj : Heap) (sj : MS), (Mat hj A sj) ∧ (Ext (ES A) h hj) ∧ (TkL sj.tk (toks s level)) ∧ (sj.n = (toks s level).length) ∧ (sj.pr ≤ lid0 s level) ∧ (RI sj) ∧ (s.size ≤ 256) ∧ l = [(0, .pointer (some ⟨A.m, 0, none⟩))] ∧ hj = h') ?_ ?_
      · skip
        refine V_sr T.mix (by kernel_rfl) (fun K12 hK12 => ?_)
        refine S_mv rfl ?_
        refine S_nil (hK12 _ _ (V_keep [0, 1, 24] (by simp only [proj, lk, reduceIte, Nat.reduceEqDiff]; rfl) ?_)); clear hK12
        refine V_block ?_
        refine V_sr T.mix (by kernel_rfl) (fun K13 hK13 => ?_)
        refine S_bin rfl rfl rfl ?_
        refine S_as rfl ?_
        refine S_nil (hK13 _ _ (V_keep [0, 1, 24, 25] (by simp only [proj, lk, reduceIte, Nat.reduceEqDiff]; rfl) ?_)); clear hK13
        refine V_condp rfl (fun c39 => ?_) (fun c39 => ?_)
        · skip
          subst c39
          refine V_reg T.mix (by kernel_rfl) ?_
          refine S_mv rfl ?_
          refine S_mv rfl ?_
          refine S_call T.hb121 rfl ?_
          refine FC.mono (plain_spec A _ _ hM s (by omega) rfl rfl hri) ?_
          rintro v h4 ⟨rfl, s4, hM4, hE4, hT4, hn4, hp4, hr4⟩
          refine S_nilk [0] (by simp only [proj, lk, reduceIte, Nat.reduceEqDiff]; rfl) ?_
          exact ⟨_, _, hM4, (hEh1.trans hEh2).trans hE4, hT4, hn4, by rw [hp4]; exact Nat.zero_le _, hr4, by omega, rfl, rfl⟩
        · skip
          refine V_sr T.mix (by kernel_rfl) (fun K14 hK14 => ?_)
          refine S_bin rfl rfl rfl ?_
          refine S_as rfl ?_
          refine S_nil (hK14 _ _ (V_keep [0, 1, 24, 30] (by simp only [proj, lk, reduceIte, Nat.reduceEqDiff]; rfl) ?_)); clear hK14
          refine V_condp rfl (fun c41 => ?_) (fun c41 => ?_)
          · skip
            subst c41
            refine V_sr T.mix (by kernel_rfl) (fun K15 hK15 => ?_)
            refine S_mv rfl ?_
            refine S_call T.hb23 rfl ?_
            refine FC.mono (wipe_spec A _ _ hM) ?_
            rintro v h3 ⟨rfl, s3, hM3, hE3, hall, _, a3, b3, d3⟩
            have hr3 : RI s3 := ⟨fun k hk => by rw [hall k hk]; omega, fun k hk => by rw [d3]; exact hri.2 k hk⟩
            refine S_nil (hK15 _ _ (V_keep [0, 1] (by simp only [proj, lk, reduceIte, Nat.reduceEqDiff]; rfl) ?_)); clear hK15
            refine V_reg T.mix (by kernel_rfl) ?_
            refine S_mv rfl ?_
            refine S_mv rfl ?_
            refine S_call T.hb122 rfl ?_
            refine FC.mono (greedy_spec A _ _ hM3 s (by omega) a3 b3 hr3 (ch_zero s _ hall)) ?_
            rintro v h4 ⟨rfl, s4, hM4, hE4, hT4, hn4, hp4, hr4⟩
            refine S_nilk [0] (by simp only [proj, lk, reduceIte, Nat.reduceEqDiff]; rfl) ?_
            exact ⟨_, _, hM4, ((hEh1.trans hEh2).trans hE3).trans hE4, hT4, hn4, by unfold lid0; rw [if_neg (by omega)]; exact hp4, hr4, by omega, rfl, rfl⟩
          · skip
            refine V_sr T.mix (by kernel_rfl) (fun K16 hK16 => ?_)
            refine S_bin rfl rfl rfl ?_
            refine S_as rfl ?_
            refine S_nil (hK16 _ _ (V_keep [0, 1, 37] (by simp only [proj, lk, reduceIte, Nat.reduceEqDiff]; rfl) ?_)); clear hK16
            refine V_condp rfl (fun c44 => ?_) (fun c44 => ?_)
            · skip
              subst c44
              refine V_sr T.mix (by kernel_rfl) (fun K17 hK17 => ?_)
              refine S_mv rfl ?_
              refine S_call T.hb23 rfl ?_
              refine FC.mono (wipe_spec A _ _ hM) ?_
              rintro v h3 ⟨rfl, s3, hM3, hE3, hall, _, a3, b3, d3⟩
              have hr3 : RI s3 := ⟨fun k hk => by rw [hall k hk]; omega, fun k hk => by rw [d3]; exact hri.2 k hk⟩
              refine S_nil (hK17 _ _ (V_keep [0, 1] (by simp only [proj, lk, reduceIte, Nat.reduceEqDiff]; rfl) ?_)); clear hK17
              refine V_reg T.mix (by kernel_rfl) ?_
              refine S_mv rfl ?_
              refine S_mv rfl ?_
              refine S_call T.hb123 rfl ?_
              refine FC.mono (lazy_spec A _ _ hM3 s (by omega) a3 b3 hr3 (ch_zero s _ hall)) ?_
              rintro v h4 ⟨rfl, s4, hM4, hE4, hT4, hn4, hp4, hr4⟩
              refine S_nilk [0] (by simp only [proj, lk, reduceIte, Nat.reduceEqDiff]; rfl) ?_
              exact ⟨_, _, hM4, ((hEh1.trans hEh2).trans hE3).trans hE4, hT4, hn4, by unfold lid0; rw [if_neg (by omega)]; exact hp4, hr4, by omega, rfl, rfl⟩
            · skip
              exfalso; omega
      rintro l h' ⟨hj, sj, hM, hEj, hTj, hnj, hpj, hRj, hsz, rfl, rfl⟩
      have htl := toks_len s level
      refine V_sr T.mix (by kernel_rfl) (fun K18 hK18 => ?_)
      refine S_mv rfl ?_
      refine S_nc rfl ?_
      first | refine S_fa0 T.f73_3 rfl ?_ | refine S_fa T.f73_3 rfl ?_
      refine S_ldK T.ag3 rfl (fun K' hK' => ?_)
      simp (disch := omega) only [hM.c0, hM.c1, hM.c2, hM.c3, hM.c4, hM.ch, hM.cp, hM.ct, oP_some, Nat.add_zero]
      refine hK' _ ?_; clear hK' K'
      refine S_mk T.ei71 rfl rfl (by omega) (by omega) (by omega) (by omega) ?_
      rw [mkZ_three, hnj]
      generalize hh : hj.push _ = h5
      have hB5 : B h5 hj.size (arr ((toks s level).length * 3) fun _ => .int .i64 0) 174 := by rw [← hh]; exact B.new _ _ _
      have hMj0 := hM
      replace hM : Mat h5 A sj := by rw [← hh]; exact hM.push _
      have hE5 : Ext (ES A) hj h5 := by rw [← hh]; exact Ext.push _ _ _
      clear hh
      refine S_as rfl ?_
      refine S_nil (hK18 _ _ (V_keep [0, 8] (by simp only [proj, lk, reduceIte, Nat.reduceEqDiff]; rfl) ?_)); clear hK18
      refine V_sr T.mix (by kernel_rfl) (fun K19 hK19 => ?_)
      refine S_mv rfl ?_
      refine S_mv rfl ?_
      refine S_nc rfl ?_
      first | refine S_fa0 T.f73_2 rfl ?_ | refine S_fa T.f73_2 rfl ?_
      refine S_ldK T.ag71 rfl (fun K' hK' => ?_)
      simp (disch := omega) only [hM.c0, hM.c1, hM.c2, hM.c3, hM.c4, hM.ch, hM.cp, hM.ct, oP_some, Nat.add_zero]
      refine hK' _ ?_; clear hK' K'
      refine S_mv rfl ?_
      refine S_nc rfl ?_
      first | refine S_fa0 T.f73_3 rfl ?_ | refine S_fa T.f73_3 rfl ?_
      refine S_ldK T.ag3 rfl (fun K' hK' => ?_)
      simp (disch := omega) only [hM.c0, hM.c1, hM.c2, hM.c3, hM.c4, hM.ch, hM.cp, hM.ct, oP_some, Nat.add_zero]
      refine hK' _ ?_; clear hK' K'
      refine S_sl rfl rfl rfl (sliceV_hi T.el71 (by omega) (by omega)) ?_
      rw [hnj]
      refine S_copy T.el71 rfl (k := (toks s level).length) (by simp) hM.tk hB5 (by omega) (by omega) (fun j hj => rfl) (fun h6 hB6 hE6 hz6 => ?_)
      refine S_nil (hK19 _ _ (V_keep [8] (by simp only [proj, lk, reduceIte, Nat.reduceEqDiff]; rfl) ?_)); clear hK19
      refine V_sr T.mix (by kernel_rfl) (fun K20 hK20 => ?_)
      refine S_mv rfl ?_
      refine S_as rfl ?_
      refine S_as rfl ?_
      refine S_nil (hK20 _ _ (V_keep [6, 7] (by simp only [proj, lk, reduceIte, Nat.reduceEqDiff]; rfl) ?_)); clear hK20
      refine V_ret ?_
      refine hR _ _ (ret2 rfl rfl rfl ?_)
      have hM6 : Mat h6 A sj := hM.ext hE6 (fun b hb e => by have := Mat.lt hMj0 hb; omega)
      refine ⟨sj, hM6, (hEj.trans hE5).step hE6 (fun b hb e => by have := hEj.1; omega), hRj, by omega, .inr (.inr ⟨hsz, by omega, by omega, hpj, hj.size, rfl, hEj.1, ?_⟩)⟩
      unfold TokB
      rwa [arr_ext (fun j hj => by rw [if_pos hj, hTj j hj])] at hB6
set_option maxHeartbeats 400000 in
theorem new_spec (h : Heap) :
    FC Tryz.prog 15 (#[] : Array Value) h fun v h' => ∃ A st, v = .pointer (some ⟨A.m, 0, none⟩) ∧ Mat h' A st ∧ Ext (fun _ => False) h h' ∧ (∀ b, ES A b → h.size ≤ b) ∧ RI st ∧ st.n = 0 ∧ st.pr = 0 := by
  refine FC_of [] Tryz.func15 rfl Tryz.ntmps15 (by simp) rfl (fun R hR => ?_)
  refine V_sr T.mix (by kernel_rfl) (fun K1 hK1 => ?_)
  refine S_as rfl ?_
  refine S_nil (hK1 _ _ (V_keep [] (by simp only [proj, lk, reduceIte, Nat.reduceEqDiff]; rfl) ?_)); clear hK1
  refine V_sr T.mix (by kernel_rfl) (fun K2 hK2 => ?_)
  refine S_bld rfl (T.bld73) ?_
  refine S_box rfl ?_
  generalize hh : Array.push h _ = h1
  have hS : B h1 h.size #[.slice none 0 0, .slice none 0 0, .slice none 0 0, .int .i64 0, .int .i64 0] 73 := by rw [← hh]; exact B.new _ _ _
  have hE1 : Ext (fun _ => False) h h1 := by rw [← hh]; exact Ext.push _ _ _
  have hz1 : h1.size = h.size + 1 := by rw [← hh]; simp
  clear hh
  refine S_as rfl ?_
  refine S_nil (hK2 _ _ (V_keep [1] (by simp only [proj, lk, reduceIte, Nat.reduceEqDiff]; rfl) ?_)); clear hK2
  refine V_sr T.mix (by kernel_rfl) (fun K3 hK3 => ?_)
  refine S_mv rfl ?_
  refine S_mk T.ei56 rfl rfl (by omega) (by omega) (by omega) (by omega) ?_
  simp only [show Int.toNat 64 = 64 from rfl, Nat.reduceMul, Nat.mul_one, mkZ_one]
  generalize hh : Array.push h1 _ = h2
  have hBh2 : B h2 h1.size (arr 64 fun _ => .int .i64 0) 3 := by rw [← hh]; exact B.new _ _ _
  have hzh2 : h2.size = h1.size + 1 := by rw [← hh]; simp
  have hEh2 : Ext (fun _ => False) h1 h2 := by rw [← hh]; exact Ext.push _ _ _
  clear hh
  replace hS := hS.ext hEh2 (fun f => f)
  refine S_nc rfl ?_
  first | refine S_fa0 T.f73_0 rfl ?_ | refine S_fa T.f73_0 rfl ?_
  refine S_st T.sz56 rfl rfl rfl rfl (hS.ok (by simp)) ?_
  generalize hh : putH _ _ _ = h3
  replace hS : B h3 h.size #[.slice (some ⟨h1.size, 0, none⟩) 64 64, .slice none 0 0, .slice none 0 0, .int .i64 0, .int .i64 0] 73 := by rw [← hh]; exact hS.put 0 _
  have hzh3 : h3.size = h2.size := by rw [← hh]; exact size_put _ _
  have hEh3 : Ext (fun b => b = h.size) h2 h3 := by rw [← hh]; exact Ext.put _ _ rfl
  clear hh
  replace hBh2 := hBh2.ext hEh3 (show ¬ _ = h.size from by omega)
  refine S_nil (hK3 _ _ (V_keep [1] (by simp only [proj, lk, reduceIte, Nat.reduceEqDiff]; rfl) ?_)); clear hK3
  refine V_sr T.mix (by kernel_rfl) (fun K4 hK4 => ?_)
  refine S_mv rfl ?_
  refine S_mk T.ei56 rfl rfl (by omega) (by omega) (by omega) (by omega) ?_
  simp only [show Int.toNat 16 = 16 from rfl, Nat.reduceMul, Nat.mul_one, mkZ_one]
  generalize hh : Array.push h3 _ = h4
  have hBh4 : B h4 h3.size (arr 16 fun _ => .int .i64 0) 3 := by rw [← hh]; exact B.new _ _ _
  have hzh4 : h4.size = h3.size + 1 := by rw [← hh]; simp
  have hEh4 : Ext (fun _ => False) h3 h4 := by rw [← hh]; exact Ext.push _ _ _
  clear hh
  replace hS := hS.ext hEh4 (fun f => f)
  replace hBh2 := hBh2.ext hEh4 (fun f => f)
  refine S_nc rfl ?_
  first | refine S_fa0 T.f73_1 rfl ?_ | refine S_fa T.f73_1 rfl ?_
  refine S_st T.sz56 rfl rfl rfl rfl (hS.ok (by simp)) ?_
  generalize hh : putH _ _ _ = h5
  replace hS : B h5 h.size #[.slice (some ⟨h1.size, 0, none⟩) 64 64, .slice (some ⟨h3.size, 0, none⟩) 16 16, .slice none 0 0, .int .i64 0, .int .i64 0] 73 := by rw [← hh]; exact hS.put 1 _
  have hzh5 : h5.size = h4.size := by rw [← hh]; exact size_put _ _
  have hEh5 : Ext (fun b => b = h.size) h4 h5 := by rw [← hh]; exact Ext.put _ _ rfl
  clear hh
  replace hBh2 := hBh2.ext hEh5 (show ¬ _ = h.size from by omega)
  replace hBh4 := hBh4.ext hEh5 (show ¬ _ = h.size from by omega)
  refine S_nil (hK4 _ _ (V_keep [1] (by simp only [proj, lk, reduceIte, Nat.reduceEqDiff]; rfl) ?_)); clear hK4
  refine V_sr T.mix (by kernel_rfl) (fun K5 hK5 => ?_)
  refine S_mv rfl ?_
  refine S_mk T.ei71 rfl rfl (by omega) (by omega) (by omega) (by omega) ?_
  simp only [show Int.toNat 256 = 256 from rfl, Nat.reduceMul, Nat.mul_one, mkZ_three]
  generalize hh : Array.push h5 _ = h6
  have hBh6 : B h6 h5.size (arr 768 fun _ => .int .i64 0) 174 := by rw [← hh]; exact B.new _ _ _
  have hzh6 : h6.size = h5.size + 1 := by rw [← hh]; simp
  have hEh6 : Ext (fun _ => False) h5 h6 := by rw [← hh]; exact Ext.push _ _ _
  clear hh
  replace hS := hS.ext hEh6 (fun f => f)
  replace hBh2 := hBh2.ext hEh6 (fun f => f)
  replace hBh4 := hBh4.ext hEh6 (fun f => f)
  refine S_nc rfl ?_
  first | refine S_fa0 T.f73_2 rfl ?_ | refine S_fa T.f73_2 rfl ?_
  refine S_st T.sz71 rfl rfl rfl rfl (hS.ok (by simp)) ?_
  generalize hh : putH _ _ _ = h7
  replace hS : B h7 h.size #[.slice (some ⟨h1.size, 0, none⟩) 64 64, .slice (some ⟨h3.size, 0, none⟩) 16 16, .slice (some ⟨h5.size, 0, none⟩) 256 256, .int .i64 0, .int .i64 0] 73 := by rw [← hh]; exact hS.put 2 _
  have hzh7 : h7.size = h6.size := by rw [← hh]; exact size_put _ _
  have hEh7 : Ext (fun b => b = h.size) h6 h7 := by rw [← hh]; exact Ext.put _ _ rfl
  clear hh
  replace hBh2 := hBh2.ext hEh7 (show ¬ _ = h.size from by omega)
  replace hBh4 := hBh4.ext hEh7 (show ¬ _ = h.size from by omega)
  replace hBh6 := hBh6.ext hEh7 (show ¬ _ = h.size from by omega)
  refine S_nil (hK5 _ _ (V_keep [1] (by simp only [proj, lk, reduceIte, Nat.reduceEqDiff]; rfl) ?_)); clear hK5
  refine V_sr T.mix (by kernel_rfl) (fun K6 hK6 => ?_)
  refine S_mv rfl ?_
  refine S_call T.hb23 rfl ?_
  have hM : Mat h7 ⟨h.size, h1.size, h3.size, h5.size⟩ ⟨fun _ => 0, fun _ => 0, fun _ => 0, 0, 0⟩ := ⟨hS, hBh2, hBh4, hBh6, by simp only []; omega, by simp only []; omega, by simp only []; omega, by simp only []; omega, by simp only []; omega, by simp only []; omega⟩
  have hw := wipe_spec _ _ _ hM
  dsimp only at hw
  refine FC.mono hw ?_
  rintro v h8 ⟨rfl, s8, hM8, hE8, hall, _, a8, b8, d8⟩
  refine S_nil (hK6 _ _ (V_keep [1] (by simp only [proj, lk, reduceIte, Nat.reduceEqDiff]; rfl) ?_)); clear hK6
  refine V_sr T.mix (by kernel_rfl) (fun K7 hK7 => ?_)
  refine S_mv rfl ?_
  refine S_as rfl ?_
  refine S_nil (hK7 _ _ (V_keep [0] (by simp only [proj, lk, reduceIte, Nat.reduceEqDiff]; rfl) ?_)); clear hK7
  refine V_ret ?_
  refine hR _ _ (ret1 rfl rfl ?_)
  refine ⟨_, s8, rfl, hM8, ?_, ?_, ⟨fun k hk => by rw [hall k hk]; omega, fun k hk => by rw [d8]; simp only []; omega⟩, a8, b8⟩
  · refine (((((((hE1.trans hEh2).step hEh3 ?_).trans hEh4).step hEh5 ?_).trans hEh6).step hEh7 ?_)).step hE8 ?_
    · intro b hb e; omega
    · intro b hb e; omega
    · intro b hb e; omega
    · intro b hb e; simp only [ES] at e; omega
  · intro b hb
    simp only [ES] at hb; omega
end Go.Proofs.Qxb6500404aGreat.LzW
