import Derived.Test.Qxb6500404aGreatUl
set_option linter.unusedVariables false
set_option linter.unusedSimpArgs false
namespace Go.Proofs.Qxb6500404aGreat
open Go.Eng Go.Bits Go.Blk HufW Go.Arc

theorem dz_arr : (#[.string ⟨#[]⟩, .string ⟨#[]⟩, .string ⟨#[]⟩, .slice none 0 0, .slice none 0 0, .slice none 0 0, .slice none 0 0, .slice none 0 0, .slice none 0 0, .slice none 0 0, .slice none 0 0, .slice none 0 0, .slice none 0 0, .slice none 0 0, .slice none 0 0, .slice none 0 0, .int .i64 0, .int .i64 0, .slice none 0 0, .slice none 0 0, .int .i64 0, .int .i64 0, .bool false, .slice none 0 0, .slice none 0 0, .bool false, .slice none 0 0] : Array Value) = arr 27 (dkv dz) := by
  refine Array.ext_getElem? fun j => ?_
  by_cases hj : j < 27
  · rw [arr_get hj]
    exact dk27 (p := fun j => (#[.string ⟨#[]⟩, .string ⟨#[]⟩, .string ⟨#[]⟩, .slice none 0 0, .slice none 0 0, .slice none 0 0, .slice none 0 0, .slice none 0 0, .slice none 0 0, .slice none 0 0, .slice none 0 0, .slice none 0 0, .slice none 0 0, .slice none 0 0, .slice none 0 0, .slice none 0 0, .int .i64 0, .int .i64 0, .slice none 0 0, .slice none 0 0, .int .i64 0, .int .i64 0, .bool false, .slice none 0 0, .slice none 0 0, .bool false, .slice none 0 0] : Array Value)[j]? = some (dkv dz j)) rfl rfl rfl rfl rfl rfl rfl rfl rfl rfl rfl rfl rfl rfl rfl rfl rfl rfl rfl rfl rfl rfl rfl rfl rfl rfl rfl j hj
  · rw [Array.getElem?_eq_none (by simp; omega), Array.getElem?_eq_none (by rw [arr_size]; omega)]
theorem dz_kp (h : Heap) (X : Nat) : KP h X (fun _ => False) dz [] 0 := by
  have e : ∀ T st, SK T st h (fun _ => False) SL.z := fun T st => ⟨Nat.zero_le _, .inl rfl⟩
  exact ⟨fun b f => f.elim, OwnR.nil _ _ _ _, rfl, Nat.zero_le _, fun i _ => e _ _, fun i _ => e _ _, e _ _, e _ _, e _ _, e _ _, e _ _, by decide, by decide, Nat.le_refl _, Nat.le_refl _⟩
set_option maxHeartbeats 6400000 in
theorem walk_spec (h : Heap) (sa : Option Addr) (n cap : Nat) (q : Bool) (hs : Scr h.size h sa n) (hn : n ≤ 9223372036854775807) :
    FC Tryz.prog 7 (#[.slice sa n cap, .bool (decide (q = true))] : Array Value) h fun v h' => (∃ j : Int, v = .tuple #[.int .i64 (-1), .int .i64 j]) ∧ Ext (fun b => h.size ≤ b) h h' := by
  refine FC_of [(0, .slice sa n cap), (1, .bool (decide (q = true)))] Tryz.func7 rfl Tryz.ntmps7 (by simp) rfl (fun R hR => ?_)
  refine V_sr T.mix (by kernel_rfl) (fun K1 hK1 => ?_)
  refine S_as rfl ?_
  refine S_as rfl ?_
  refine S_nil (hK1 _ _ (V_keep [0, 1] (by simp only [proj, lk, reduceIte, Nat.reduceEqDiff]; rfl) ?_)); clear hK1
  refine V_sr T.mix (by kernel_rfl) (fun K2 hK2 => ?_)
  refine S_call T.hb8 rfl ?_
  refine FC.mono (ground_spec h) ?_
  rintro v' h1 ⟨W, V, rfl, ws1, ds1, rW, rV, rD, hE1⟩
  refine S_allocA T.z30 ?_
  generalize hh : Array.push h1 _ = h2
  have b2 : B h2 h1.size #[.pointer none, .pointer none] 30 := by rw [← hh]; exact B.new _ _ _
  have hEh2 : Ext (fun _ => False) h1 h2 := by rw [← hh]; exact Ext.push _ _ _
  clear hh
  have kok : ∀ j, j < 2 → okPut h2 ⟨h1.size, j, none⟩ = true := fun j hj => b2.ok (by simpa using hj)
  refine S_stl T.sz30 rfl rfl rfl rfl (fun j hj => by simp (disch := omega) only [kok]) ?_
  generalize hh : putsH _ _ _ _ = h3
  have b3 : B h3 (h1.size) (bel W.P V.D) 30 := by rw [← hh]; exact puts_all (b2) (cs' := (bel W.P V.D)) rfl
  have hEh3 : Ext (fun k => k = h1.size) h2 h3 := by rw [← hh]; exact Ext.puts (S := fun k => k = h1.size) rfl _ _ _
  clear hh
  have hE13 : Ext (fun _ => False) h1 h3 := hEh2.step hEh3 (fun b hb e => by omega)
  have hz13 := hE13.1
  have hz1 := hE1.1
  have k0 : cellH h3 ⟨h1.size, 0, none⟩ = some (.pointer (some ⟨W.P, 0, none⟩)) := b3.cell 0
  have k1 : cellH h3 ⟨h1.size, 1, none⟩ = some (.pointer (some ⟨V.D, 0, none⟩)) := b3.cell 1
  refine S_nil (hK2 _ _ (V_keep [0, 1, 6] (by simp only [proj, lk, reduceIte, Nat.reduceEqDiff]; rfl) ?_)); clear hK2
  refine V_sr T.mix (by kernel_rfl) (fun K3 hK3 => ?_)
  first | refine S_fa0 T.f30_0 rfl ?_ | refine S_fa T.f30_0 rfl ?_
  refine S_ldK T.ag27 rfl (fun K' hK' => ?_)
  simp (disch := omega) only [k0, k1, oP_some, Nat.add_zero]
  refine hK' _ ?_; clear hK' K'
  first | refine S_fa0 T.f30_1 rfl ?_ | refine S_fa T.f30_1 rfl ?_
  refine S_ldK T.ag28 rfl (fun K' hK' => ?_)
  simp (disch := omega) only [k0, k1, oP_some, Nat.add_zero]
  refine hK' _ ?_; clear hK' K'
  refine S_call T.hb9 rfl ?_
  refine FC.mono (anew_spec h3 W.P V.D) ?_
  rintro v' h4 ⟨rfl, ax4, hE4, hs4⟩
  refine S_as rfl ?_
  refine S_nil (hK3 _ _ (V_keep [0, 1, 6, 7] (by simp only [proj, lk, reduceIte, Nat.reduceEqDiff]; rfl) ?_)); clear hK3
  refine V_sr T.mix (by kernel_rfl) (fun K4 hK4 => ?_)
  refine S_call T.hb10 rfl ?_
  refine FC.mono (manew_spec h4) ?_
  rintro v' h5 ⟨M, P, zz, kk, rfl, mw5, hP4, hPM, hM5, hE5⟩
  refine S_as rfl ?_
  refine S_nil (hK4 _ _ (V_keep [0, 1, 6, 7, 8] (by simp only [proj, lk, reduceIte, Nat.reduceEqDiff]; rfl) ?_)); clear hK4
  refine V_sr T.mix (by kernel_rfl) (fun K5 hK5 => ?_)
  refine S_bld rfl (T.bld42) ?_
  refine S_boxA rfl ?_
  generalize hh : Array.push h5 _ = h6
  have bd6 : DB h6 h5.size dz := by rw [← hh]; exact (B.new _ _ _).cong dz_arr
  have hE6 : Ext (fun _ => False) h5 h6 := by rw [← hh]; exact Ext.push _ _ _
  clear hh
  have hMl : M < h5.size := hM5
  have cs : Cs (⟨W, V, h3.size, M, P, zz, kk, h5.size, h.size⟩ : CF) := ⟨fun z e => by have k9 := rW z e; exact ⟨k9.1, by show z < h3.size; omega⟩, fun z e => by have k9 := rV z e; exact ⟨k9.1, by show z < h3.size; omega⟩, rD, by show h.size ≤ h3.size; omega, by show h3.size + 4 < P; omega, hPM, hMl⟩
  have hE36 := (hE4.trans hE5).trans hE6
  have w6 : LWE h6 (⟨W, V, h3.size, M, P, zz, kk, h5.size, h.size⟩ : CF) (2 * 0) := ⟨_, dz, [], [], [], ⟨cs, ⟨(ws1.new hE13).new hE36, ⟨0, [], (ds1.new hE13).new hE36⟩, ⟨[], _, _, _, (ax4.new hE5).new hE6⟩, mw5.new hE6⟩, bd6, dz_kp _ _, EQ.nil _ _, EQ.nil _ _, IQ.nil _ _, IQ.nil _ _, Nat.zero_le _, Nat.zero_le _, Nat.zero_le _⟩⟩
  have bb6 := b3.ext hE36 (fun f => f)
  have hEs : Ext (fun b => h.size ≤ b) h h6 := (((hE1.trans hE13).trans hE36).mono fun _ f => f.elim)
  have hnb : ¬ MS (⟨W, V, h3.size, M, P, zz, kk, h5.size, h.size⟩ : CF) h1.size := fun e => by
    rcases e with e | e | e | e
    · have k9 := (rW _ e).2; omega
    · have k9 := (rV _ e).2; omega
    · have k9 : h3.size ≤ h1.size ∧ h1.size ≤ h3.size + 4 := e; have k8 := b3.lt; omega
    · have k9 : h5.size ≤ h1.size := e; have k8 := b3.lt; have k7 := hE4.1; have k6 := hE5.1; omega
  refine S_as rfl ?_
  refine S_nil (hK5 _ _ (V_keep [0, 1, 6, 7, 8, 9] (by simp only [proj, lk, reduceIte, Nat.reduceEqDiff]; rfl) ?_)); clear hK5
  refine V_seqJ (fun l h' => (True) ∧ l = [(0, .slice sa n cap), (1, .bool (decide (q = true))), (6, .pointer (some ⟨h1.size, 0, none⟩)), (7, .pointer (some ⟨h3.size, 0, none⟩)), (8, .pointer (some ⟨M, 0, none⟩)), (9, .pointer (some ⟨h5.size, 0, none⟩))] ∧ h6 = h') ?_ ?_
  · skip
    refine V_sr T.mix (by kernel_rfl) (fun K7 hK7 => ?_)
    refine S_mv rfl ?_
    refine S_not rfl ?_
    refine S_nil (hK7 _ _ (V_keep [0, 1, 6, 7, 8, 9, 21] (by simp only [proj, lk, reduceIte, Nat.reduceEqDiff]; rfl) ?_)); clear hK7
    refine V_condp rfl (fun c483 => ?_) (fun c483 => ?_)
    · skip
      refine V_sr T.mix (by kernel_rfl) (fun K8 hK8 => ?_)
      refine S_mv rfl ?_
      refine S_call T.hb11 rfl ?_
      have wc9 := w6
      obtain ⟨Q9, d9, L9, F9, I9, w9⟩ := wc9
      obtain ⟨t9, fo9, ft9, gn9, ax9⟩ := w9.r.ax
      have hck9 := acheck_spec h6 h3.size W.P V.D t9 fo9 ft9 gn9 ax9
      refine FC.mono hck9 ?_
      rintro v' h' ⟨rfl, rfl⟩
      refine S_notb rfl ?_
      refine S_nil (hK8 _ _ (V_keep [0, 1, 6, 7, 8, 9, 24] (by simp only [proj, lk, reduceIte, Nat.reduceEqDiff]; rfl) ?_)); clear hK8
      refine V_condb rfl (fun c484 => ?_) (fun c484 => ?_)
      · skip
        cases c484
      · skip
        refine V_skipk [0, 1, 6, 7, 8, 9] (by simp only [proj, lk, reduceIte, Nat.reduceEqDiff]; rfl) ?_
        exact ⟨trivial, rfl, rfl⟩
    · skip
      refine V_skipk [0, 1, 6, 7, 8, 9] (by simp only [proj, lk, reduceIte, Nat.reduceEqDiff]; rfl) ?_
      exact ⟨trivial, rfl, rfl⟩
  rintro l h' ⟨htt, rfl, rfl⟩
  refine V_seq (fun K9 hK9 => ?_)
  refine V_sr T.mix (by kernel_rfl) (fun K10 hK10 => ?_)
  refine S_as rfl ?_
  refine S_nil (hK10 _ _ (V_keep [0, 1, 6, 7, 8, 9, 10] (by simp only [proj, lk, reduceIte, Nat.reduceEqDiff]; rfl) ?_)); clear hK10
  refine V_block ?_
  refine V_loop (fun m l h' => ∃ (i : Nat) (hk : Heap), (i ≤ n) ∧ (i ≤ 4398046511104) ∧ (LWE hk (⟨W, V, h3.size, M, P, zz, kk, h5.size, h.size⟩ : CF) (2 * i)) ∧ (B hk h1.size (bel W.P V.D) 30) ∧ (Ext (fun b => h.size ≤ b) h hk) ∧ m = n - i ∧ l = [(0, .slice sa n cap), (1, .bool (decide (q = true))), (6, .pointer (some ⟨h1.size, 0, none⟩)), (7, .pointer (some ⟨h3.size, 0, none⟩)), (8, .pointer (some ⟨M, 0, none⟩)), (9, .pointer (some ⟨h5.size, 0, none⟩)), (10, .int .i64 (i : Int))] ∧ hk = h') _ ⟨0, h6, by omega, by omega, w6, bb6, hEs, rfl, rfl, rfl⟩ ?_
  rintro m l h' ⟨i, hk, hi, hi2, lwk, bbk, hEk, rfl, rfl, rfl⟩ K11 hK11
  refine V_seq (fun K12 hK12 => ?_)
  refine V_sr T.mix (by kernel_rfl) (fun K13 hK13 => ?_)
  refine S_cut (K' := fun l h' => ∃ b : Bool, (b = true ↔ (i < n ∧ i < 4398046511104)) ∧ l = [(0, .slice sa n cap), (1, .bool (decide (q = true))), (6, .pointer (some ⟨h1.size, 0, none⟩)), (7, .pointer (some ⟨h3.size, 0, none⟩)), (8, .pointer (some ⟨M, 0, none⟩)), (9, .pointer (some ⟨h5.size, 0, none⟩)), (10, .int .i64 (i : Int)), (32, .bool b)] ∧ hk = h') ?_ ?_
  · skip
    refine S_mv rfl ?_
    refine S_mv rfl ?_
    refine S_lenl T.el22 rfl ?_
    refine S_bin rfl rfl rfl ?_
    refine S_mv rfl ?_
    refine S_dec (fun g488 => ?_) (fun g488 => ?_)
    · skip
      refine S_gt rfl ?_
      refine S_mv rfl ?_
      refine S_gt rfl ?_
      refine S_bin rfl rfl rfl ?_
      refine S_pt rfl rfl ?_
      exact S_nilk [0, 1, 6, 7, 8, 9, 10, 32] (by simp only [proj, lk, reduceIte, Nat.reduceEqDiff]; rfl) ⟨_, (by first | (simp [*]; done) | (simp; omega)), rfl, rfl⟩
    · skip
      refine S_gf rfl ?_
      refine S_gf rfl ?_
      refine S_pf rfl rfl ?_
      exact S_nilk [0, 1, 6, 7, 8, 9, 10, 32] (by simp only [proj, lk, reduceIte, Nat.reduceEqDiff]; rfl) ⟨_, (by first | (simp [*]; done) | (simp; omega)), rfl, rfl⟩
  rintro l h' ⟨b, hb488, rfl, rfl⟩
  refine hK13 _ _ ?_; clear hK13
  refine V_condb rfl (fun c488 => ?_) (fun c488 => ?_)
  · replace c488 := hb488.1 c488
    refine V_skipk [0, 1, 6, 7, 8, 9, 10] (by simp only [proj, lk, reduceIte, Nat.reduceEqDiff]; rfl) ?_
    refine hK12 _ _ ?_; clear hK12
    refine V_seq (fun K15 hK15 => ?_)
    refine V_block ?_
    refine V_seq (fun K16 hK16 => ?_)
    refine V_sr T.mix (by kernel_rfl) (fun K17 hK17 => ?_)
    refine S_mv rfl ?_
    refine S_mv rfl ?_
    refine S_ldn T.ag30 rfl (bbk.all rfl) ?_
    refine S_mv rfl ?_
    refine S_mv rfl ?_
    refine S_mv rfl ?_
    obtain ⟨sb, so, rfl, hlt, k, oa, ob, oc, os, ot, hc, hos, hoa⟩ := (hs.ext (Nat.le_refl _) hEk) i (by exact c488.1)
    refine S_ix T.el22 rfl rfl (by omega) (by omega) ?_
    refine S_ldn T.ag46 rfl (by simpa using hc) ?_
    refine S_call T.hb12 rfl ?_
    obtain ⟨Q8, d8, L8, F8, I8, w8⟩ := lwk
    refine FC.mono (play_spec hk (⟨W, V, h3.size, M, P, zz, kk, h5.size, h.size⟩ : CF) Q8 d8 L8 F8 I8 (2 * i) w8 (by omega) k oa ob oc os ot hos hoa) ?_
    rintro v' h7 ⟨rfl, w7, hE7⟩
    have hEk7 : Ext (fun b => h.size ≤ b) h h7 := hEk.trans (hE7.mono fun z e => MS.lo cs e)
    have bb7 := bbk.ext hE7 hnb
    refine S_notb rfl ?_
    refine S_nil (hK17 _ _ (V_keep [0, 1, 6, 7, 8, 9, 10, 44] (by simp only [proj, lk, reduceIte, Nat.reduceEqDiff]; rfl) ?_)); clear hK17
    refine V_condb rfl (fun c489 => ?_) (fun c489 => ?_)
    · skip
      cases c489
    · skip
      refine V_skipk [0, 1, 6, 7, 8, 9, 10] (by simp only [proj, lk, reduceIte, Nat.reduceEqDiff]; rfl) ?_
      refine hK16 _ _ ?_; clear hK16
      refine V_sr T.mix (by kernel_rfl) (fun K18 hK18 => ?_)
      refine S_mv rfl ?_
      refine S_not rfl ?_
      refine S_nil (hK18 _ _ (V_keep [0, 1, 6, 7, 8, 9, 10, 48] (by simp only [proj, lk, reduceIte, Nat.reduceEqDiff]; rfl) ?_)); clear hK18
      refine V_condp rfl (fun c492 => ?_) (fun c492 => ?_)
      · skip
        refine V_sr T.mix (by kernel_rfl) (fun K19 hK19 => ?_)
        refine S_mv rfl ?_
        refine S_call T.hb11 rfl ?_
        have wc9 := w7
        obtain ⟨Q9, d9, L9, F9, I9, w9⟩ := wc9
        obtain ⟨t9, fo9, ft9, gn9, ax9⟩ := w9.r.ax
        have hck9 := acheck_spec h7 h3.size W.P V.D t9 fo9 ft9 gn9 ax9
        refine FC.mono hck9 ?_
        rintro v' h' ⟨rfl, rfl⟩
        refine S_notb rfl ?_
        refine S_nil (hK19 _ _ (V_keep [0, 1, 6, 7, 8, 9, 10, 51] (by simp only [proj, lk, reduceIte, Nat.reduceEqDiff]; rfl) ?_)); clear hK19
        refine V_condb rfl (fun c493 => ?_) (fun c493 => ?_)
        · skip
          cases c493
        · skip
          refine V_skipk [0, 1, 6, 7, 8, 9, 10] (by simp only [proj, lk, reduceIte, Nat.reduceEqDiff]; rfl) ?_
          refine hK15 _ _ ?_; clear hK15
          refine V_reg T.mix (by kernel_rfl) ?_
          refine S_mv rfl ?_
          first | refine S_add rfl rfl (by omega) (by omega) ?_ | refine S_bin rfl rfl rfl ?_
          refine S_as rfl ?_
          refine S_nilk [0, 1, 6, 7, 8, 9, 10] (by simp only [proj, lk, reduceIte, Nat.reduceEqDiff]; rfl) ?_
          exact hK11 _ _ ⟨_, by omega, i + 1, h7, by omega, by omega, w7, bb7, hEk7, rfl, rfl, rfl⟩
      · skip
        refine V_skipk [0, 1, 6, 7, 8, 9, 10] (by simp only [proj, lk, reduceIte, Nat.reduceEqDiff]; rfl) ?_
        refine hK15 _ _ ?_; clear hK15
        refine V_reg T.mix (by kernel_rfl) ?_
        refine S_mv rfl ?_
        first | refine S_add rfl rfl (by omega) (by omega) ?_ | refine S_bin rfl rfl rfl ?_
        refine S_as rfl ?_
        refine S_nilk [0, 1, 6, 7, 8, 9, 10] (by simp only [proj, lk, reduceIte, Nat.reduceEqDiff]; rfl) ?_
        exact hK11 _ _ ⟨_, by omega, i + 1, h7, by omega, by omega, w7, bb7, hEk7, rfl, rfl, rfl⟩
  · replace c488 : ¬ _ := fun hp => Bool.false_ne_true (c488.symm.trans (hb488.2 hp))
    refine V_exitk [0] rfl (by simp only [proj, lk, reduceIte, Nat.reduceEqDiff]; rfl) ?_
    refine hK9 _ _ ?_; clear hK9
    refine V_seq (fun K20 hK20 => ?_)
    refine V_sr T.mix (by kernel_rfl) (fun K21 hK21 => ?_)
    refine S_mv rfl ?_
    refine S_lenl T.el22 rfl ?_
    refine S_bin rfl rfl rfl ?_
    refine S_nil (hK21 _ _ (V_keep [0, 56] (by simp only [proj, lk, reduceIte, Nat.reduceEqDiff]; rfl) ?_)); clear hK21
    refine V_condp rfl (fun c498 => ?_) (fun c498 => ?_)
    · skip
      refine V_sr T.mix (by kernel_rfl) (fun K22 hK22 => ?_)
      refine S_mv rfl ?_
      refine S_lenl T.el22 rfl ?_
      refine S_as rfl ?_
      refine S_as rfl ?_
      refine S_nil (hK22 _ _ (V_keep [4, 5] (by simp only [proj, lk, reduceIte, Nat.reduceEqDiff]; rfl) ?_)); clear hK22
      refine V_ret ?_
      refine hR _ _ (ret2 rfl rfl rfl ?_)
      exact ⟨⟨_, rfl⟩, hEk⟩
    · skip
      refine V_skipk [] (by simp only [proj, lk, reduceIte, Nat.reduceEqDiff]; rfl) ?_
      refine hK20 _ _ ?_; clear hK20
      refine V_sr T.mix (by kernel_rfl) (fun K23 hK23 => ?_)
      refine S_as rfl ?_
      refine S_as rfl ?_
      refine S_nil (hK23 _ _ (V_keep [4, 5] (by simp only [proj, lk, reduceIte, Nat.reduceEqDiff]; rfl) ?_)); clear hK23
      refine V_ret ?_
      refine hR _ _ (ret2 rfl rfl rfl ?_)
      exact ⟨⟨_, rfl⟩, hEk⟩
set_option maxHeartbeats 400000 in
theorem rut_spec (h : Heap) (sa : Option Addr) (n cap : Nat) (hs : Scr h.size h sa n) (hn : n ≤ 9223372036854775807) :
    FC Tryz.prog 5 (#[.slice sa n cap] : Array Value) h fun v h' => v = .int .i64 (-1) ∧ Ext (fun b => h.size ≤ b) h h' := by
  refine FC_of [(0, .slice sa n cap)] Tryz.func5 rfl Tryz.ntmps5 (by simp) rfl (fun R hR => ?_)
  refine V_sr T.mix (by kernel_rfl) (fun K1 hK1 => ?_)
  refine S_as rfl ?_
  refine S_nil (hK1 _ _ (V_keep [0] (by simp only [proj, lk, reduceIte, Nat.reduceEqDiff]; rfl) ?_)); clear hK1
  refine V_sr T.mix (by kernel_rfl) (fun K2 hK2 => ?_)
  refine S_mv rfl ?_
  refine S_call T.hb7 rfl ?_
  refine FC.mono (walk_spec h sa n cap false hs hn) ?_
  rintro v h2 ⟨⟨j, rfl⟩, hE⟩
  refine S_mv rfl ?_
  refine S_ex rfl rfl ?_
  refine S_ex rfl rfl ?_
  refine S_as rfl ?_
  refine S_as rfl ?_
  refine S_nil (hK2 _ _ (V_keep [3] (by simp only [proj, lk, reduceIte, Nat.reduceEqDiff]; rfl) ?_)); clear hK2
  refine V_sr T.mix (by kernel_rfl) (fun K3 hK3 => ?_)
  refine S_mv rfl ?_
  refine S_as rfl ?_
  refine S_nil (hK3 _ _ (V_keep [2] (by simp only [proj, lk, reduceIte, Nat.reduceEqDiff]; rfl) ?_)); clear hK3
  refine V_ret ?_
  refine hR _ _ (ret1 rfl rfl ?_)
  exact ⟨rfl, hE⟩
set_option maxHeartbeats 400000 in
theorem rqut_spec (h : Heap) (sa : Option Addr) (n cap : Nat) (hs : Scr h.size h sa n) (hn : n ≤ 9223372036854775807) :
    FC Tryz.prog 6 (#[.slice sa n cap] : Array Value) h fun v h' => v = .int .i64 (-1) ∧ Ext (fun b => h.size ≤ b) h h' := by
  refine FC_of [(0, .slice sa n cap)] Tryz.func6 rfl Tryz.ntmps6 (by simp) rfl (fun R hR => ?_)
  refine V_sr T.mix (by kernel_rfl) (fun K1 hK1 => ?_)
  refine S_as rfl ?_
  refine S_nil (hK1 _ _ (V_keep [0] (by simp only [proj, lk, reduceIte, Nat.reduceEqDiff]; rfl) ?_)); clear hK1
  refine V_sr T.mix (by kernel_rfl) (fun K2 hK2 => ?_)
  refine S_mv rfl ?_
  refine S_call T.hb7 rfl ?_
  refine FC.mono (walk_spec h sa n cap true hs hn) ?_
  rintro v h2 ⟨⟨j, rfl⟩, hE⟩
  refine S_mv rfl ?_
  refine S_ex rfl rfl ?_
  refine S_ex rfl rfl ?_
  refine S_as rfl ?_
  refine S_as rfl ?_
  refine S_nil (hK2 _ _ (V_keep [3] (by simp only [proj, lk, reduceIte, Nat.reduceEqDiff]; rfl) ?_)); clear hK2
  refine V_sr T.mix (by kernel_rfl) (fun K3 hK3 => ?_)
  refine S_mv rfl ?_
  refine S_as rfl ?_
  refine S_nil (hK3 _ _ (V_keep [2] (by simp only [proj, lk, reduceIte, Nat.reduceEqDiff]; rfl) ?_)); clear hK3
  refine V_ret ?_
  refine hR _ _ (ret1 rfl rfl ?_)
  exact ⟨rfl, hE⟩
set_option maxHeartbeats 400000 in
theorem ref_spec (h : Heap) (sa : Option Addr) (n cap : Nat) (hs : Scr h.size h sa n) (hn : n ≤ 9223372036854775807) :
    FC Tryz.prog 3 (#[.slice sa n cap] : Array Value) h fun v h' => v = .bool true ∧ Ext (fun b => h.size ≤ b) h h' := by
  refine FC_of [(0, .slice sa n cap)] Tryz.func3 rfl Tryz.ntmps3 (by simp) rfl (fun R hR => ?_)
  refine V_sr T.mix (by kernel_rfl) (fun K1 hK1 => ?_)
  refine S_as rfl ?_
  refine S_nil (hK1 _ _ (V_keep [0] (by simp only [proj, lk, reduceIte, Nat.reduceEqDiff]; rfl) ?_)); clear hK1
  refine V_sr T.mix (by kernel_rfl) (fun K2 hK2 => ?_)
  refine S_mv rfl ?_
  refine S_call T.hb5 rfl ?_
  refine FC.mono (rut_spec h sa n cap hs hn) ?_
  rintro v h2 ⟨rfl, hE⟩
  refine S_bin rfl rfl rfl ?_
  refine S_as rfl ?_
  refine S_nil (hK2 _ _ (V_keep [2] (by simp only [proj, lk, reduceIte, Nat.reduceEqDiff]; rfl) ?_)); clear hK2
  refine V_ret ?_
  refine hR _ _ (ret1 rfl rfl ?_)
  exact ⟨rfl, hE⟩
set_option maxHeartbeats 400000 in
theorem refq_spec (h : Heap) (sa : Option Addr) (n cap : Nat) (hs : Scr h.size h sa n) (hn : n ≤ 9223372036854775807) :
    FC Tryz.prog 4 (#[.slice sa n cap] : Array Value) h fun v h' => v = .bool true ∧ Ext (fun b => h.size ≤ b) h h' := by
  refine FC_of [(0, .slice sa n cap)] Tryz.func4 rfl Tryz.ntmps4 (by simp) rfl (fun R hR => ?_)
  refine V_sr T.mix (by kernel_rfl) (fun K1 hK1 => ?_)
  refine S_as rfl ?_
  refine S_nil (hK1 _ _ (V_keep [0] (by simp only [proj, lk, reduceIte, Nat.reduceEqDiff]; rfl) ?_)); clear hK1
  refine V_sr T.mix (by kernel_rfl) (fun K2 hK2 => ?_)
  refine S_mv rfl ?_
  refine S_call T.hb6 rfl ?_
  refine FC.mono (rqut_spec h sa n cap hs hn) ?_
  rintro v h2 ⟨rfl, hE⟩
  refine S_bin rfl rfl rfl ?_
  refine S_as rfl ?_
  refine S_nil (hK2 _ _ (V_keep [2] (by simp only [proj, lk, reduceIte, Nat.reduceEqDiff]; rfl) ?_)); clear hK2
  refine V_ret ?_
  refine hR _ _ (ret1 rfl rfl ?_)
  exact ⟨rfl, hE⟩
end Go.Proofs.Qxb6500404aGreat
