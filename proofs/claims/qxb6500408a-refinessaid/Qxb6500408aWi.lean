import Derived.Test.Qxb6500408aWh
set_option linter.unusedVariables false
set_option linter.unusedSimpArgs false
namespace Go.Proofs.Qxb6500408a
open Go.Eng Go.Lz

/-- the script, as it lies in the heap -/
def Scr (base : Nat) (h : Heap) (sa : Option Addr) (n : Nat) : Prop := ∀ i, i < n → ∃ sb so, sa = some ⟨sb, so, none⟩ ∧ sb < base ∧ ∃ k a b c s u, cellsH h ⟨sb, so + i * 6, none⟩ 0 6 = some [.int .i64 k, .int .i64 a, .int .i64 b, .int .i64 c, .string s, .string u] ∧ s.size ≤ 9223372036854775807
theorem cellsH_same {h h' : Heap} {b o : Nat} (he : h'[b]? = h[b]?) : ∀ (n i : Nat), cellsH h' ⟨b, o, none⟩ i n = cellsH h ⟨b, o, none⟩ i n
  | 0, _ => rfl
  | n + 1, i => by
    have e : cellH h' ((⟨b, o, none⟩ : Addr).add i) = cellH h ((⟨b, o, none⟩ : Addr).add i) := by rw [add_mk]; unfold cellH; simp only [he]
    simp only [cellsH, e, cellsH_same he n (i + 1)]
theorem Scr.ext {base : Nat} {h h' : Heap} {sa : Option Addr} {n : Nat} (hs : Scr base h sa n) (hb : base ≤ h.size) (he : Ext (fun b => base ≤ b) h h') : Scr base h' sa n := by
  intro i hi
  obtain ⟨sb, so, e, hlt, k, a, b, c, s, u, hc, hz⟩ := hs i hi
  exact ⟨sb, so, e, hlt, k, a, b, c, s, u, by rw [cellsH_same (he.2 sb (by omega) (by omega))]; exact hc, hz⟩
def ds0 : DS := ⟨⟨#[]⟩, 0, (none, 0), (none, 0), fun _ => (none, 0), 0, (none, 0), 0, false, (none, 0)⟩
theorem di0 {base : Nat} {h : Heap} {D : Nat} {A : MA} {st : MS} (hM : Mat h A st) (hB : B h D (dcells ds0) 35) (hri : RI st) (hn : st.n = 0) (hp : st.pr = 0) (hES : ∀ b, ES A b → base ≤ b) (hD : base ≤ D) (hl : ¬ ES A D) : DI base h D A ds0 st [] :=
  ⟨hM, ⟨hB, fun _ _ => .inl rfl, .inl rfl, .inl rfl, by decide, .inl rfl⟩, hri, by omega, .inl ⟨rfl, rfl⟩, .inl ⟨rfl, rfl⟩, by simp, fun b hb => by simp [blkV, blkA, ds0] at hb, by rw [hp]; exact Nat.zero_le _, fun b hb => by rcases hb with e | e; exact e ▸ hD; exact hES b e, fun b hb => by simp [blkV, blkA, ds0] at hb, hl, fun b hb => by simp [blkV, blkA, ds0] at hb⟩
set_option maxHeartbeats 400000 in
theorem walk_spec (h : Heap) (sa : Option Addr) (n cap : Nat) (q : Bool) (hs : Scr h.size h sa n) (hn : n ≤ 9223372036854775807) :
    FC Try.prog 7 (#[.slice sa n cap, .bool (decide (q = true))] : Array Value) h fun v h' => (∃ j : Int, v = .tuple #[.int .i64 (-1), .int .i64 j]) ∧ Ext (fun b => h.size ≤ b) h h' := by
  refine FC_of [(0, .slice sa n cap), (1, .bool (decide (q = true)))] Try.func7 rfl Try.ntmps7 (by simp) rfl (fun R hR => ?_)
  refine V_sr T.mix (by kernel_rfl) (fun K1 hK1 => ?_)
  refine S_as rfl ?_
  refine S_as rfl ?_
  refine S_nil (hK1 _ _ (V_keep [0, 1] (by simp only [proj, lk, reduceIte, Nat.reduceEqDiff]; rfl) ?_)); clear hK1
  refine V_sr T.mix (by kernel_rfl) (fun K2 hK2 => ?_)
  refine S_call T.hb8 rfl ?_
  refine FC.mono (new_spec h) ?_
  rintro v h1 ⟨A, st, rfl, hM, hE1, hES, hri, hn0, hp0⟩
  refine S_as rfl ?_
  refine S_nil (hK2 _ _ (V_keep [0, 1, 6] (by simp only [proj, lk, reduceIte, Nat.reduceEqDiff]; rfl) ?_)); clear hK2
  refine V_sr T.mix (by kernel_rfl) (fun K3 hK3 => ?_)
  refine S_call T.hb9 rfl ?_
  refine FC.mono (mnew_spec h1) ?_
  rintro v h2 ⟨rfl, hE2, hz2⟩
  replace hM := hM.ext hE2 (fun _ _ f => f)
  have hlA : ¬ ES A h2.size := fun e => by have := hM.lt e; omega
  refine S_as rfl ?_
  refine S_nil (hK3 _ _ (V_keep [0, 1, 6, 7] (by simp only [proj, lk, reduceIte, Nat.reduceEqDiff]; rfl) ?_)); clear hK3
  refine V_sr T.mix (by kernel_rfl) (fun K4 hK4 => ?_)
  refine S_bld rfl (T.bld35) ?_
  refine S_boxA rfl ?_
  generalize hh : Array.push h2 _ = h3
  have hB : B h3 h2.size (dcells ds0) 35 := by rw [← hh]; exact B.new _ _ _
  have hE3 : Ext (fun _ => False) h2 h3 := by rw [← hh]; exact Ext.push _ _ _
  clear hh
  replace hM := hM.ext hE3 (fun _ _ f => f)
  have hI : DI h.size h3 h2.size A ds0 st [] := di0 hM hB hri hn0 hp0 hES (by have := hE1.1; omega) hlA
  have hE : Ext (fun b => h.size ≤ b) h h3 := ((hE1.trans hE2).trans hE3).mono fun _ f => f.elim
  refine S_as rfl ?_
  refine S_nil (hK4 _ _ (V_keep [0, 1, 6, 7, 8] (by simp only [proj, lk, reduceIte, Nat.reduceEqDiff]; rfl) ?_)); clear hK4
  refine V_seq (fun K5 hK5 => ?_)
  refine V_sr T.mix (by kernel_rfl) (fun K6 hK6 => ?_)
  refine S_mv rfl ?_
  refine S_not rfl ?_
  refine S_nil (hK6 _ _ (V_keep [0, 1, 6, 7, 8, 18] (by simp only [proj, lk, reduceIte, Nat.reduceEqDiff]; rfl) ?_)); clear hK6
  refine V_condp rfl (fun c293 => ?_) (fun c293 => ?_)
  · skip
    refine V_sr T.mix (by kernel_rfl) (fun K7 hK7 => ?_)
    refine S_mv rfl ?_
    refine S_mv rfl ?_
    refine S_call T.hb10 rfl ?_
    refine FC.mono (alike_spec A st h3 hI.M h2.size _ ds0 hI.K hI.pr hI.ri hI.n256) ?_
    rintro v h' ⟨rfl, rfl⟩
    refine S_as rfl ?_
    refine S_nil (hK7 _ _ (V_keep [0, 1, 6, 7, 8, 9] (by simp only [proj, lk, reduceIte, Nat.reduceEqDiff]; rfl) ?_)); clear hK7
    refine V_sr T.mix (by kernel_rfl) (fun K8 hK8 => ?_)
    refine S_mv rfl ?_
    refine S_notb rfl ?_
    refine S_nil (hK8 _ _ (V_keep [0, 1, 6, 7, 8, 23] (by simp only [proj, lk, reduceIte, Nat.reduceEqDiff]; rfl) ?_)); clear hK8
    refine V_condb rfl (fun c295 => ?_) (fun c295 => ?_)
    · skip
      cases c295
    · skip
      refine V_skipk [0, 1, 6, 7, 8] (by simp only [proj, lk, reduceIte, Nat.reduceEqDiff]; rfl) ?_
      refine hK5 _ _ ?_; clear hK5
      refine V_seq (fun K9 hK9 => ?_)
      refine V_sr T.mix (by kernel_rfl) (fun K10 hK10 => ?_)
      refine S_as rfl ?_
      refine S_nil (hK10 _ _ (V_keep [0, 1, 6, 7, 8, 10] (by simp only [proj, lk, reduceIte, Nat.reduceEqDiff]; rfl) ?_)); clear hK10
      refine V_block ?_
      refine V_loop (fun m l h' => ∃ (i : Nat) (hk : Heap) (tk : DS) (stk : MS) (tsk : List Tok), (i ≤ n) ∧ (i ≤ 4398046511104) ∧ (DI h.size hk h2.size A tk stk tsk) ∧ (tk.na ≤ i) ∧ (tk.text.size ≤ 9223372036854775807) ∧ (Ext (fun b => h.size ≤ b) h hk) ∧ m = n - i ∧ l = [(0, .slice sa n cap), (1, .bool (decide (q = true))), (6, .pointer (some ⟨A.m, 0, none⟩)), (7, .pointer (some ⟨h1.size, 0, none⟩)), (8, .pointer (some ⟨h2.size, 0, none⟩)), (10, .int .i64 i)] ∧ hk = h') _ ⟨0, h3, ds0, st, [], by omega, by omega, hI, Nat.zero_le _, Nat.zero_le _, hE, rfl, rfl, rfl⟩ ?_
      rintro m l h' ⟨i, hk, tk, stk, tsk, hi, hi2, hIk, hNk, hTk, hEk, rfl, rfl, rfl⟩ K11 hK11
      refine V_seq (fun K12 hK12 => ?_)
      refine V_sr T.mix (by kernel_rfl) (fun K13 hK13 => ?_)
      refine S_cut (K' := fun l h' => ∃ b : Bool, (b = true ↔ (i < n ∧ i < 4398046511104)) ∧ l = [(0, .slice sa n cap), (1, .bool (decide (q = true))), (6, .pointer (some ⟨A.m, 0, none⟩)), (7, .pointer (some ⟨h1.size, 0, none⟩)), (8, .pointer (some ⟨h2.size, 0, none⟩)), (10, .int .i64 i), (31, .bool b)] ∧ hk = h') ?_ ?_
      · skip
        refine S_mv rfl ?_
        refine S_mv rfl ?_
        refine S_lenl T.el22 rfl ?_
        refine S_bin rfl rfl rfl ?_
        refine S_mv rfl ?_
        refine S_dec (fun g299 => ?_) (fun g299 => ?_)
        · skip
          refine S_gt rfl ?_
          refine S_mv rfl ?_
          refine S_gt rfl ?_
          refine S_bin rfl rfl rfl ?_
          refine S_pt rfl rfl ?_
          exact S_nilk [0, 1, 6, 7, 8, 10, 31] (by simp only [proj, lk, reduceIte, Nat.reduceEqDiff]; rfl) ⟨_, (by first | (simp [*]; done) | (simp; omega)), rfl, rfl⟩
        · skip
          refine S_gf rfl ?_
          refine S_gf rfl ?_
          refine S_pf rfl rfl ?_
          exact S_nilk [0, 1, 6, 7, 8, 10, 31] (by simp only [proj, lk, reduceIte, Nat.reduceEqDiff]; rfl) ⟨_, (by first | (simp [*]; done) | (simp; omega)), rfl, rfl⟩
      rintro l h' ⟨b, hb299, rfl, rfl⟩
      refine hK13 _ _ ?_; clear hK13
      refine V_condb rfl (fun c299 => ?_) (fun c299 => ?_)
      · replace c299 := hb299.1 c299
        refine V_skipk [0, 1, 6, 7, 8, 10] (by simp only [proj, lk, reduceIte, Nat.reduceEqDiff]; rfl) ?_
        refine hK12 _ _ ?_; clear hK12
        refine V_seq (fun K15 hK15 => ?_)
        refine V_block ?_
        refine V_sr T.mix (by kernel_rfl) (fun K16 hK16 => ?_)
        refine S_mv rfl ?_
        refine S_mv rfl ?_
        refine S_mv rfl ?_
        refine S_mv rfl ?_
        refine S_mv rfl ?_
        obtain ⟨sb, so, rfl, hlt, k, a, b, c, s, u, hc, hz⟩ := (hs.ext (Nat.le_refl _) hEk) i (by first | exact c299.1 | exact c299a.1)
        refine S_ix T.el22 rfl rfl (by omega) (by omega) ?_
        refine S_ldn T.ag39 rfl (by simpa using hc) ?_
        refine S_call T.hb11 rfl ?_
        refine FC.mono (play_spec h.size hk h2.size A tk stk tsk hIk _ k a b c s u hz hTk (by omega)) ?_
        rintro v h4 ⟨rfl, t4, st4, ts4, hI4, hna4, hT4, hE4⟩
        replace hE4 := hEk.trans hE4
        refine S_as rfl ?_
        refine S_nil (hK16 _ _ (V_keep [0, 1, 6, 7, 8, 10, 11] (by simp only [proj, lk, reduceIte, Nat.reduceEqDiff]; rfl) ?_)); clear hK16
        refine V_seq (fun K17 hK17 => ?_)
        refine V_sr T.mix (by kernel_rfl) (fun K18 hK18 => ?_)
        refine S_mv rfl ?_
        refine S_notb rfl ?_
        refine S_nil (hK18 _ _ (V_keep [0, 1, 6, 7, 8, 10, 43] (by simp only [proj, lk, reduceIte, Nat.reduceEqDiff]; rfl) ?_)); clear hK18
        refine V_condb rfl (fun c301 => ?_) (fun c301 => ?_)
        · skip
          cases c301
        · skip
          refine V_skipk [0, 1, 6, 7, 8, 10] (by simp only [proj, lk, reduceIte, Nat.reduceEqDiff]; rfl) ?_
          refine hK17 _ _ ?_; clear hK17
          refine V_sr T.mix (by kernel_rfl) (fun K19 hK19 => ?_)
          refine S_mv rfl ?_
          refine S_not rfl ?_
          refine S_nil (hK19 _ _ (V_keep [0, 1, 6, 7, 8, 10, 47] (by simp only [proj, lk, reduceIte, Nat.reduceEqDiff]; rfl) ?_)); clear hK19
          refine V_condp rfl (fun c304 => ?_) (fun c304 => ?_)
          · skip
            refine V_sr T.mix (by kernel_rfl) (fun K20 hK20 => ?_)
            refine S_mv rfl ?_
            refine S_mv rfl ?_
            refine S_call T.hb10 rfl ?_
            refine FC.mono (alike_spec A st4 h4 hI4.M h2.size _ t4 hI4.K hI4.pr hI4.ri hI4.n256) ?_
            rintro v h' ⟨rfl, rfl⟩
            refine S_as rfl ?_
            refine S_nil (hK20 _ _ (V_keep [0, 1, 6, 7, 8, 10, 12] (by simp only [proj, lk, reduceIte, Nat.reduceEqDiff]; rfl) ?_)); clear hK20
            refine V_sr T.mix (by kernel_rfl) (fun K21 hK21 => ?_)
            refine S_mv rfl ?_
            refine S_notb rfl ?_
            refine S_nil (hK21 _ _ (V_keep [0, 1, 6, 7, 8, 10, 52] (by simp only [proj, lk, reduceIte, Nat.reduceEqDiff]; rfl) ?_)); clear hK21
            refine V_condb rfl (fun c306 => ?_) (fun c306 => ?_)
            · skip
              cases c306
            · skip
              refine V_skipk [0, 1, 6, 7, 8, 10] (by simp only [proj, lk, reduceIte, Nat.reduceEqDiff]; rfl) ?_
              refine hK15 _ _ ?_; clear hK15
              refine V_reg T.mix (by kernel_rfl) ?_
              refine S_mv rfl ?_
              first | refine S_add rfl rfl (by omega) (by omega) ?_ | refine S_bin rfl rfl rfl ?_
              refine S_as rfl ?_
              refine S_nilk [0, 1, 6, 7, 8, 10] (by simp only [proj, lk, reduceIte, Nat.reduceEqDiff]; rfl) ?_
              exact hK11 _ _ ⟨_, by omega, i + 1, h4, t4, st4, ts4, by omega, by omega, hI4, by omega, hT4, hE4, rfl, rfl, rfl⟩
          · skip
            refine V_skipk [0, 1, 6, 7, 8, 10] (by simp only [proj, lk, reduceIte, Nat.reduceEqDiff]; rfl) ?_
            refine hK15 _ _ ?_; clear hK15
            refine V_reg T.mix (by kernel_rfl) ?_
            refine S_mv rfl ?_
            first | refine S_add rfl rfl (by omega) (by omega) ?_ | refine S_bin rfl rfl rfl ?_
            refine S_as rfl ?_
            refine S_nilk [0, 1, 6, 7, 8, 10] (by simp only [proj, lk, reduceIte, Nat.reduceEqDiff]; rfl) ?_
            exact hK11 _ _ ⟨_, by omega, i + 1, h4, t4, st4, ts4, by omega, by omega, hI4, by omega, hT4, hE4, rfl, rfl, rfl⟩
      · replace c299 : ¬ _ := fun hp => Bool.false_ne_true (c299.symm.trans (hb299.2 hp))
        refine V_exitk [0] rfl (by simp only [proj, lk, reduceIte, Nat.reduceEqDiff]; rfl) ?_
        refine hK9 _ _ ?_; clear hK9
        refine V_seq (fun K22 hK22 => ?_)
        refine V_sr T.mix (by kernel_rfl) (fun K23 hK23 => ?_)
        refine S_mv rfl ?_
        refine S_lenl T.el22 rfl ?_
        refine S_bin rfl rfl rfl ?_
        refine S_nil (hK23 _ _ (V_keep [0, 57] (by simp only [proj, lk, reduceIte, Nat.reduceEqDiff]; rfl) ?_)); clear hK23
        refine V_condp rfl (fun c311 => ?_) (fun c311 => ?_)
        · skip
          refine V_sr T.mix (by kernel_rfl) (fun K24 hK24 => ?_)
          refine S_mv rfl ?_
          refine S_lenl T.el22 rfl ?_
          refine S_as rfl ?_
          refine S_as rfl ?_
          refine S_nil (hK24 _ _ (V_keep [4, 5] (by simp only [proj, lk, reduceIte, Nat.reduceEqDiff]; rfl) ?_)); clear hK24
          refine V_ret ?_
          refine hR _ _ (ret2 rfl rfl rfl ?_)
          exact ⟨⟨_, rfl⟩, hEk⟩
        · skip
          refine V_skipk [] (by simp only [proj, lk, reduceIte, Nat.reduceEqDiff]; rfl) ?_
          refine hK22 _ _ ?_; clear hK22
          refine V_sr T.mix (by kernel_rfl) (fun K25 hK25 => ?_)
          refine S_as rfl ?_
          refine S_as rfl ?_
          refine S_nil (hK25 _ _ (V_keep [4, 5] (by simp only [proj, lk, reduceIte, Nat.reduceEqDiff]; rfl) ?_)); clear hK25
          refine V_ret ?_
          refine hR _ _ (ret2 rfl rfl rfl ?_)
          exact ⟨⟨_, rfl⟩, hEk⟩
  · skip
    refine V_skipk [0, 1, 6, 7, 8] (by simp only [proj, lk, reduceIte, Nat.reduceEqDiff]; rfl) ?_
    refine hK5 _ _ ?_; clear hK5
    refine V_seq (fun K26 hK26 => ?_)
    refine V_sr T.mix (by kernel_rfl) (fun K27 hK27 => ?_)
    refine S_as rfl ?_
    refine S_nil (hK27 _ _ (V_keep [0, 1, 6, 7, 8, 10] (by simp only [proj, lk, reduceIte, Nat.reduceEqDiff]; rfl) ?_)); clear hK27
    refine V_block ?_
    refine V_loop (fun m l h' => ∃ (i : Nat) (hk : Heap) (tk : DS) (stk : MS) (tsk : List Tok), (i ≤ n) ∧ (i ≤ 4398046511104) ∧ (DI h.size hk h2.size A tk stk tsk) ∧ (tk.na ≤ i) ∧ (tk.text.size ≤ 9223372036854775807) ∧ (Ext (fun b => h.size ≤ b) h hk) ∧ m = n - i ∧ l = [(0, .slice sa n cap), (1, .bool (decide (q = true))), (6, .pointer (some ⟨A.m, 0, none⟩)), (7, .pointer (some ⟨h1.size, 0, none⟩)), (8, .pointer (some ⟨h2.size, 0, none⟩)), (10, .int .i64 i)] ∧ hk = h') _ ⟨0, h3, ds0, st, [], by omega, by omega, hI, Nat.zero_le _, Nat.zero_le _, hE, rfl, rfl, rfl⟩ ?_
    rintro m l h' ⟨i, hk, tk, stk, tsk, hi, hi2, hIk, hNk, hTk, hEk, rfl, rfl, rfl⟩ K28 hK28
    refine V_seq (fun K29 hK29 => ?_)
    refine V_sr T.mix (by kernel_rfl) (fun K30 hK30 => ?_)
    refine S_cut (K' := fun l h' => ∃ b : Bool, (b = true ↔ (i < n ∧ i < 4398046511104)) ∧ l = [(0, .slice sa n cap), (1, .bool (decide (q = true))), (6, .pointer (some ⟨A.m, 0, none⟩)), (7, .pointer (some ⟨h1.size, 0, none⟩)), (8, .pointer (some ⟨h2.size, 0, none⟩)), (10, .int .i64 i), (31, .bool b)] ∧ hk = h') ?_ ?_
    · skip
      refine S_mv rfl ?_
      refine S_mv rfl ?_
      refine S_lenl T.el22 rfl ?_
      refine S_bin rfl rfl rfl ?_
      refine S_mv rfl ?_
      refine S_dec (fun g299a => ?_) (fun g299a => ?_)
      · skip
        refine S_gt rfl ?_
        refine S_mv rfl ?_
        refine S_gt rfl ?_
        refine S_bin rfl rfl rfl ?_
        refine S_pt rfl rfl ?_
        exact S_nilk [0, 1, 6, 7, 8, 10, 31] (by simp only [proj, lk, reduceIte, Nat.reduceEqDiff]; rfl) ⟨_, (by first | (simp [*]; done) | (simp; omega)), rfl, rfl⟩
      · skip
        refine S_gf rfl ?_
        refine S_gf rfl ?_
        refine S_pf rfl rfl ?_
        exact S_nilk [0, 1, 6, 7, 8, 10, 31] (by simp only [proj, lk, reduceIte, Nat.reduceEqDiff]; rfl) ⟨_, (by first | (simp [*]; done) | (simp; omega)), rfl, rfl⟩
    rintro l h' ⟨b, hb299, rfl, rfl⟩
    refine hK30 _ _ ?_; clear hK30
    refine V_condb rfl (fun c299a => ?_) (fun c299a => ?_)
    · replace c299a := hb299.1 c299a
      refine V_skipk [0, 1, 6, 7, 8, 10] (by simp only [proj, lk, reduceIte, Nat.reduceEqDiff]; rfl) ?_
      refine hK29 _ _ ?_; clear hK29
      refine V_seq (fun K32 hK32 => ?_)
      refine V_block ?_
      refine V_sr T.mix (by kernel_rfl) (fun K33 hK33 => ?_)
      refine S_mv rfl ?_
      refine S_mv rfl ?_
      refine S_mv rfl ?_
      refine S_mv rfl ?_
      refine S_mv rfl ?_
      obtain ⟨sb, so, rfl, hlt, k, a, b, c, s, u, hc, hz⟩ := (hs.ext (Nat.le_refl _) hEk) i (by first | exact c299.1 | exact c299a.1)
      refine S_ix T.el22 rfl rfl (by omega) (by omega) ?_
      refine S_ldn T.ag39 rfl (by simpa using hc) ?_
      refine S_call T.hb11 rfl ?_
      refine FC.mono (play_spec h.size hk h2.size A tk stk tsk hIk _ k a b c s u hz hTk (by omega)) ?_
      rintro v h4 ⟨rfl, t4, st4, ts4, hI4, hna4, hT4, hE4⟩
      replace hE4 := hEk.trans hE4
      refine S_as rfl ?_
      refine S_nil (hK33 _ _ (V_keep [0, 1, 6, 7, 8, 10, 11] (by simp only [proj, lk, reduceIte, Nat.reduceEqDiff]; rfl) ?_)); clear hK33
      refine V_seq (fun K34 hK34 => ?_)
      refine V_sr T.mix (by kernel_rfl) (fun K35 hK35 => ?_)
      refine S_mv rfl ?_
      refine S_notb rfl ?_
      refine S_nil (hK35 _ _ (V_keep [0, 1, 6, 7, 8, 10, 43] (by simp only [proj, lk, reduceIte, Nat.reduceEqDiff]; rfl) ?_)); clear hK35
      refine V_condb rfl (fun c301a => ?_) (fun c301a => ?_)
      · skip
        cases c301a
      · skip
        refine V_skipk [0, 1, 6, 7, 8, 10] (by simp only [proj, lk, reduceIte, Nat.reduceEqDiff]; rfl) ?_
        refine hK34 _ _ ?_; clear hK34
        refine V_sr T.mix (by kernel_rfl) (fun K36 hK36 => ?_)
        refine S_mv rfl ?_
        refine S_not rfl ?_
        refine S_nil (hK36 _ _ (V_keep [0, 1, 6, 7, 8, 10, 47] (by simp only [proj, lk, reduceIte, Nat.reduceEqDiff]; rfl) ?_)); clear hK36
        refine V_condp rfl (fun c304a => ?_) (fun c304a => ?_)
        · skip
          refine V_sr T.mix (by kernel_rfl) (fun K37 hK37 => ?_)
          refine S_mv rfl ?_
          refine S_mv rfl ?_
          refine S_call T.hb10 rfl ?_
          refine FC.mono (alike_spec A st4 h4 hI4.M h2.size _ t4 hI4.K hI4.pr hI4.ri hI4.n256) ?_
          rintro v h' ⟨rfl, rfl⟩
          refine S_as rfl ?_
          refine S_nil (hK37 _ _ (V_keep [0, 1, 6, 7, 8, 10, 12] (by simp only [proj, lk, reduceIte, Nat.reduceEqDiff]; rfl) ?_)); clear hK37
          refine V_sr T.mix (by kernel_rfl) (fun K38 hK38 => ?_)
          refine S_mv rfl ?_
          refine S_notb rfl ?_
          refine S_nil (hK38 _ _ (V_keep [0, 1, 6, 7, 8, 10, 52] (by simp only [proj, lk, reduceIte, Nat.reduceEqDiff]; rfl) ?_)); clear hK38
          refine V_condb rfl (fun c306a => ?_) (fun c306a => ?_)
          · skip
            cases c306a
          · skip
            refine V_skipk [0, 1, 6, 7, 8, 10] (by simp only [proj, lk, reduceIte, Nat.reduceEqDiff]; rfl) ?_
            refine hK32 _ _ ?_; clear hK32
            refine V_reg T.mix (by kernel_rfl) ?_
            refine S_mv rfl ?_
            first | refine S_add rfl rfl (by omega) (by omega) ?_ | refine S_bin rfl rfl rfl ?_
            refine S_as rfl ?_
            refine S_nilk [0, 1, 6, 7, 8, 10] (by simp only [proj, lk, reduceIte, Nat.reduceEqDiff]; rfl) ?_
            exact hK28 _ _ ⟨_, by omega, i + 1, h4, t4, st4, ts4, by omega, by omega, hI4, by omega, hT4, hE4, rfl, rfl, rfl⟩
        · skip
          refine V_skipk [0, 1, 6, 7, 8, 10] (by simp only [proj, lk, reduceIte, Nat.reduceEqDiff]; rfl) ?_
          refine hK32 _ _ ?_; clear hK32
          refine V_reg T.mix (by kernel_rfl) ?_
          refine S_mv rfl ?_
          first | refine S_add rfl rfl (by omega) (by omega) ?_ | refine S_bin rfl rfl rfl ?_
          refine S_as rfl ?_
          refine S_nilk [0, 1, 6, 7, 8, 10] (by simp only [proj, lk, reduceIte, Nat.reduceEqDiff]; rfl) ?_
          exact hK28 _ _ ⟨_, by omega, i + 1, h4, t4, st4, ts4, by omega, by omega, hI4, by omega, hT4, hE4, rfl, rfl, rfl⟩
    · replace c299a : ¬ _ := fun hp => Bool.false_ne_true (c299a.symm.trans (hb299.2 hp))
      refine V_exitk [0] rfl (by simp only [proj, lk, reduceIte, Nat.reduceEqDiff]; rfl) ?_
      refine hK26 _ _ ?_; clear hK26
      refine V_seq (fun K39 hK39 => ?_)
      refine V_sr T.mix (by kernel_rfl) (fun K40 hK40 => ?_)
      refine S_mv rfl ?_
      refine S_lenl T.el22 rfl ?_
      refine S_bin rfl rfl rfl ?_
      refine S_nil (hK40 _ _ (V_keep [0, 57] (by simp only [proj, lk, reduceIte, Nat.reduceEqDiff]; rfl) ?_)); clear hK40
      refine V_condp rfl (fun c311a => ?_) (fun c311a => ?_)
      · skip
        refine V_sr T.mix (by kernel_rfl) (fun K41 hK41 => ?_)
        refine S_mv rfl ?_
        refine S_lenl T.el22 rfl ?_
        refine S_as rfl ?_
        refine S_as rfl ?_
        refine S_nil (hK41 _ _ (V_keep [4, 5] (by simp only [proj, lk, reduceIte, Nat.reduceEqDiff]; rfl) ?_)); clear hK41
        refine V_ret ?_
        refine hR _ _ (ret2 rfl rfl rfl ?_)
        exact ⟨⟨_, rfl⟩, hEk⟩
      · skip
        refine V_skipk [] (by simp only [proj, lk, reduceIte, Nat.reduceEqDiff]; rfl) ?_
        refine hK39 _ _ ?_; clear hK39
        refine V_sr T.mix (by kernel_rfl) (fun K42 hK42 => ?_)
        refine S_as rfl ?_
        refine S_as rfl ?_
        refine S_nil (hK42 _ _ (V_keep [4, 5] (by simp only [proj, lk, reduceIte, Nat.reduceEqDiff]; rfl) ?_)); clear hK42
        refine V_ret ?_
        refine hR _ _ (ret2 rfl rfl rfl ?_)
        exact ⟨⟨_, rfl⟩, hEk⟩
set_option maxHeartbeats 400000 in
theorem rut_spec (h : Heap) (sa : Option Addr) (n cap : Nat) (hs : Scr h.size h sa n) (hn : n ≤ 9223372036854775807) :
    FC Try.prog 5 (#[.slice sa n cap] : Array Value) h fun v h' => v = .int .i64 (-1) ∧ Ext (fun b => h.size ≤ b) h h' := by
  refine FC_of [(0, .slice sa n cap)] Try.func5 rfl Try.ntmps5 (by simp) rfl (fun R hR => ?_)
  refine V_sr T.mix (by kernel_rfl) (fun K1 hK1 => ?_)
  refine S_as rfl ?_
  refine S_nil (hK1 _ _ (V_keep [0] (by simp only [proj, lk, reduceIte, Nat.reduceEqDiff]; rfl) ?_)); clear hK1
  refine V_sr T.mix (by kernel_rfl) (fun K2 hK2 => ?_)
  refine S_mv rfl ?_
  refine S_call T.hb7 rfl ?_
  refine FC.mono (walk_spec h sa n cap false hs hn) ?_
  rintro v h2 ⟨⟨j, rfl⟩, hE⟩
  refine S_mv rfl ?_
  refine S_ex rfl rfl ?_
  refine S_ex rfl rfl ?_
  refine S_as rfl ?_
  refine S_as rfl ?_
  refine S_nil (hK2 _ _ (V_keep [3] (by simp only [proj, lk, reduceIte, Nat.reduceEqDiff]; rfl) ?_)); clear hK2
  refine V_sr T.mix (by kernel_rfl) (fun K3 hK3 => ?_)
  refine S_mv rfl ?_
  refine S_as rfl ?_
  refine S_nil (hK3 _ _ (V_keep [2] (by simp only [proj, lk, reduceIte, Nat.reduceEqDiff]; rfl) ?_)); clear hK3
  refine V_ret ?_
  refine hR _ _ (ret1 rfl rfl ?_)
  exact ⟨rfl, hE⟩
set_option maxHeartbeats 400000 in
theorem rqut_spec (h : Heap) (sa : Option Addr) (n cap : Nat) (hs : Scr h.size h sa n) (hn : n ≤ 9223372036854775807) :
    FC Try.prog 6 (#[.slice sa n cap] : Array Value) h fun v h' => v = .int .i64 (-1) ∧ Ext (fun b => h.size ≤ b) h h' := by
  refine FC_of [(0, .slice sa n cap)] Try.func6 rfl Try.ntmps6 (by simp) rfl (fun R hR => ?_)
  refine V_sr T.mix (by kernel_rfl) (fun K1 hK1 => ?_)
  refine S_as rfl ?_
  refine S_nil (hK1 _ _ (V_keep [0] (by simp only [proj, lk, reduceIte, Nat.reduceEqDiff]; rfl) ?_)); clear hK1
  refine V_sr T.mix (by kernel_rfl) (fun K2 hK2 => ?_)
  refine S_mv rfl ?_
  refine S_call T.hb7 rfl ?_
  refine FC.mono (walk_spec h sa n cap true hs hn) ?_
  rintro v h2 ⟨⟨j, rfl⟩, hE⟩
  refine S_mv rfl ?_
  refine S_ex rfl rfl ?_
  refine S_ex rfl rfl ?_
  refine S_as rfl ?_
  refine S_as rfl ?_
  refine S_nil (hK2 _ _ (V_keep [3] (by simp only [proj, lk, reduceIte, Nat.reduceEqDiff]; rfl) ?_)); clear hK2
  refine V_sr T.mix (by kernel_rfl) (fun K3 hK3 => ?_)
  refine S_mv rfl ?_
  refine S_as rfl ?_
  refine S_nil (hK3 _ _ (V_keep [2] (by simp only [proj, lk, reduceIte, Nat.reduceEqDiff]; rfl) ?_)); clear hK3
  refine V_ret ?_
  refine hR _ _ (ret1 rfl rfl ?_)
  exact ⟨rfl, hE⟩
set_option maxHeartbeats 400000 in
theorem ref_spec (h : Heap) (sa : Option Addr) (n cap : Nat) (hs : Scr h.size h sa n) (hn : n ≤ 9223372036854775807) :
    FC Try.prog 3 (#[.slice sa n cap] : Array Value) h fun v h' => v = .bool true ∧ Ext (fun b => h.size ≤ b) h h' := by
  refine FC_of [(0, .slice sa n cap)] Try.func3 rfl Try.ntmps3 (by simp) rfl (fun R hR => ?_)
  refine V_sr T.mix (by kernel_rfl) (fun K1 hK1 => ?_)
  refine S_as rfl ?_
  refine S_nil (hK1 _ _ (V_keep [0] (by simp only [proj, lk, reduceIte, Nat.reduceEqDiff]; rfl) ?_)); clear hK1
  refine V_sr T.mix (by kernel_rfl) (fun K2 hK2 => ?_)
  refine S_mv rfl ?_
  refine S_call T.hb5 rfl ?_
  refine FC.mono (rut_spec h sa n cap hs hn) ?_
  rintro v h2 ⟨rfl, hE⟩
  refine S_as rfl ?_
  refine S_nil (hK2 _ _ (V_keep [3] (by simp only [proj, lk, reduceIte, Nat.reduceEqDiff]; rfl) ?_)); clear hK2
  refine V_sr T.mix (by kernel_rfl) (fun K3 hK3 => ?_)
  refine S_mv rfl ?_
  refine S_bin rfl rfl rfl ?_
  refine S_as rfl ?_
  refine S_nil (hK3 _ _ (V_keep [2] (by simp only [proj, lk, reduceIte, Nat.reduceEqDiff]; rfl) ?_)); clear hK3
  refine V_ret ?_
  refine hR _ _ (ret1 rfl rfl ?_)
  exact ⟨rfl, hE⟩
set_option maxHeartbeats 400000 in
theorem refq_spec (h : Heap) (sa : Option Addr) (n cap : Nat) (hs : Scr h.size h sa n) (hn : n ≤ 9223372036854775807) :
    FC Try.prog 4 (#[.slice sa n cap] : Array Value) h fun v h' => v = .bool true ∧ Ext (fun b => h.size ≤ b) h h' := by
  refine FC_of [(0, .slice sa n cap)] Try.func4 rfl Try.ntmps4 (by simp) rfl (fun R hR => ?_)
  refine V_sr T.mix (by kernel_rfl) (fun K1 hK1 => ?_)
  refine S_as rfl ?_
  refine S_nil (hK1 _ _ (V_keep [0] (by simp only [proj, lk, reduceIte, Nat.reduceEqDiff]; rfl) ?_)); clear hK1
  refine V_sr T.mix (by kernel_rfl) (fun K2 hK2 => ?_)
  refine S_mv rfl ?_
  refine S_call T.hb6 rfl ?_
  refine FC.mono (rqut_spec h sa n cap hs hn) ?_
  rintro v h2 ⟨rfl, hE⟩
  refine S_as rfl ?_
  refine S_nil (hK2 _ _ (V_keep [3] (by simp only [proj, lk, reduceIte, Nat.reduceEqDiff]; rfl) ?_)); clear hK2
  refine V_sr T.mix (by kernel_rfl) (fun K3 hK3 => ?_)
  refine S_mv rfl ?_
  refine S_bin rfl rfl rfl ?_
  refine S_as rfl ?_
  refine S_nil (hK3 _ _ (V_keep [2] (by simp only [proj, lk, reduceIte, Nat.reduceEqDiff]; rfl) ?_)); clear hK3
  refine V_ret ?_
  refine hR _ _ (ret1 rfl rfl ?_)
  exact ⟨rfl, hE⟩
end Go.Proofs.Qxb6500408a
