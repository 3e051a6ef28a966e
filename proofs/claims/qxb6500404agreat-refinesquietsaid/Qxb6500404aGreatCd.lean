import Derived.Test.Qxb6500404aGreatCc
set_option linter.unusedVariables false
set_option linter.unusedSimpArgs false
namespace Go.Proofs.Qxb6500404aGreat.LzW
open Go.Eng Go.Lz
set_option maxHeartbeats 400000 in
theorem mnew_spec (h : Heap) :
    FC Tryz.prog 25 (#[] : Array Value) h fun v h' => v = .pointer (some ⟨h.size, 0, none⟩) ∧ Ext (fun _ => False) h h' ∧ h'.size = h.size + 1 := by
  refine FC_of [] Tryz.func25 rfl Tryz.ntmps25 (by simp) rfl (fun R hR => ?_)
  refine V_sr T.mix (by kernel_rfl) (fun K1 hK1 => ?_)
  refine S_as rfl ?_
  refine S_nil (hK1 _ _ (V_keep [] (by simp only [proj, lk, reduceIte, Nat.reduceEqDiff]; rfl) ?_)); clear hK1
  refine V_sr T.mix (by kernel_rfl) (fun K2 hK2 => ?_)
  refine S_bld rfl (T.bld108) ?_
  refine S_boxA rfl ?_
  refine S_as rfl ?_
  refine S_nil (hK2 _ _ (V_keep [0] (by simp only [proj, lk, reduceIte, Nat.reduceEqDiff]; rfl) ?_)); clear hK2
  refine V_ret ?_
  refine hR _ _ (ret1 rfl rfl ?_)
  exact ⟨rfl, Ext.push _ _ _, by simp⟩
set_option maxHeartbeats 400000 in
theorem best_spec (s : ByteArray) (i : Int) (h : Heap) (h0 : 0 ≤ i) (hi : i ≤ s.size) (hs : s.size ≤ 256) :
    FC Tryz.prog 100 (#[.string s, .int .i64 i] : Array Value) h fun v h' => v = .tuple #[.int .i64 (bestF s i.toNat).1, .int .i64 (bestF s i.toNat).2] ∧ h = h' := by
  obtain ⟨i, rfl⟩ := Int.eq_ofNat_of_zero_le h0
  simp only [Int.toNat_natCast] at *
  refine FC_of [(0, .string s), (1, .int .i64 i)] Tryz.func100 rfl Tryz.ntmps100 (by simp) rfl (fun R hR => ?_)
  refine V_sr T.mix (by kernel_rfl) (fun K1 hK1 => ?_)
  refine S_as rfl ?_
  refine S_as rfl ?_
  refine S_nil (hK1 _ _ (V_keep [0, 1] (by simp only [proj, lk, reduceIte, Nat.reduceEqDiff]; rfl) ?_)); clear hK1
  refine V_sr T.mix (by kernel_rfl) (fun K2 hK2 => ?_)
  refine S_as rfl ?_
  refine S_nil (hK2 _ _ (V_keep [0, 1, 6] (by simp only [proj, lk, reduceIte, Nat.reduceEqDiff]; rfl) ?_)); clear hK2
  refine V_sr T.mix (by kernel_rfl) (fun K3 hK3 => ?_)
  refine S_as rfl ?_
  refine S_nil (hK3 _ _ (V_keep [0, 1, 6, 7] (by simp only [proj, lk, reduceIte, Nat.reduceEqDiff]; rfl) ?_)); clear hK3
  refine V_seq (fun K4 hK4 => ?_)
  refine V_sr T.mix (by kernel_rfl) (fun K5 hK5 => ?_)
  refine S_as rfl ?_
  refine S_nil (hK5 _ _ (V_keep [0, 1, 6, 7, 8] (by simp only [proj, lk, reduceIte, Nat.reduceEqDiff]; rfl) ?_)); clear hK5
  refine V_block ?_
  refine V_loop (fun m l h' => ∃ (k : Nat), (k ≤ min 16 i) ∧ m = 17 - k ∧ l = [(0, .string s), (1, .int .i64 i), (6, .int .i64 (bestTo s i k).1), (7, .int .i64 (bestTo s i k).2), (8, .int .i64 ((k : Int) + 1))] ∧ h = h') _ ⟨0, by omega, rfl, rfl, rfl⟩ ?_
  rintro m l h' ⟨k, hk, rfl, rfl, rfl⟩ K6 hK6
  have hbl := bestTo_le s i k
  have hlm : limF s i ≤ 10 ∧ limF s i ≤ s.size - i ∧ (limF s i = 10 ∨ limF s i = s.size - i) := by unfold limF; omega
  refine V_seq (fun K7 hK7 => ?_)
  refine V_sr T.mix (by kernel_rfl) (fun K8 hK8 => ?_)
  refine S_cut (K' := fun l h' => ∃ b : Bool, (b = true ↔ ((k : Int) + 1 ≤ 16 ∧ (k : Int) + 1 ≤ i)) ∧ l = [(0, .string s), (1, .int .i64 i), (6, .int .i64 (bestTo s i k).1), (7, .int .i64 (bestTo s i k).2), (8, .int .i64 ((k : Int) + 1)), (16, .bool b)] ∧ h = h') ?_ ?_
  · skip
    refine S_mv rfl ?_
    refine S_bin rfl rfl rfl ?_
    refine S_mv rfl ?_
    refine S_dec (fun g16 => ?_) (fun g16 => ?_)
    · skip
      refine S_gt rfl ?_
      refine S_mv rfl ?_
      refine S_gt rfl ?_
      refine S_mv rfl ?_
      refine S_gt rfl ?_
      refine S_bin rfl rfl rfl ?_
      refine S_pt rfl rfl ?_
      exact S_nilk [0, 1, 6, 7, 8, 16] (by simp only [proj, lk, reduceIte, Nat.reduceEqDiff]; rfl) ⟨_, (by first | (simp [*]; done) | (simp; omega)), rfl, rfl⟩
    · skip
      refine S_gf rfl ?_
      refine S_gf rfl ?_
      refine S_gf rfl ?_
      refine S_pf rfl rfl ?_
      exact S_nilk [0, 1, 6, 7, 8, 16] (by simp only [proj, lk, reduceIte, Nat.reduceEqDiff]; rfl) ⟨_, (by first | (simp [*]; done) | (simp; omega)), rfl, rfl⟩
  rintro l h' ⟨b, hb16, rfl, rfl⟩
  refine hK8 _ _ ?_; clear hK8
  refine V_condb rfl (fun c16 => ?_) (fun c16 => ?_)
  · replace c16 := hb16.1 c16
    refine V_skipk [0, 1, 6, 7, 8] (by simp only [proj, lk, reduceIte, Nat.reduceEqDiff]; rfl) ?_
    refine hK7 _ _ ?_; clear hK7
    refine V_seq (fun K10 hK10 => ?_)
    refine V_block ?_
    refine V_sr T.mix (by kernel_rfl) (fun K11 hK11 => ?_)
    refine S_as rfl ?_
    refine S_nil (hK11 _ _ (V_keep [0, 1, 6, 7, 8, 9] (by simp only [proj, lk, reduceIte, Nat.reduceEqDiff]; rfl) ?_)); clear hK11
    refine V_seq (fun K12 hK12 => ?_)
    refine V_block ?_
    refine V_loop (fun m l h' => ∃ (n : Nat), (n ≤ limF s i) ∧ (∀ j : Nat, j < n → bAt s (i - (k + 1) + j) = bAt s (i + j)) ∧ m = limF s i - n ∧ l = [(0, .string s), (1, .int .i64 i), (6, .int .i64 (bestTo s i k).1), (7, .int .i64 (bestTo s i k).2), (8, .int .i64 ((k : Int) + 1)), (9, .int .i64 n)] ∧ h = h') _ ⟨0, by omega, fun j hj => by omega, rfl, rfl, rfl⟩ ?_
    rintro m l h' ⟨n, hn, ha, rfl, rfl, rfl⟩ K13 hK13
    have hspan : ¬ ((n : Int) < 10 ∧ (i : Int) + n < s.size ∧ (bAt s ((i : Int) + n).toNat : Int) = bAt s ((i : Int) + n - ((k : Int) + 1)).toNat) → spanF s (i - (k + 1)) i (limF s i) = n := by
      intro hneg
      refine span_uniq hn ha ?_
      by_cases e : n = limF s i
      · exact .inl e
      · refine .inr (fun he => hneg ⟨by omega, by omega, ?_⟩)
        rw [show ((i : Int) + n).toNat = i + n by omega, show ((i : Int) + n - ((k : Int) + 1)).toNat = i - (k + 1) + n by omega, he]
    refine V_seq (fun K14 hK14 => ?_)
    refine V_sr T.mix (by kernel_rfl) (fun K15 hK15 => ?_)
    refine S_cut (K' := fun l h' => ∃ b : Bool, (b = true ↔ ((n : Int) < 10 ∧ (i : Int) + n < s.size ∧ (bAt s ((i : Int) + n).toNat : Int) = bAt s ((i : Int) + n - ((k : Int) + 1)).toNat)) ∧ l = [(0, .string s), (1, .int .i64 i), (6, .int .i64 (bestTo s i k).1), (7, .int .i64 (bestTo s i k).2), (8, .int .i64 ((k : Int) + 1)), (9, .int .i64 n), (43, .bool b)] ∧ h = h') ?_ ?_
    · skip
      refine S_mv rfl ?_
      refine S_bin rfl rfl rfl ?_
      refine S_mv rfl ?_
      refine S_dec (fun g18 => ?_) (fun g18 => ?_)
      · skip
        refine S_gt rfl ?_
        refine S_mv rfl ?_
        refine S_gt rfl ?_
        refine S_mv rfl ?_
        refine S_gt rfl ?_
        first | refine S_add rfl rfl (by omega) (by omega) ?_ | refine S_bin rfl rfl rfl ?_
        refine S_gt rfl ?_
        refine S_mv rfl ?_
        refine S_gt rfl ?_
        refine S_lens T.kd9 rfl ?_
        refine S_gt rfl ?_
        refine S_bin rfl rfl rfl ?_
        refine S_pt rfl rfl ?_
        refine S_mv rfl ?_
        refine S_dec (fun g18a => ?_) (fun g18a => ?_)
        · skip
          refine S_gt rfl ?_
          refine S_mv rfl ?_
          refine S_gt rfl ?_
          refine S_mv rfl ?_
          refine S_gt rfl ?_
          refine S_mv rfl ?_
          refine S_gt rfl ?_
          first | refine S_add rfl rfl (by omega) (by omega) ?_ | refine S_bin rfl rfl rfl ?_
          refine S_gt rfl ?_
          refine S_si T.kd9 rfl rfl (by omega) (by omega) ?_
          refine S_gt rfl ?_
          refine S_mv rfl ?_
          refine S_gt rfl ?_
          refine S_mv rfl ?_
          refine S_gt rfl ?_
          refine S_mv rfl ?_
          refine S_gt rfl ?_
          first | refine S_add rfl rfl (by omega) (by omega) ?_ | refine S_bin rfl rfl rfl ?_
          refine S_gt rfl ?_
          refine S_mv rfl ?_
          refine S_gt rfl ?_
          first | refine S_sub rfl rfl (by omega) (by omega) ?_ | refine S_bin rfl rfl rfl ?_
          refine S_gt rfl ?_
          refine S_si T.kd9 rfl rfl (by omega) (by omega) ?_
          refine S_gt rfl ?_
          refine S_bin rfl rfl rfl ?_
          refine S_pt rfl rfl ?_
          exact S_nilk [0, 1, 6, 7, 8, 9, 43] (by simp only [proj, lk, reduceIte, Nat.reduceEqDiff]; rfl) ⟨_, (by first | (simp [*]; done) | (simp; omega)), rfl, rfl⟩
        · skip
          refine S_gf rfl ?_
          refine S_gf rfl ?_
          refine S_gf rfl ?_
          refine S_gf rfl ?_
          refine S_gf rfl ?_
          refine S_gf rfl ?_
          refine S_gf rfl ?_
          refine S_gf rfl ?_
          refine S_gf rfl ?_
          refine S_gf rfl ?_
          refine S_gf rfl ?_
          refine S_gf rfl ?_
          refine S_gf rfl ?_
          refine S_pf rfl rfl ?_
          exact S_nilk [0, 1, 6, 7, 8, 9, 43] (by simp only [proj, lk, reduceIte, Nat.reduceEqDiff]; rfl) ⟨_, (by first | (simp [*]; done) | (simp; omega)), rfl, rfl⟩
      · skip
        refine S_gf rfl ?_
        refine S_gf rfl ?_
        refine S_gf rfl ?_
        refine S_gf rfl ?_
        refine S_gf rfl ?_
        refine S_gf rfl ?_
        refine S_pf rfl rfl ?_
        refine S_mv rfl ?_
        refine S_gf rfl ?_
        refine S_gf rfl ?_
        refine S_gf rfl ?_
        refine S_gf rfl ?_
        refine S_gf rfl ?_
        refine S_gf rfl ?_
        refine S_gf rfl ?_
        refine S_gf rfl ?_
        refine S_gf rfl ?_
        refine S_gf rfl ?_
        refine S_gf rfl ?_
        refine S_gf rfl ?_
        refine S_gf rfl ?_
        refine S_pf rfl rfl ?_
        exact S_nilk [0, 1, 6, 7, 8, 9, 43] (by simp only [proj, lk, reduceIte, Nat.reduceEqDiff]; rfl) ⟨_, (by first | (simp [*]; done) | (simp; omega)), rfl, rfl⟩
    rintro l h' ⟨b, hb18, rfl, rfl⟩
    refine hK15 _ _ ?_; clear hK15
    refine V_condb rfl (fun c18 => ?_) (fun c18 => ?_)
    · replace c18 := hb18.1 c18
      refine V_skipk [0, 1, 6, 7, 8, 9] (by simp only [proj, lk, reduceIte, Nat.reduceEqDiff]; rfl) ?_
      refine hK14 _ _ ?_; clear hK14
      refine V_block ?_
      refine V_reg T.mix (by kernel_rfl) ?_
      refine S_mv rfl ?_
      first | refine S_add rfl rfl (by omega) (by omega) ?_ | refine S_bin rfl rfl rfl ?_
      refine S_as rfl ?_
      refine S_nilk [0, 1, 6, 7, 8, 9] (by simp only [proj, lk, reduceIte, Nat.reduceEqDiff]; rfl) ?_
      exact hK13 _ _ ⟨_, by omega, n + 1, by omega, fun j hj => by
        by_cases e : j = n
        · subst e; have := c18.2.2; rw [show ((i : Int) + j).toNat = i + j by omega, show ((i : Int) + j - ((k : Int) + 1)).toNat = i - (k + 1) + j by omega] at this; omega
        · exact ha j (by omega), rfl, rfl, rfl⟩
    · replace c18 : ¬ _ := fun hp => Bool.false_ne_true (c18.symm.trans (hb18.2 hp))
      refine V_exitk [0, 1, 6, 7, 8, 9] rfl (by simp only [proj, lk, reduceIte, Nat.reduceEqDiff]; rfl) ?_
      refine hK12 _ _ ?_; clear hK12
      refine V_sr T.mix (by kernel_rfl) (fun K17 hK17 => ?_)
      refine S_mv rfl ?_
      refine S_mv rfl ?_
      refine S_bin rfl rfl rfl ?_
      refine S_nil (hK17 _ _ (V_keep [0, 1, 6, 7, 8, 9, 48] (by simp only [proj, lk, reduceIte, Nat.reduceEqDiff]; rfl) ?_)); clear hK17
      refine V_condp rfl (fun c21 => ?_) (fun c21 => ?_)
      · skip
        refine V_sr T.mix (by kernel_rfl) (fun K18 hK18 => ?_)
        refine S_mv rfl ?_
        refine S_as rfl ?_
        refine S_nil (hK18 _ _ (V_keep [0, 1, 6, 8] (by simp only [proj, lk, reduceIte, Nat.reduceEqDiff]; rfl) ?_)); clear hK18
        refine V_reg T.mix (by kernel_rfl) ?_
        refine S_mv rfl ?_
        refine S_as rfl ?_
        refine S_nilk [0, 1, 6, 7, 8] (by simp only [proj, lk, reduceIte, Nat.reduceEqDiff]; rfl) ?_
        refine hK10 _ _ ?_; clear hK10
        refine V_reg T.mix (by kernel_rfl) ?_
        refine S_mv rfl ?_
        first | refine S_add rfl rfl (by omega) (by omega) ?_ | refine S_bin rfl rfl rfl ?_
        refine S_as rfl ?_
        refine S_nilk [0, 1, 6, 7, 8] (by simp only [proj, lk, reduceIte, Nat.reduceEqDiff]; rfl) ?_
        have hsp := hspan (by assumption)
        have hb : bestTo s i (k + 1) = (n, k + 1) := by simp only [bestTo]; rw [hsp, if_pos (by omega)]
        exact hK6 _ _ ⟨_, by omega, k + 1, by omega, rfl, by rw [hb]; rfl, rfl⟩
      · skip
        refine V_skipk [0, 1, 6, 7, 8] (by simp only [proj, lk, reduceIte, Nat.reduceEqDiff]; rfl) ?_
        refine hK10 _ _ ?_; clear hK10
        refine V_reg T.mix (by kernel_rfl) ?_
        refine S_mv rfl ?_
        first | refine S_add rfl rfl (by omega) (by omega) ?_ | refine S_bin rfl rfl rfl ?_
        refine S_as rfl ?_
        refine S_nilk [0, 1, 6, 7, 8] (by simp only [proj, lk, reduceIte, Nat.reduceEqDiff]; rfl) ?_
        have hsp := hspan (by assumption)
        have hb : bestTo s i (k + 1) = bestTo s i k := by simp only [bestTo]; rw [hsp, if_neg (by omega)]
        exact hK6 _ _ ⟨_, by omega, k + 1, by omega, rfl, by rw [hb]; rfl, rfl⟩
  · replace c16 : ¬ _ := fun hp => Bool.false_ne_true (c16.symm.trans (hb16.2 hp))
    refine V_exitk [6, 7] rfl (by simp only [proj, lk, reduceIte, Nat.reduceEqDiff]; rfl) ?_
    refine hK4 _ _ ?_; clear hK4
    refine V_seq (fun K19 hK19 => ?_)
    refine V_sr T.mix (by kernel_rfl) (fun K20 hK20 => ?_)
    refine S_mv rfl ?_
    refine S_bin rfl rfl rfl ?_
    refine S_nil (hK20 _ _ (V_keep [6, 7, 52] (by simp only [proj, lk, reduceIte, Nat.reduceEqDiff]; rfl) ?_)); clear hK20
    refine V_condp rfl (fun c26 => ?_) (fun c26 => ?_)
    · skip
      refine V_sr T.mix (by kernel_rfl) (fun K21 hK21 => ?_)
      refine S_as rfl ?_
      refine S_as rfl ?_
      refine S_nil (hK21 _ _ (V_keep [4, 5] (by simp only [proj, lk, reduceIte, Nat.reduceEqDiff]; rfl) ?_)); clear hK21
      refine V_ret ?_
      refine hR _ _ (ret2 rfl rfl rfl ?_)
      have hk2 : k = min 16 i := by omega
      subst hk2
      exact ⟨by unfold bestF; rw [if_pos (by omega)]; rfl, rfl⟩
    · skip
      refine V_skipk [6, 7] (by simp only [proj, lk, reduceIte, Nat.reduceEqDiff]; rfl) ?_
      refine hK19 _ _ ?_; clear hK19
      refine V_sr T.mix (by kernel_rfl) (fun K22 hK22 => ?_)
      refine S_mv rfl ?_
      refine S_mv rfl ?_
      refine S_as rfl ?_
      refine S_as rfl ?_
      refine S_nil (hK22 _ _ (V_keep [4, 5] (by simp only [proj, lk, reduceIte, Nat.reduceEqDiff]; rfl) ?_)); clear hK22
      refine V_ret ?_
      refine hR _ _ (ret2 rfl rfl rfl ?_)
      have hk2 : k = min 16 i := by omega
      subst hk2
      exact ⟨by unfold bestF; rw [if_neg (by omega)], rfl⟩
set_option maxHeartbeats 400000 in
theorem mparse_spec (mv : Value) (s : ByteArray) (level : Int) (h : Heap) :
    FC Tryz.prog 69 (#[mv, .string s, .int .i64 level] : Array Value) h fun v h' => Ext (fun _ => False) h h' ∧
      ((256 < s.size ∧ v = .tuple #[.slice none 0 0, .int .i64 1]) ∨
       (s.size ≤ 256 ∧ (level < 0 ∨ 2 < level) ∧ v = .tuple #[.slice none 0 0, .int .i64 13]) ∨
       (s.size ≤ 256 ∧ 0 ≤ level ∧ level ≤ 2 ∧ ∃ nb, v = .tuple #[.slice (some ⟨nb, 0, none⟩) (toks s level).length (toks s level).length, .int .i64 0] ∧ h.size ≤ nb ∧ TokB h' nb (toks s level))) := by
  refine FC_of [(0, mv), (1, .string s), (2, .int .i64 level)] Tryz.func69 rfl Tryz.ntmps69 (by simp) rfl (fun R hR => ?_)
  refine V_keep [1, 2] (by simp only [proj, lk, reduceIte, Nat.reduceEqDiff]; rfl) ?_
  refine V_sr T.mix (by kernel_rfl) (fun K1 hK1 => ?_)
  refine S_as rfl ?_
  refine S_as rfl ?_
  refine S_nil (hK1 _ _ (V_keep [1, 2] (by simp only [proj, lk, reduceIte, Nat.reduceEqDiff]; rfl) ?_)); clear hK1
  refine V_seq (fun K2 hK2 => ?_)
  refine V_sr T.mix (by kernel_rfl) (fun K3 hK3 => ?_)
  refine S_mv rfl ?_
  refine S_lens T.kd9 rfl ?_
  refine S_bin rfl rfl rfl ?_
  refine S_nil (hK3 _ _ (V_keep [1, 2, 17] (by simp only [proj, lk, reduceIte, Nat.reduceEqDiff]; rfl) ?_)); clear hK3
  refine V_condp rfl (fun c33 => ?_) (fun c33 => ?_)
  · skip
    refine V_sr T.mix (by kernel_rfl) (fun K4 hK4 => ?_)
    refine S_as rfl ?_
    refine S_as rfl ?_
    refine S_nil (hK4 _ _ (V_keep [6, 7] (by simp only [proj, lk, reduceIte, Nat.reduceEqDiff]; rfl) ?_)); clear hK4
    refine V_ret ?_
    refine hR _ _ (ret2 rfl rfl rfl ?_)
    exact ⟨Ext.refl _ _, .inl ⟨by omega, rfl⟩⟩
  · skip
    refine V_skipk [1, 2] (by simp only [proj, lk, reduceIte, Nat.reduceEqDiff]; rfl) ?_
    refine hK2 _ _ ?_; clear hK2
    refine V_seq (fun K5 hK5 => ?_)
    refine V_sr T.mix (by kernel_rfl) (fun K6 hK6 => ?_)
    refine S_cut (K' := fun l h' => ∃ b : Bool, (b = true ↔ (level < 0 ∨ 2 < level)) ∧ l = [(1, .string s), (2, .int .i64 level), (23, .bool b)] ∧ h = h') ?_ ?_
    · skip
      refine S_mv rfl ?_
      refine S_bin rfl rfl rfl ?_
      refine S_mv rfl ?_
      refine S_dec (fun g36 => ?_) (fun g36 => ?_)
      · skip
        refine S_gf rfl ?_
        refine S_gf rfl ?_
        refine S_pt rfl rfl ?_
        exact S_nilk [1, 2, 23] (by simp only [proj, lk, reduceIte, Nat.reduceEqDiff]; rfl) ⟨_, (by first | (simp [*]; done) | (simp; omega)), rfl, rfl⟩
      · skip
        refine S_gt rfl ?_
        refine S_mv rfl ?_
        refine S_gt rfl ?_
        refine S_bin rfl rfl rfl ?_
        refine S_pf rfl rfl ?_
        exact S_nilk [1, 2, 23] (by simp only [proj, lk, reduceIte, Nat.reduceEqDiff]; rfl) ⟨_, (by first | (simp [*]; done) | (simp; omega)), rfl, rfl⟩
    rintro l h' ⟨b, hb36, rfl, rfl⟩
    refine hK6 _ _ ?_; clear hK6
    refine V_condb rfl (fun c36 => ?_) (fun c36 => ?_)
    · replace c36 := hb36.1 c36
      refine V_sr T.mix (by kernel_rfl) (fun K8 hK8 => ?_)
      refine S_as rfl ?_
      refine S_as rfl ?_
      refine S_nil (hK8 _ _ (V_keep [6, 7] (by simp only [proj, lk, reduceIte, Nat.reduceEqDiff]; rfl) ?_)); clear hK8
      refine V_ret ?_
      refine hR _ _ (ret2 rfl rfl rfl ?_)
      exact ⟨Ext.refl _ _, .inr (.inl ⟨by omega, c36, rfl⟩)⟩
    · replace c36 : ¬ _ := fun hp => Bool.false_ne_true (c36.symm.trans (hb36.2 hp))
      refine V_skipk [1, 2] (by simp only [proj, lk, reduceIte, Nat.reduceEqDiff]; rfl) ?_
      refine hK5 _ _ ?_; clear hK5
      refine V_sr T.mix (by kernel_rfl) (fun K9 hK9 => ?_)
      refine S_mv rfl ?_
      refine S_lens T.kd9 rfl ?_
      refine S_mk T.ei71 rfl rfl (by omega) (by omega) (by omega) (by omega) ?_
      have hzz : mkZ #[Value.int .i64 0, .int .i64 0, .int .i64 0] ((s.size : Int).toNat * 3) = arr (s.size * 3) (fun _ => .int .i64 0) := by rw [mkZ_three, Int.toNat_natCast]
      rw [hzz, Int.toNat_natCast]
      generalize hh : Array.push h _ = h1
      have ho0 : OwnR h.size h1 (some ⟨h.size, 0, none⟩) 0 s.size [] 174 3 := .inr ⟨_, _, rfl, Nat.le_refl _, by rw [← hh]; exact B.new _ _ _, arr_size _ _, by omega, rfl, fun j hj => by simp at hj⟩
      have hE0 : Ext (fun _ => False) h h1 := by rw [← hh]; exact Ext.push _ _ _
      clear hh
      refine S_as rfl ?_
      refine S_nil (hK9 _ _ (V_keep [1, 2, 8] (by simp only [proj, lk, reduceIte, Nat.reduceEqDiff]; rfl) ?_)); clear hK9
      refine V_sr T.mix (by kernel_rfl) (fun K10 hK10 => ?_)
      refine S_as rfl ?_
      refine S_nil (hK10 _ _ (V_keep [1, 2, 8, 9] (by simp only [proj, lk, reduceIte, Nat.reduceEqDiff]; rfl) ?_)); clear hK10
      refine V_seq (fun K11 hK11 => ?_)
      refine V_block ?_
      refine V_loop (fun m l h' => ∃ (i : Nat) (hk : Heap) (a : Option Addr) (cap : Nat) (ts : List Tok), (OwnR h.size hk a ts.length cap (cellsOf ts) 174 3) ∧ (Ext (fun _ => False) h hk) ∧ (Pre s level ts i) ∧ m = s.size - i ∧ l = [(1, .string s), (2, .int .i64 level), (8, .slice a ts.length cap), (9, .int .i64 i)] ∧ hk = h') _ ⟨0, _, _, _, [], ho0, hE0, pre_start s level, rfl, rfl, rfl⟩ ?_
      rintro m l h' ⟨i, hk, a, cap, ts, ho, hE, hPre, rfl, rfl, rfl⟩ K12 hK12
      have hl := hPre.len
      have hle := hPre.le
      have hbt := bAt_lt s (i : Int).toNat
      have hnle := nF_le s level i
      refine V_seq (fun K13 hK13 => ?_)
      refine V_sr T.mix (by kernel_rfl) (fun K14 hK14 => ?_)
      refine S_mv rfl ?_
      refine S_mv rfl ?_
      refine S_lens T.kd9 rfl ?_
      refine S_bin rfl rfl rfl ?_
      refine S_nil (hK14 _ _ (V_keep [1, 2, 8, 9, 30] (by simp only [proj, lk, reduceIte, Nat.reduceEqDiff]; rfl) ?_)); clear hK14
      refine V_condp rfl (fun c41 => ?_) (fun c41 => ?_)
      · skip
        refine V_skipk [1, 2, 8, 9] (by simp only [proj, lk, reduceIte, Nat.reduceEqDiff]; rfl) ?_
        refine hK13 _ _ ?_; clear hK13
        refine V_block ?_
        refine V_sr T.mix (by kernel_rfl) (fun K15 hK15 => ?_)
        refine S_as rfl ?_
        refine S_nil (hK15 _ _ (V_keep [1, 2, 8, 9, 10] (by simp only [proj, lk, reduceIte, Nat.reduceEqDiff]; rfl) ?_)); clear hK15
        refine V_sr T.mix (by kernel_rfl) (fun K16 hK16 => ?_)
        refine S_as rfl ?_
        refine S_nil (hK16 _ _ (V_keep [1, 2, 8, 9, 10, 11] (by simp only [proj, lk, reduceIte, Nat.reduceEqDiff]; rfl) ?_)); clear hK16
        refine V_seqJ (fun l h' => ∃ (n0 d0 : Nat), (level = 0 ∧ n0 = 0 ∧ d0 = 0 ∨ level ≠ 0 ∧ n0 = (bestF s i).1 ∧ d0 = (bestF s i).2) ∧ (i < s.size) ∧ l = [(1, .string s), (2, .int .i64 level), (8, .slice a ts.length cap), (9, .int .i64 i), (10, .int .i64 n0), (11, .int .i64 d0)] ∧ hk = h') ?_ ?_
        · skip
          refine V_sr T.mix (by kernel_rfl) (fun K18 hK18 => ?_)
          refine S_mv rfl ?_
          refine S_bin rfl rfl rfl ?_
          refine S_nil (hK18 _ _ (V_keep [1, 2, 8, 9, 10, 11, 32] (by simp only [proj, lk, reduceIte, Nat.reduceEqDiff]; rfl) ?_)); clear hK18
          refine V_condp rfl (fun c44 => ?_) (fun c44 => ?_)
          · skip
            refine V_reg T.mix (by kernel_rfl) ?_
            refine S_mv rfl ?_
            refine S_mv rfl ?_
            refine S_call T.hb100 rfl ?_
            refine FC.mono (best_spec s i _ (by omega) (by omega) (by omega)) ?_
            rintro v h' ⟨rfl, rfl⟩
            simp only [Int.toNat_natCast]
            refine S_mv rfl ?_
            refine S_ex rfl rfl ?_
            refine S_ex rfl rfl ?_
            refine S_as rfl ?_
            refine S_as rfl ?_
            refine S_nilk [1, 2, 8, 9, 10, 11] (by simp only [proj, lk, reduceIte, Nat.reduceEqDiff]; rfl) ?_
            exact ⟨_, _, .inr ⟨by omega, rfl, rfl⟩, by omega, rfl, rfl⟩
          · skip
            refine V_skipk [1, 2, 8, 9, 10, 11] (by simp only [proj, lk, reduceIte, Nat.reduceEqDiff]; rfl) ?_
            exact ⟨0, 0, .inl ⟨by omega, rfl, rfl⟩, by omega, rfl, rfl⟩
        rintro l h' ⟨n0, d0, hn0, hlt, rfl, rfl⟩
        refine V_seqJ (fun l h' => l = [(1, .string s), (2, .int .i64 level), (8, .slice a ts.length cap), (9, .int .i64 i), (10, .int .i64 (nF s level i : Nat)), (11, .int .i64 d0)] ∧ hk = h') ?_ ?_
        · skip
          refine V_sr T.mix (by kernel_rfl) (fun K20 hK20 => ?_)
          refine S_cut (K' := fun l h' => ∃ b : Bool, (b = true ↔ (level = 2 ∧ (0 : Int) < n0 ∧ (n0 : Int) < 10)) ∧ l = [(1, .string s), (2, .int .i64 level), (8, .slice a ts.length cap), (9, .int .i64 i), (10, .int .i64 n0), (11, .int .i64 d0), (48, .bool b)] ∧ hk = h') ?_ ?_
          · skip
            refine S_mv rfl ?_
            refine S_bin rfl rfl rfl ?_
            refine S_mv rfl ?_
            refine S_dec (fun g47 => ?_) (fun g47 => ?_)
            · skip
              refine S_gt rfl ?_
              refine S_mv rfl ?_
              refine S_gt rfl ?_
              refine S_bin rfl rfl rfl ?_
              refine S_pt rfl rfl ?_
              refine S_mv rfl ?_
              refine S_dec (fun g47a => ?_) (fun g47a => ?_)
              · skip
                refine S_gt rfl ?_
                refine S_mv rfl ?_
                refine S_gt rfl ?_
                refine S_bin rfl rfl rfl ?_
                refine S_pt rfl rfl ?_
                exact S_nilk [1, 2, 8, 9, 10, 11, 48] (by simp only [proj, lk, reduceIte, Nat.reduceEqDiff]; rfl) ⟨_, (by first | (simp [*]; done) | (simp; omega)), rfl, rfl⟩
              · skip
                refine S_gf rfl ?_
                refine S_gf rfl ?_
                refine S_pf rfl rfl ?_
                exact S_nilk [1, 2, 8, 9, 10, 11, 48] (by simp only [proj, lk, reduceIte, Nat.reduceEqDiff]; rfl) ⟨_, (by first | (simp [*]; done) | (simp; omega)), rfl, rfl⟩
            · skip
              refine S_gf rfl ?_
              refine S_gf rfl ?_
              refine S_pf rfl rfl ?_
              refine S_mv rfl ?_
              refine S_gf rfl ?_
              refine S_gf rfl ?_
              refine S_pf rfl rfl ?_
              exact S_nilk [1, 2, 8, 9, 10, 11, 48] (by simp only [proj, lk, reduceIte, Nat.reduceEqDiff]; rfl) ⟨_, (by first | (simp [*]; done) | (simp; omega)), rfl, rfl⟩
          rintro l h' ⟨b, hb47, rfl, rfl⟩
          refine hK20 _ _ ?_; clear hK20
          refine V_condb rfl (fun c47 => ?_) (fun c47 => ?_)
          · replace c47 := hb47.1 c47
            refine V_sr T.mix (by kernel_rfl) (fun K22 hK22 => ?_)
            refine S_mv rfl ?_
            refine S_mv rfl ?_
            first | refine S_add rfl rfl (by omega) (by omega) ?_ | refine S_bin rfl rfl rfl ?_
            refine S_call T.hb100 rfl ?_
            refine FC.mono (best_spec s _ _ (by omega) (by omega) (by omega)) ?_
            rintro v h' ⟨rfl, rfl⟩
            simp only [show ((i : Int) + 1).toNat = i + 1 by omega]
            refine S_mv rfl ?_
            refine S_ex rfl rfl ?_
            refine S_ex rfl rfl ?_
            refine S_as rfl ?_
            refine S_as rfl ?_
            refine S_nil (hK22 _ _ (V_keep [1, 2, 8, 9, 10, 11, 12] (by simp only [proj, lk, reduceIte, Nat.reduceEqDiff]; rfl) ?_)); clear hK22
            refine V_sr T.mix (by kernel_rfl) (fun K23 hK23 => ?_)
            refine S_mv rfl ?_
            refine S_mv rfl ?_
            refine S_bin rfl rfl rfl ?_
            refine S_nil (hK23 _ _ (V_keep [1, 2, 8, 9, 10, 11, 58] (by simp only [proj, lk, reduceIte, Nat.reduceEqDiff]; rfl) ?_)); clear hK23
            refine V_condp rfl (fun c49 => ?_) (fun c49 => ?_)
            · skip
              refine V_reg T.mix (by kernel_rfl) ?_
              refine S_as rfl ?_
              refine S_nilk [1, 2, 8, 9, 10, 11] (by simp only [proj, lk, reduceIte, Nat.reduceEqDiff]; rfl) ?_
              have hnn : nF s level i = 0 := by rw [c47.1]; exact nF2_late s i (by rcases hn0 with h | h <;> omega)
              rw [hnn]
              exact ⟨rfl, rfl⟩
            · skip
              refine V_skipk [1, 2, 8, 9, 10, 11] (by simp only [proj, lk, reduceIte, Nat.reduceEqDiff]; rfl) ?_
              have hnn : nF s level i = n0 := by rw [c47.1, nF2_low s i (by rcases hn0 with h | h <;> omega)]; rcases hn0 with h | h <;> omega
              rw [hnn]
              exact ⟨rfl, rfl⟩
          · replace c47 : ¬ _ := fun hp => Bool.false_ne_true (c47.symm.trans (hb47.2 hp))
            refine V_skipk [1, 2, 8, 9, 10, 11] (by simp only [proj, lk, reduceIte, Nat.reduceEqDiff]; rfl) ?_
            have hnn : nF s level i = n0 := by
              rcases hn0 with ⟨h1, h2, h3⟩ | ⟨h1, h2, h3⟩
              · subst h1; rw [h2]; unfold nF; simp
              · by_cases hl2 : level = 2
                · subst hl2; rw [nF2_low s i (by omega)]; omega
                · have hl1 : level = 1 := by omega
                  subst hl1; rw [nF1]; omega
            rw [hnn]
            exact ⟨rfl, rfl⟩
        rintro l h' ⟨rfl, rfl⟩
        refine V_sr T.mix (by kernel_rfl) (fun K24 hK24 => ?_)
        refine S_mv rfl ?_
        refine S_bin rfl rfl rfl ?_
        refine S_nil (hK24 _ _ (V_keep [1, 2, 8, 9, 10, 11, 60] (by simp only [proj, lk, reduceIte, Nat.reduceEqDiff]; rfl) ?_)); clear hK24
        refine V_condp rfl (fun c53 => ?_) (fun c53 => ?_)
        · skip
          refine V_sr T.mix (by kernel_rfl) (fun K25 hK25 => ?_)
          refine S_mv rfl ?_
          refine S_mv rfl ?_
          refine S_mv rfl ?_
          refine S_si T.kd9 rfl rfl (by omega) (by omega) ?_
          first | refine S_cvi T.us5 T.in3 rfl (by omega) (by omega) ?_ | refine S_cv T.us5 T.in3 rfl ?_
          refine S_bld rfl (T.bld174_2 _) ?_
          refine S_bs T.ei71 rfl (by decide) (by decide) (T.bs71_1_0 _ _ _) ?_
          refine S_appo T.ei71 T.ni71 T.us71 rfl rfl (ho.ext (Ext.push (fun _ => False) _ _) (fun _ _ f => f)) (by have := hE.1; simp; omega) (cellsH_new _ _ _) rfl (by omega) (by decide) (by decide) rfl (fun a1 cap1 h1 ho1 hE1 _ => ?_)
          have hE1b : Ext (fun _ => False) h h1 := (hE.pushn _).step hE1 (fun b hb e => by have := OwnR.blk2 ho e; omega)
          refine S_as rfl ?_
          refine S_nil (hK25 _ _ (V_keep [1, 2, 8, 9] (by simp only [proj, lk, reduceIte, Nat.reduceEqDiff]; rfl) ?_)); clear hK25
          refine V_reg T.mix (by kernel_rfl) ?_
          refine S_mv rfl ?_
          first | refine S_add rfl rfl (by omega) (by omega) ?_ | refine S_bin rfl rfl rfl ?_
          refine S_as rfl ?_
          refine S_nilk [1, 2, 8, 9] (by simp only [proj, lk, reduceIte, Nat.reduceEqDiff]; rfl) ?_
          obtain ⟨t1, t2⟩ := tok_lit (s := s) (level := level) (i := i) (by omega)
          have hps := pre_step hPre (by omega)
          rw [t1, t2] at hps
          exact hK12 _ _ ⟨_, by omega, i + 1, h1, a1, cap1, ts ++ [⟨0, 0, bAt s i⟩], by rw [cellsOf_snoc]; simpa using ho1, hE1b, hps, rfl, by simp, rfl⟩
        · skip
          refine V_sr T.mix (by kernel_rfl) (fun K26 hK26 => ?_)
          refine S_mv rfl ?_
          refine S_mv rfl ?_
          refine S_mv rfl ?_
          refine S_bld rfl (T.bld174_0_1 _ _) ?_
          refine S_bs T.ei71 rfl (by decide) (by decide) (T.bs71_1_0 _ _ _) ?_
          refine S_appo T.ei71 T.ni71 T.us71 rfl rfl (ho.ext (Ext.push (fun _ => False) _ _) (fun _ _ f => f)) (by have := hE.1; simp; omega) (cellsH_new _ _ _) rfl (by omega) (by decide) (by decide) rfl (fun a1 cap1 h1 ho1 hE1 _ => ?_)
          have hE1b : Ext (fun _ => False) h h1 := (hE.pushn _).step hE1 (fun b hb e => by have := OwnR.blk2 ho e; omega)
          refine S_as rfl ?_
          refine S_nil (hK26 _ _ (V_keep [1, 2, 8, 9, 10] (by simp only [proj, lk, reduceIte, Nat.reduceEqDiff]; rfl) ?_)); clear hK26
          refine V_reg T.mix (by kernel_rfl) ?_
          refine S_mv rfl ?_
          refine S_mv rfl ?_
          first | refine S_add rfl rfl (by omega) (by omega) ?_ | refine S_bin rfl rfl rfl ?_
          refine S_as rfl ?_
          refine S_nilk [1, 2, 8, 9] (by simp only [proj, lk, reduceIte, Nat.reduceEqDiff]; rfl) ?_
          have hnp := nF_pos (s := s) (level := level) (i := i) (by omega)
          obtain ⟨t1, t2⟩ := tok_dup (s := s) (level := level) (i := i) hnp.1 (by omega)
          have hps := pre_step hPre (by omega)
          rw [t1, t2] at hps
          have hd0 : d0 = (bestF s i).2 := by rcases hn0 with h | h <;> omega
          exact hK12 _ _ ⟨_, by omega, i + (bestF s i).1, h1, a1, cap1, ts ++ [⟨(bestF s i).1, (bestF s i).2, 0⟩], by rw [cellsOf_snoc]; rw [hnp.1, hd0] at ho1; simpa using ho1, hE1b, hps, rfl, by rw [hnp.1]; simp, rfl⟩
      · skip
        refine V_exitk [8] rfl (by simp only [proj, lk, reduceIte, Nat.reduceEqDiff]; rfl) ?_
        refine hK11 _ _ ?_; clear hK11
        refine V_sr T.mix (by kernel_rfl) (fun K27 hK27 => ?_)
        refine S_mv rfl ?_
        refine S_lenl T.el71 rfl ?_
        refine S_mk T.ei71 rfl rfl (by omega) (by omega) (by omega) (by omega) ?_
        simp only [Int.toNat_natCast, mkZ_three]
        generalize hh : Array.push hk _ = h3
        have hB3 : B h3 hk.size (arr (ts.length * 3) fun _ => .int .i64 0) 174 := by rw [← hh]; exact B.new _ _ _
        have hE3 : Ext (fun _ => False) hk h3 := by rw [← hh]; exact Ext.push _ _ _
        have ho3 := ho.ext hE3 (fun _ _ f => f)
        clear hh
        refine S_as rfl ?_
        refine S_nil (hK27 _ _ (V_keep [8, 14] (by simp only [proj, lk, reduceIte, Nat.reduceEqDiff]; rfl) ?_)); clear hK27
        refine V_sr T.mix (by kernel_rfl) (fun K28 hK28 => ?_)
        refine S_mv rfl ?_
        refine S_mv rfl ?_
        refine S_copyx T.el71 rfl (k := ts.length) (by simp) ho3.cells hB3 (by rw [cellsOf_len]; omega) (cellsOf_one _) (fun h4 hB4 hE4 hz4 => ?_)
        refine S_nil (hK28 _ _ (V_keep [14] (by simp only [proj, lk, reduceIte, Nat.reduceEqDiff]; rfl) ?_)); clear hK28
        refine V_sr T.mix (by kernel_rfl) (fun K29 hK29 => ?_)
        refine S_mv rfl ?_
        refine S_as rfl ?_
        refine S_as rfl ?_
        refine S_nil (hK29 _ _ (V_keep [6, 7] (by simp only [proj, lk, reduceIte, Nat.reduceEqDiff]; rfl) ?_)); clear hK29
        refine V_ret ?_
        refine hR _ _ (ret2 rfl rfl rfl ?_)
        obtain ⟨e1, e2⟩ := pre_end hPre (by omega)
        subst e1
        refine ⟨(hE.trans hE3).step hE4 (fun b hb e => by have := hE.1; omega), .inr (.inr ⟨by omega, by omega, by omega, hk.size, rfl, hE.1, ?_⟩)⟩
        unfold TokB
        rwa [arr_ext (fun j hj => by rw [if_pos (by rw [cellsOf_len]; exact hj), List.getD_eq_getElem?_getD, cellsOf_get _ j hj, Option.getD_some])] at hB4
end Go.Proofs.Qxb6500404aGreat.LzW
