import Derived.Test.Qxb6500408aWe
set_option linter.unusedVariables false
set_option linter.unusedSimpArgs false
namespace Go.Proofs.Qxb6500408a
open Go.Eng Go.Lz
set_option maxHeartbeats 400000 in
theorem hash3_spec (s : ByteArray) (p : Int) (h : Heap) (h0 : 0 ≤ p) (h1 : p + 3 ≤ s.size) (hs : s.size ≤ 256) :
    FC Try.prog 40 (#[.string s, .int .i64 p] : Array Value) h fun v h' => v = .int .i64 (hashF s p.toNat) ∧ h = h' := by
  have b0 := bAt_lt s p.toNat
  have b1 := bAt_lt s (p + 1).toNat
  have b2 := bAt_lt s (p + 2).toNat
  refine FC_of [(0, .string s), (1, .int .i64 p)] Try.func40 rfl Try.ntmps40 (by simp) rfl (fun R hR => ?_)
  refine V_sr T.mix (by kernel_rfl) (fun K1 hK1 => ?_)
  refine S_as rfl ?_
  refine S_nil (hK1 _ _ (V_keep [0, 1] (by simp only [proj, lk, reduceIte, Nat.reduceEqDiff]; rfl) ?_)); clear hK1
  refine V_sr T.mix (by kernel_rfl) (fun K2 hK2 => ?_)
  refine S_mv rfl ?_
  refine S_mv rfl ?_
  refine S_si T.kd9 rfl rfl (by omega) (by omega) ?_
  first | refine S_cvi T.us5 T.in3 rfl (by omega) (by omega) ?_ | refine S_cv T.us5 T.in3 rfl ?_
  refine S_as rfl ?_
  refine S_nil (hK2 _ _ (V_keep [0, 1, 5] (by simp only [proj, lk, reduceIte, Nat.reduceEqDiff]; rfl) ?_)); clear hK2
  refine V_sr T.mix (by kernel_rfl) (fun K3 hK3 => ?_)
  refine S_mv rfl ?_
  refine S_mv rfl ?_
  first | refine S_add rfl rfl (by omega) (by omega) ?_ | refine S_bin rfl rfl rfl ?_
  refine S_si T.kd9 rfl rfl (by omega) (by omega) ?_
  first | refine S_cvi T.us5 T.in3 rfl (by omega) (by omega) ?_ | refine S_cv T.us5 T.in3 rfl ?_
  refine S_as rfl ?_
  refine S_nil (hK3 _ _ (V_keep [0, 1, 5, 6] (by simp only [proj, lk, reduceIte, Nat.reduceEqDiff]; rfl) ?_)); clear hK3
  refine V_sr T.mix (by kernel_rfl) (fun K4 hK4 => ?_)
  refine S_mv rfl ?_
  refine S_mv rfl ?_
  first | refine S_add rfl rfl (by omega) (by omega) ?_ | refine S_bin rfl rfl rfl ?_
  refine S_si T.kd9 rfl rfl (by omega) (by omega) ?_
  first | refine S_cvi T.us5 T.in3 rfl (by omega) (by omega) ?_ | refine S_cv T.us5 T.in3 rfl ?_
  refine S_as rfl ?_
  refine S_nil (hK4 _ _ (V_keep [5, 6, 7] (by simp only [proj, lk, reduceIte, Nat.reduceEqDiff]; rfl) ?_)); clear hK4
  refine V_sr T.mix (by kernel_rfl) (fun K5 hK5 => ?_)
  refine S_mv rfl ?_
  refine S_bin rfl rfl rfl ?_
  refine S_mv rfl ?_
  refine S_bin rfl rfl rfl ?_
  refine S_bin rfl rfl rfl ?_
  refine S_mv rfl ?_
  refine S_bin rfl rfl rfl ?_
  first | refine S_andm 63 6 64 rfl rfl rfl (by decide) (by decide) (by omega) (by omega) ?_ | refine S_bin rfl rfl rfl ?_
  refine S_as rfl ?_
  refine S_nil (hK5 _ _ (V_keep [4] (by simp only [proj, lk, reduceIte, Nat.reduceEqDiff]; rfl) ?_)); clear hK5
  refine V_ret ?_
  refine hR _ _ (ret1 rfl rfl ?_)
  refine ⟨?_, rfl⟩
  rw [hashF, show p.toNat + 1 = (p + 1).toNat by omega, show p.toNat + 2 = (p + 2).toNat by omega]
  rfl
set_option maxHeartbeats 400000 in
theorem room_spec (s : ByteArray) (p : Int) (h : Heap) (h0 : 0 ≤ p) (hp : p ≤ s.size + 1) (hs : s.size ≤ 256) :
    FC Try.prog 31 (#[.string s, .int .i64 p] : Array Value) h fun v h' => v = .int .i64 (roomF s p.toNat) ∧ h = h' := by
  obtain ⟨p, rfl⟩ := Int.eq_ofNat_of_zero_le h0
  simp only [Int.toNat_natCast]
  refine FC_of [(0, .string s), (1, .int .i64 p)] Try.func31 rfl Try.ntmps31 (by simp) rfl (fun R hR => ?_)
  refine V_sr T.mix (by kernel_rfl) (fun K1 hK1 => ?_)
  refine S_as rfl ?_
  refine S_nil (hK1 _ _ (V_keep [0, 1] (by simp only [proj, lk, reduceIte, Nat.reduceEqDiff]; rfl) ?_)); clear hK1
  refine V_seq (fun K2 hK2 => ?_)
  refine V_sr T.mix (by kernel_rfl) (fun K3 hK3 => ?_)
  refine S_mv rfl ?_
  first | refine S_add rfl rfl (by omega) (by omega) ?_ | refine S_bin rfl rfl rfl ?_
  refine S_mv rfl ?_
  refine S_lens T.kd9 rfl ?_
  refine S_bin rfl rfl rfl ?_
  refine S_nil (hK3 _ _ (V_keep [0, 1, 13] (by simp only [proj, lk, reduceIte, Nat.reduceEqDiff]; rfl) ?_)); clear hK3
  refine V_condp rfl (fun c187 => ?_) (fun c187 => ?_)
  · skip
    refine V_sr T.mix (by kernel_rfl) (fun K4 hK4 => ?_)
    refine S_as rfl ?_
    refine S_nil (hK4 _ _ (V_keep [4] (by simp only [proj, lk, reduceIte, Nat.reduceEqDiff]; rfl) ?_)); clear hK4
    refine V_ret ?_
    refine hR _ _ (ret1 rfl rfl ?_)
    exact ⟨by unfold roomF; rw [if_pos (by omega)]; rfl, rfl⟩
  · skip
    refine V_skipk [0, 1] (by simp only [proj, lk, reduceIte, Nat.reduceEqDiff]; rfl) ?_
    refine hK2 _ _ ?_; clear hK2
    refine V_sr T.mix (by kernel_rfl) (fun K5 hK5 => ?_)
    refine S_mv rfl ?_
    refine S_mv rfl ?_
    refine S_call T.hb40 rfl ?_
    refine FC.mono (hash3_spec s p h (by omega) (by omega) hs) ?_
    rintro v h' ⟨rfl, rfl⟩
    simp only [Int.toNat_natCast]
    refine S_as rfl ?_
    refine S_nil (hK5 _ _ (V_keep [0, 1, 5] (by simp only [proj, lk, reduceIte, Nat.reduceEqDiff]; rfl) ?_)); clear hK5
    refine V_sr T.mix (by kernel_rfl) (fun K6 hK6 => ?_)
    refine S_as rfl ?_
    refine S_nil (hK6 _ _ (V_keep [0, 1, 5, 6] (by simp only [proj, lk, reduceIte, Nat.reduceEqDiff]; rfl) ?_)); clear hK6
    refine V_seq (fun K7 hK7 => ?_)
    refine V_sr T.mix (by kernel_rfl) (fun K8 hK8 => ?_)
    refine S_mv rfl ?_
    first | refine S_sub rfl rfl (by omega) (by omega) ?_ | refine S_bin rfl rfl rfl ?_
    refine S_as rfl ?_
    refine S_nil (hK8 _ _ (V_keep [0, 1, 5, 6, 7] (by simp only [proj, lk, reduceIte, Nat.reduceEqDiff]; rfl) ?_)); clear hK8
    refine V_block ?_
    refine V_loop (fun m l h' => ∃ (d n : Nat), (d ≤ 16) ∧ (n + cnt s p d = cnt s p 16) ∧ m = d * 2 ∧ l = [(0, .string s), (1, .int .i64 p), (5, .int .i64 (hashF s p)), (6, .int .i64 n), (7, .int .i64 ((p : Int) - d))] ∧ h = h') _ ⟨16, 0, by omega, by omega, rfl, rfl, rfl⟩ ?_
    rintro m l h' ⟨d, n, hd, hc, rfl, rfl, rfl⟩ K9 hK9
    have hk16 : cnt s p 16 ≤ 16 := by
      have h1 := room_le s p
      unfold roomF at h1
      rw [if_neg (by omega)] at h1; exact h1
    refine V_seq (fun K10 hK10 => ?_)
    refine V_sr T.mix (by kernel_rfl) (fun K11 hK11 => ?_)
    refine S_mv rfl ?_
    refine S_mv rfl ?_
    refine S_bin rfl rfl rfl ?_
    refine S_nil (hK11 _ _ (V_keep [0, 1, 5, 6, 7, 21] (by simp only [proj, lk, reduceIte, Nat.reduceEqDiff]; rfl) ?_)); clear hK11
    refine V_condp rfl (fun c192 => ?_) (fun c192 => ?_)
    · skip
      refine V_skipk [0, 1, 5, 6, 7] (by simp only [proj, lk, reduceIte, Nat.reduceEqDiff]; rfl) ?_
      refine hK10 _ _ ?_; clear hK10
      refine V_seq (fun K12 hK12 => ?_)
      refine V_block ?_
      refine V_sr T.mix (by kernel_rfl) (fun K13 hK13 => ?_)
      refine S_mv rfl ?_
      refine S_bin rfl rfl rfl ?_
      refine S_nil (hK13 _ _ (V_keep [0, 1, 5, 6, 7, 25] (by simp only [proj, lk, reduceIte, Nat.reduceEqDiff]; rfl) ?_)); clear hK13
      refine V_condp rfl (fun c193 => ?_) (fun c193 => ?_)
      · skip
        refine V_sr T.mix (by kernel_rfl) (fun K14 hK14 => ?_)
        refine S_mv rfl ?_
        refine S_mv rfl ?_
        refine S_call T.hb40 rfl ?_
        refine FC.mono (hash3_spec s _ h (by omega) (by omega) hs) ?_
        rintro v h' ⟨rfl, rfl⟩
        refine S_as rfl ?_
        refine S_nil (hK14 _ _ (V_keep [0, 1, 5, 6, 7, 8] (by simp only [proj, lk, reduceIte, Nat.reduceEqDiff]; rfl) ?_)); clear hK14
        refine V_sr T.mix (by kernel_rfl) (fun K15 hK15 => ?_)
        refine S_mv rfl ?_
        refine S_mv rfl ?_
        refine S_bin rfl rfl rfl ?_
        refine S_nil (hK15 _ _ (V_keep [0, 1, 5, 6, 7, 31] (by simp only [proj, lk, reduceIte, Nat.reduceEqDiff]; rfl) ?_)); clear hK15
        refine V_condp rfl (fun c195 => ?_) (fun c195 => ?_)
        · skip
          refine V_reg T.mix (by kernel_rfl) ?_
          refine S_mv rfl ?_
          first | refine S_add rfl rfl (by omega) (by omega) ?_ | refine S_bin rfl rfl rfl ?_
          refine S_as rfl ?_
          refine S_nilk [0, 1, 5, 6, 7] (by simp only [proj, lk, reduceIte, Nat.reduceEqDiff]; rfl) ?_
          refine hK12 _ _ ?_; clear hK12
          refine V_reg T.mix (by kernel_rfl) ?_
          refine S_mv rfl ?_
          first | refine S_add rfl rfl (by omega) (by omega) ?_ | refine S_bin rfl rfl rfl ?_
          refine S_as rfl ?_
          refine S_nilk [0, 1, 5, 6, 7] (by simp only [proj, lk, reduceIte, Nat.reduceEqDiff]; rfl) ?_
          obtain ⟨d, rfl⟩ : ∃ e, d = e + 1 := ⟨d - 1, by omega⟩
          have e1 : cnt s p (d + 1) = cnt s p d + 1 := by simp only [cnt]; rw [if_pos ⟨by omega, by rw [show p - (d + 1) = ((p : Int) - ((d + 1 : Nat) : Int)).toNat by omega]; exact c195⟩]
          rw [show (p : Int) - ((d + 1 : Nat) : Int) + 1 = (p : Int) - (d : Nat) by omega]
          exact hK9 _ _ ⟨_, by omega, d, n + 1, by omega, by omega, rfl, rfl, rfl⟩
        · skip
          refine V_skipk [0, 1, 5, 6, 7] (by simp only [proj, lk, reduceIte, Nat.reduceEqDiff]; rfl) ?_
          refine hK12 _ _ ?_; clear hK12
          refine V_reg T.mix (by kernel_rfl) ?_
          refine S_mv rfl ?_
          first | refine S_add rfl rfl (by omega) (by omega) ?_ | refine S_bin rfl rfl rfl ?_
          refine S_as rfl ?_
          refine S_nilk [0, 1, 5, 6, 7] (by simp only [proj, lk, reduceIte, Nat.reduceEqDiff]; rfl) ?_
          obtain ⟨d, rfl⟩ : ∃ e, d = e + 1 := ⟨d - 1, by omega⟩
          have e1 : cnt s p (d + 1) = cnt s p d := by simp only [cnt]; rw [if_neg (fun hh => c195 (by rw [show ((p : Int) - ((d + 1 : Nat) : Int)).toNat = p - (d + 1) by omega]; exact hh.2))]; rfl
          rw [show (p : Int) - ((d + 1 : Nat) : Int) + 1 = (p : Int) - (d : Nat) by omega]
          exact hK9 _ _ ⟨_, by omega, d, n, by omega, by omega, rfl, rfl, rfl⟩
      · skip
        refine V_skipk [0, 1, 5, 6, 7] (by simp only [proj, lk, reduceIte, Nat.reduceEqDiff]; rfl) ?_
        refine hK12 _ _ ?_; clear hK12
        refine V_reg T.mix (by kernel_rfl) ?_
        refine S_mv rfl ?_
        first | refine S_add rfl rfl (by omega) (by omega) ?_ | refine S_bin rfl rfl rfl ?_
        refine S_as rfl ?_
        refine S_nilk [0, 1, 5, 6, 7] (by simp only [proj, lk, reduceIte, Nat.reduceEqDiff]; rfl) ?_
        obtain ⟨d, rfl⟩ : ∃ e, d = e + 1 := ⟨d - 1, by omega⟩
        have e1 : cnt s p (d + 1) = cnt s p d := by simp only [cnt]; rw [if_neg (fun hh => by omega)]; rfl
        rw [show (p : Int) - ((d + 1 : Nat) : Int) + 1 = (p : Int) - (d : Nat) by omega]
        exact hK9 _ _ ⟨_, by omega, d, n, by omega, by omega, rfl, rfl, rfl⟩
    · skip
      refine V_exitk [6] rfl (by simp only [proj, lk, reduceIte, Nat.reduceEqDiff]; rfl) ?_
      refine hK7 _ _ ?_; clear hK7
      refine V_sr T.mix (by kernel_rfl) (fun K16 hK16 => ?_)
      refine S_mv rfl ?_
      refine S_as rfl ?_
      refine S_nil (hK16 _ _ (V_keep [4] (by simp only [proj, lk, reduceIte, Nat.reduceEqDiff]; rfl) ?_)); clear hK16
      refine V_ret ?_
      refine hR _ _ (ret1 rfl rfl ?_)
      have hd0 : d = 0 := by omega
      subst hd0
      have : n = cnt s p 16 := by simp only [cnt] at hc ⊢; omega
      exact ⟨by unfold roomF; rw [if_neg (by omega), this], rfl⟩
set_option maxHeartbeats 400000 in
theorem one_spec (s : ByteArray) (h : Heap) (hs : s.size ≤ 256) :
    FC Try.prog 33 (#[.string s] : Array Value) h fun v h' => (∃ b : Bool, v = .bool b ∧ (b = true → One s)) ∧ h = h' := by
  refine FC_of [(0, .string s)] Try.func33 rfl Try.ntmps33 (by simp) rfl (fun R hR => ?_)
  refine V_sr T.mix (by kernel_rfl) (fun K1 hK1 => ?_)
  refine S_as rfl ?_
  refine S_nil (hK1 _ _ (V_keep [0] (by simp only [proj, lk, reduceIte, Nat.reduceEqDiff]; rfl) ?_)); clear hK1
  refine V_seq (fun K2 hK2 => ?_)
  refine V_sr T.mix (by kernel_rfl) (fun K3 hK3 => ?_)
  refine S_as rfl ?_
  refine S_nil (hK3 _ _ (V_keep [0, 3] (by simp only [proj, lk, reduceIte, Nat.reduceEqDiff]; rfl) ?_)); clear hK3
  refine V_block ?_
  refine V_loop (fun m l h' => ∃ (i : Nat), (1 ≤ i) ∧ (∀ j, j < i → j < s.size → bAt s j = bAt s 0) ∧ m = s.size + 1 - i ∧ l = [(0, .string s), (3, .int .i64 i)] ∧ h = h') _ ⟨1, by omega, fun j hj _ => by rw [show j = 0 by omega], rfl, rfl, rfl⟩ ?_
  rintro m l h' ⟨i, hi, ha, rfl, rfl, rfl⟩ K4 hK4
  refine V_seq (fun K5 hK5 => ?_)
  refine V_sr T.mix (by kernel_rfl) (fun K6 hK6 => ?_)
  refine S_mv rfl ?_
  refine S_mv rfl ?_
  refine S_lens T.kd9 rfl ?_
  refine S_bin rfl rfl rfl ?_
  refine S_nil (hK6 _ _ (V_keep [0, 3, 7] (by simp only [proj, lk, reduceIte, Nat.reduceEqDiff]; rfl) ?_)); clear hK6
  refine V_condp rfl (fun c136 => ?_) (fun c136 => ?_)
  · skip
    refine V_skipk [0, 3] (by simp only [proj, lk, reduceIte, Nat.reduceEqDiff]; rfl) ?_
    refine hK5 _ _ ?_; clear hK5
    refine V_seq (fun K7 hK7 => ?_)
    refine V_block ?_
    refine V_sr T.mix (by kernel_rfl) (fun K8 hK8 => ?_)
    refine S_mv rfl ?_
    refine S_mv rfl ?_
    refine S_si T.kd9 rfl rfl (by omega) (by omega) ?_
    refine S_mv rfl ?_
    refine S_si T.kd9 rfl rfl (by omega) (by omega) ?_
    refine S_bin rfl rfl rfl ?_
    refine S_nil (hK8 _ _ (V_keep [0, 3, 15] (by simp only [proj, lk, reduceIte, Nat.reduceEqDiff]; rfl) ?_)); clear hK8
    refine V_condp rfl (fun c137 => ?_) (fun c137 => ?_)
    · skip
      refine V_sr T.mix (by kernel_rfl) (fun K9 hK9 => ?_)
      refine S_as rfl ?_
      refine S_nil (hK9 _ _ (V_keep [2] (by simp only [proj, lk, reduceIte, Nat.reduceEqDiff]; rfl) ?_)); clear hK9
      refine V_ret ?_
      refine hR _ _ (ret1 rfl rfl ?_)
      exact ⟨⟨false, rfl, fun e => by cases e⟩, rfl⟩
    · skip
      refine V_skipk [0, 3] (by simp only [proj, lk, reduceIte, Nat.reduceEqDiff]; rfl) ?_
      refine hK7 _ _ ?_; clear hK7
      refine V_reg T.mix (by kernel_rfl) ?_
      refine S_mv rfl ?_
      first | refine S_add rfl rfl (by omega) (by omega) ?_ | refine S_bin rfl rfl rfl ?_
      refine S_as rfl ?_
      refine S_nilk [0, 3] (by simp only [proj, lk, reduceIte, Nat.reduceEqDiff]; rfl) ?_
      exact hK4 _ _ ⟨_, by omega, i + 1, by omega, fun j hj hjs => by
        by_cases e : j = i
        · subst e; simp only [Int.toNat_natCast, show Int.toNat 0 = 0 from rfl] at c137; omega
        · exact ha j (by omega) hjs, rfl, rfl, rfl⟩
  · skip
    refine V_exitk [] rfl (by simp only [proj, lk, reduceIte, Nat.reduceEqDiff]; rfl) ?_
    refine hK2 _ _ ?_; clear hK2
    refine V_sr T.mix (by kernel_rfl) (fun K10 hK10 => ?_)
    refine S_as rfl ?_
    refine S_nil (hK10 _ _ (V_keep [2] (by simp only [proj, lk, reduceIte, Nat.reduceEqDiff]; rfl) ?_)); clear hK10
    refine V_ret ?_
    refine hR _ _ (ret1 rfl rfl ?_)
    exact ⟨⟨true, rfl, fun _ j hj => ha j (by omega) hj⟩, rfl⟩
set_option maxHeartbeats 400000 in
theorem lid_spec (s : ByteArray) (level : Int) (nb : Nat) (h : Heap) (hs : s.size ≤ 256) (hB : TokB h nb (toks s level)) :
    FC Try.prog 23 (#[.slice (some ⟨nb, 0, none⟩) (toks s level).length (toks s level).length, .int .i64 level, .string s] : Array Value) h fun v h' => v = .int .i64 (lid0 s level) ∧ h = h' := by
  have htl := toks_len s level
  unfold TokB at hB
  refine FC_of [(0, .slice (some ⟨nb, 0, none⟩) (toks s level).length (toks s level).length), (1, .int .i64 level), (2, .string s)] Try.func23 rfl Try.ntmps23 (by simp) rfl (fun R hR => ?_)
  refine V_sr T.mix (by kernel_rfl) (fun K1 hK1 => ?_)
  refine S_as rfl ?_
  refine S_nil (hK1 _ _ (V_keep [0, 1, 2] (by simp only [proj, lk, reduceIte, Nat.reduceEqDiff]; rfl) ?_)); clear hK1
  refine V_seq (fun K2 hK2 => ?_)
  refine V_sr T.mix (by kernel_rfl) (fun K3 hK3 => ?_)
  refine S_mv rfl ?_
  refine S_bin rfl rfl rfl ?_
  refine S_nil (hK3 _ _ (V_keep [0, 1, 2, 13] (by simp only [proj, lk, reduceIte, Nat.reduceEqDiff]; rfl) ?_)); clear hK3
  refine V_condp rfl (fun c206 => ?_) (fun c206 => ?_)
  · skip
    refine V_sr T.mix (by kernel_rfl) (fun K4 hK4 => ?_)
    refine S_as rfl ?_
    refine S_nil (hK4 _ _ (V_keep [6] (by simp only [proj, lk, reduceIte, Nat.reduceEqDiff]; rfl) ?_)); clear hK4
    refine V_ret ?_
    refine hR _ _ (ret1 rfl rfl ?_)
    exact ⟨by unfold lid0; rw [if_pos (by omega)]; rfl, rfl⟩
  · skip
    refine V_skipk [0, 1, 2] (by simp only [proj, lk, reduceIte, Nat.reduceEqDiff]; rfl) ?_
    refine hK2 _ _ ?_; clear hK2
    refine V_sr T.mix (by kernel_rfl) (fun K5 hK5 => ?_)
    refine S_as rfl ?_
    refine S_nil (hK5 _ _ (V_keep [0, 1, 2, 7] (by simp only [proj, lk, reduceIte, Nat.reduceEqDiff]; rfl) ?_)); clear hK5
    refine V_sr T.mix (by kernel_rfl) (fun K6 hK6 => ?_)
    refine S_as rfl ?_
    refine S_nil (hK6 _ _ (V_keep [0, 1, 2, 7, 8] (by simp only [proj, lk, reduceIte, Nat.reduceEqDiff]; rfl) ?_)); clear hK6
    refine V_seq (fun K7 hK7 => ?_)
    refine V_sr T.mix (by kernel_rfl) (fun K8 hK8 => ?_)
    refine S_as rfl ?_
    refine S_nil (hK8 _ _ (V_keep [0, 1, 2, 7, 8, 9] (by simp only [proj, lk, reduceIte, Nat.reduceEqDiff]; rfl) ?_)); clear hK8
    refine V_block ?_
    refine V_loop (fun m l h' => ∃ (k p : Nat), (k ≤ (toks s level).length) ∧ (Pre s level ((toks s level).take k) p) ∧ (endF ((toks s level).take k) 0 = p) ∧ m = (toks s level).length - k ∧ l = [(0, .slice (some ⟨nb, 0, none⟩) (toks s level).length (toks s level).length), (1, .int .i64 level), (2, .string s), (7, .int .i64 (lidF s level ((toks s level).take k) 0 : Nat)), (8, .int .i64 p), (9, .int .i64 k)] ∧ h = h') _ ⟨0, 0, by omega, by simpa using pre_start s level, rfl, rfl, rfl, rfl⟩ ?_
    rintro m l h' ⟨k, p, hk, hPre, hend, rfl, rfl, rfl⟩ K9 hK9
    have hll := lid_le s level ((toks s level).take k) 0
    have hlt : ((toks s level).take k).length ≤ 256 := by rw [List.length_take]; omega
    have hr0 := room_le s p
    have hr1 := room_le s (p + 1)
    refine V_seq (fun K10 hK10 => ?_)
    refine V_sr T.mix (by kernel_rfl) (fun K11 hK11 => ?_)
    refine S_mv rfl ?_
    refine S_mv rfl ?_
    refine S_lenl T.el32 rfl ?_
    refine S_bin rfl rfl rfl ?_
    refine S_nil (hK11 _ _ (V_keep [0, 1, 2, 7, 8, 9, 17] (by simp only [proj, lk, reduceIte, Nat.reduceEqDiff]; rfl) ?_)); clear hK11
    refine V_condp rfl (fun c211 => ?_) (fun c211 => ?_)
    · skip
      obtain ⟨hp1, hp2, hp3⟩ := pre_next hPre (by omega)
      have hf := fl_at (toks s level) k (by omega)
      rw [hp2] at hf
      have hlk := lid_take (s := s) (level := level) (k := k) (by omega)
      rw [hend] at hlk
      have hadv := adv_le (level := level) hp1
      have hpos := adv_pos s level p
      have hlen : (tokF s level p).len = 0 ∧ advF s level p = 1 ∨ (tokF s level p).len = advF s level p ∧ (tokF s level p).len ≠ 0 := by
        unfold tokF advF
        split
        · exact .inl ⟨rfl, rfl⟩
        · exact .inr ⟨rfl, by simp only []; omega⟩
      refine V_skipk [0, 1, 2, 7, 8, 9] (by simp only [proj, lk, reduceIte, Nat.reduceEqDiff]; rfl) ?_
      refine hK10 _ _ ?_; clear hK10
      refine V_seq (fun K12 hK12 => ?_)
      refine V_block ?_
      refine V_sr T.mix (by kernel_rfl) (fun K13 hK13 => ?_)
      refine S_mv rfl ?_
      refine S_mv rfl ?_
      refine S_call T.hb31 rfl ?_
      refine FC.mono (room_spec s p h (by omega) (by omega) hs) ?_
      rintro v h' ⟨rfl, rfl⟩
      simp only [Int.toNat_natCast]
      refine S_as rfl ?_
      refine S_nil (hK13 _ _ (V_keep [0, 1, 2, 7, 8, 9, 10] (by simp only [proj, lk, reduceIte, Nat.reduceEqDiff]; rfl) ?_)); clear hK13
      refine V_sr T.mix (by kernel_rfl) (fun K14 hK14 => ?_)
      refine S_mv rfl ?_
      refine S_mv rfl ?_
      first | refine S_add rfl rfl (by omega) (by omega) ?_ | refine S_bin rfl rfl rfl ?_
      refine S_as rfl ?_
      refine S_nil (hK14 _ _ (V_keep [0, 1, 2, 7, 8, 9] (by simp only [proj, lk, reduceIte, Nat.reduceEqDiff]; rfl) ?_)); clear hK14
      refine V_sr T.mix (by kernel_rfl) (fun K15 hK15 => ?_)
      refine S_mv rfl ?_
      refine S_mv rfl ?_
      first | refine S_ixmn T.el32 rfl rfl (by omega) ?_ | refine S_ixm T.el32 rfl rfl (by omega) (by omega) ?_ | refine S_ix T.el32 rfl rfl (by omega) (by omega) ?_
      first | refine S_fa0 T.f61_0 rfl ?_ | refine S_fa T.f61_0 rfl ?_
      refine S_ldK T.ag3 rfl (fun K' hK' => ?_)
      simp (disch := omega) only [hB.cellA, hf.1, Nat.add_zero, oP_some, Nat.add_zero]
      refine hK' _ ?_; clear hK' K'
      refine S_bin rfl rfl rfl ?_
      refine S_nil (hK15 _ _ (V_keep [0, 1, 2, 7, 8, 9, 31] (by simp only [proj, lk, reduceIte, Nat.reduceEqDiff]; rfl) ?_)); clear hK15
      refine V_condp rfl (fun c214 => ?_) (fun c214 => ?_)
      · skip
        have ha0 : advF s level p = 1 := by omega
        refine V_reg T.mix (by kernel_rfl) ?_
        refine S_mv rfl ?_
        first | refine S_add rfl rfl (by omega) (by omega) ?_ | refine S_bin rfl rfl rfl ?_
        refine S_as rfl ?_
        refine S_nilk [0, 1, 2, 7, 8, 9] (by simp only [proj, lk, reduceIte, Nat.reduceEqDiff]; rfl) ?_
        refine hK12 _ _ ?_; clear hK12
        refine V_reg T.mix (by kernel_rfl) ?_
        refine S_mv rfl ?_
        first | refine S_add rfl rfl (by omega) (by omega) ?_ | refine S_bin rfl rfl rfl ?_
        refine S_as rfl ?_
        refine S_nilk [0, 1, 2, 7, 8, 9] (by simp only [proj, lk, reduceIte, Nat.reduceEqDiff]; rfl) ?_
        rw [show ((lidF s level ((toks s level).take k) 0 : Nat) : Int) + (roomF s p : Nat) = (lidF s level ((toks s level).take (k + 1)) 0 : Nat) by rw [hlk, costF, if_neg (by rw [hp2]; omega)]; omega]
        exact hK9 _ _ ⟨_, by omega, k + 1, p + 1, by omega, by rw [ha0] at hp3; exact hp3, by rw [end_take (by omega), hend, hp2, goF, if_pos (by omega)], rfl, rfl, rfl⟩
      · skip
        refine V_seq (fun K16 hK16 => ?_)
        refine V_sr T.mix (by kernel_rfl) (fun K17 hK17 => ?_)
        refine S_cut (K' := fun l h' => ∃ b : Bool, (b = true ↔ (level = 2 ∧ (tokF s level p).len < 10)) ∧ l = [(0, .slice (some ⟨nb, 0, none⟩) (toks s level).length (toks s level).length), (1, .int .i64 level), (2, .string s), (7, .int .i64 ((lidF s level ((toks s level).take k) 0 : Nat) + (roomF s p : Nat))), (8, .int .i64 p), (9, .int .i64 k), (43, .bool b)] ∧ h = h') ?_ ?_
        · skip
          refine S_mv rfl ?_
          refine S_bin rfl rfl rfl ?_
          refine S_mv rfl ?_
          refine S_dec (fun g217 => ?_) (fun g217 => ?_)
          · skip
            refine S_gt rfl ?_
            refine S_mv rfl ?_
            refine S_gt rfl ?_
            refine S_mv rfl ?_
            refine S_gt rfl ?_
            first | refine S_ixmn T.el32 rfl rfl (by omega) ?_ | refine S_ixm T.el32 rfl rfl (by omega) (by omega) ?_ | refine S_ix T.el32 rfl rfl (by omega) (by omega) ?_
            refine S_gt rfl ?_
            first | refine S_fa0 T.f61_0 rfl ?_ | refine S_fa T.f61_0 rfl ?_
            refine S_gt rfl ?_
            refine S_ldK T.ag3 rfl (fun K' hK' => ?_)
            simp (disch := omega) only [hB.cellA, hf.1, Nat.add_zero, oP_some, Nat.add_zero]
            refine hK' _ ?_; clear hK' K'
            refine S_gt rfl ?_
            refine S_bin rfl rfl rfl ?_
            refine S_pt rfl rfl ?_
            exact S_nilk [0, 1, 2, 7, 8, 9, 43] (by simp only [proj, lk, reduceIte, Nat.reduceEqDiff]; rfl) ⟨_, (by first | (simp [*]; done) | (simp; omega)), rfl, rfl⟩
          · skip
            refine S_gf rfl ?_
            refine S_gf rfl ?_
            refine S_gf rfl ?_
            refine S_gf rfl ?_
            refine S_gf rfl ?_
            refine S_gf rfl ?_
            refine S_pf rfl rfl ?_
            exact S_nilk [0, 1, 2, 7, 8, 9, 43] (by simp only [proj, lk, reduceIte, Nat.reduceEqDiff]; rfl) ⟨_, (by first | (simp [*]; done) | (simp; omega)), rfl, rfl⟩
        rintro l h' ⟨b, hb217, rfl, rfl⟩
        refine hK17 _ _ ?_; clear hK17
        refine V_condb rfl (fun c217 => ?_) (fun c217 => ?_)
        · replace c217 := hb217.1 c217
          refine V_sr T.mix (by kernel_rfl) (fun K19 hK19 => ?_)
          refine S_mv rfl ?_
          refine S_mv rfl ?_
          first | refine S_add rfl rfl (by omega) (by omega) ?_ | refine S_bin rfl rfl rfl ?_
          refine S_call T.hb31 rfl ?_
          refine FC.mono (room_spec s _ h (by omega) (by omega) hs) ?_
          rintro v h' ⟨rfl, rfl⟩
          simp only [show ((p : Int) + 1).toNat = p + 1 by omega]
          refine S_as rfl ?_
          refine S_nil (hK19 _ _ (V_keep [0, 1, 2, 7, 8, 9, 11] (by simp only [proj, lk, reduceIte, Nat.reduceEqDiff]; rfl) ?_)); clear hK19
          refine V_reg T.mix (by kernel_rfl) ?_
          refine S_mv rfl ?_
          refine S_mv rfl ?_
          first | refine S_add rfl rfl (by omega) (by omega) ?_ | refine S_bin rfl rfl rfl ?_
          refine S_as rfl ?_
          refine S_nilk [0, 1, 2, 7, 8, 9] (by simp only [proj, lk, reduceIte, Nat.reduceEqDiff]; rfl) ?_
          refine hK16 _ _ ?_; clear hK16
          refine V_reg T.mix (by kernel_rfl) ?_
          refine S_mv rfl ?_
          refine S_mv rfl ?_
          refine S_mv rfl ?_
          first | refine S_ixmn T.el32 rfl rfl (by omega) ?_ | refine S_ixm T.el32 rfl rfl (by omega) (by omega) ?_ | refine S_ix T.el32 rfl rfl (by omega) (by omega) ?_
          first | refine S_fa0 T.f61_0 rfl ?_ | refine S_fa T.f61_0 rfl ?_
          refine S_ldK T.ag3 rfl (fun K' hK' => ?_)
          simp (disch := omega) only [hB.cellA, hf.1, Nat.add_zero, oP_some, Nat.add_zero]
          refine hK' _ ?_; clear hK' K'
          first | refine S_add rfl rfl (by omega) (by omega) ?_ | refine S_bin rfl rfl rfl ?_
          refine S_as rfl ?_
          refine S_nilk [0, 1, 2, 7, 8, 9] (by simp only [proj, lk, reduceIte, Nat.reduceEqDiff]; rfl) ?_
          refine hK12 _ _ ?_; clear hK12
          refine V_reg T.mix (by kernel_rfl) ?_
          refine S_mv rfl ?_
          first | refine S_add rfl rfl (by omega) (by omega) ?_ | refine S_bin rfl rfl rfl ?_
          refine S_as rfl ?_
          refine S_nilk [0, 1, 2, 7, 8, 9] (by simp only [proj, lk, reduceIte, Nat.reduceEqDiff]; rfl) ?_
          rw [show ((lidF s level ((toks s level).take k) 0 : Nat) : Int) + (roomF s p : Nat) + (roomF s (p + 1) : Nat) = (lidF s level ((toks s level).take (k + 1)) 0 : Nat) by rw [hlk, costF, if_pos (by rw [hp2]; exact ⟨by omega, by omega, by omega⟩)]; omega, show (p : Int) + (tokF s level p).len = ((p + advF s level p : Nat) : Int) by omega]
          exact hK9 _ _ ⟨_, by omega, k + 1, p + advF s level p, by omega, hp3, by rw [end_take (by omega), hend, hp2, go_tok], rfl, rfl, rfl⟩
        · replace c217 : ¬ _ := fun hp => Bool.false_ne_true (c217.symm.trans (hb217.2 hp))
          refine V_skipk [0, 1, 2, 7, 8, 9] (by simp only [proj, lk, reduceIte, Nat.reduceEqDiff]; rfl) ?_
          refine hK16 _ _ ?_; clear hK16
          refine V_reg T.mix (by kernel_rfl) ?_
          refine S_mv rfl ?_
          refine S_mv rfl ?_
          refine S_mv rfl ?_
          first | refine S_ixmn T.el32 rfl rfl (by omega) ?_ | refine S_ixm T.el32 rfl rfl (by omega) (by omega) ?_ | refine S_ix T.el32 rfl rfl (by omega) (by omega) ?_
          first | refine S_fa0 T.f61_0 rfl ?_ | refine S_fa T.f61_0 rfl ?_
          refine S_ldK T.ag3 rfl (fun K' hK' => ?_)
          simp (disch := omega) only [hB.cellA, hf.1, Nat.add_zero, oP_some, Nat.add_zero]
          refine hK' _ ?_; clear hK' K'
          first | refine S_add rfl rfl (by omega) (by omega) ?_ | refine S_bin rfl rfl rfl ?_
          refine S_as rfl ?_
          refine S_nilk [0, 1, 2, 7, 8, 9] (by simp only [proj, lk, reduceIte, Nat.reduceEqDiff]; rfl) ?_
          refine hK12 _ _ ?_; clear hK12
          refine V_reg T.mix (by kernel_rfl) ?_
          refine S_mv rfl ?_
          first | refine S_add rfl rfl (by omega) (by omega) ?_ | refine S_bin rfl rfl rfl ?_
          refine S_as rfl ?_
          refine S_nilk [0, 1, 2, 7, 8, 9] (by simp only [proj, lk, reduceIte, Nat.reduceEqDiff]; rfl) ?_
          rw [show ((lidF s level ((toks s level).take k) 0 : Nat) : Int) + (roomF s p : Nat) = (lidF s level ((toks s level).take (k + 1)) 0 : Nat) by rw [hlk, costF, if_neg (by rw [hp2]; omega)]; omega, show (p : Int) + (tokF s level p).len = ((p + advF s level p : Nat) : Int) by omega]
          exact hK9 _ _ ⟨_, by omega, k + 1, p + advF s level p, by omega, hp3, by rw [end_take (by omega), hend, hp2, go_tok], rfl, rfl, rfl⟩
    · skip
      refine V_exitk [7] rfl (by simp only [proj, lk, reduceIte, Nat.reduceEqDiff]; rfl) ?_
      refine hK7 _ _ ?_; clear hK7
      refine V_sr T.mix (by kernel_rfl) (fun K20 hK20 => ?_)
      refine S_mv rfl ?_
      refine S_as rfl ?_
      refine S_nil (hK20 _ _ (V_keep [6] (by simp only [proj, lk, reduceIte, Nat.reduceEqDiff]; rfl) ?_)); clear hK20
      refine V_ret ?_
      refine hR _ _ (ret1 rfl rfl ?_)
      have hkk : k = (toks s level).length := by omega
      rw [hkk, List.take_length]
      exact ⟨by unfold lid0; rw [if_neg (by omega)], rfl⟩
set_option maxHeartbeats 400000 in
theorem keeps_spec (s : ByteArray) (level : Int) (nb : Nat) (h : Heap) (hs : s.size ≤ 256) (hB : TokB h nb (toks s level)) :
    FC Try.prog 24 (#[.string s, .int .i64 level, .slice (some ⟨nb, 0, none⟩) (toks s level).length (toks s level).length] : Array Value) h fun v h' => v = .bool true ∧ Ext (fun _ => False) h h' := by
  have htl := toks_len s level
  refine FC_of [(0, .string s), (1, .int .i64 level), (2, .slice (some ⟨nb, 0, none⟩) (toks s level).length (toks s level).length)] Try.func24 rfl Try.ntmps24 (by simp) rfl (fun R hR => ?_)
  refine V_sr T.mix (by kernel_rfl) (fun K1 hK1 => ?_)
  refine S_as rfl ?_
  refine S_nil (hK1 _ _ (V_keep [0, 1, 2] (by simp only [proj, lk, reduceIte, Nat.reduceEqDiff]; rfl) ?_)); clear hK1
  refine V_sr T.mix (by kernel_rfl) (fun K2 hK2 => ?_)
  refine S_mv rfl ?_
  refine S_call T.hb32 rfl ?_
  refine FC.mono (expand_spec s level nb h hs hB) ?_
  rintro v h1 ⟨rfl, hE1⟩
  refine S_mv rfl ?_
  refine S_ex rfl rfl ?_
  refine S_ex rfl rfl ?_
  refine S_as rfl ?_
  refine S_as rfl ?_
  refine S_nil (hK2 _ _ (V_keep [0, 1, 2, 7, 8] (by simp only [proj, lk, reduceIte, Nat.reduceEqDiff]; rfl) ?_)); clear hK2
  refine V_seq (fun K3 hK3 => ?_)
  refine V_sr T.mix (by kernel_rfl) (fun K4 hK4 => ?_)
  refine S_mv rfl ?_
  refine S_bin rfl rfl rfl ?_
  refine S_mv rfl ?_
  refine S_dec (fun g147 => ?_) (fun g147 => ?_)
  · skip
    exfalso; exact g147 rfl
  · skip
    refine S_gt rfl ?_
    refine S_mv rfl ?_
    refine S_gt rfl ?_
    refine S_mv rfl ?_
    refine S_gt rfl ?_
    refine S_bin rfl rfl rfl ?_
    refine S_pf rfl rfl ?_
    refine S_nil (hK4 _ _ (V_keep [0, 1, 2, 21] (by simp only [proj, lk, reduceIte, Nat.reduceEqDiff]; rfl) ?_)); clear hK4
    refine V_condp rfl (fun c147 => ?_) (fun c147 => ?_)
    · skip
      exfalso; exact c147 rfl
    · skip
      refine V_skipk [0, 1, 2] (by simp only [proj, lk, reduceIte, Nat.reduceEqDiff]; rfl) ?_
      refine hK3 _ _ ?_; clear hK3
      refine V_seq (fun K5 hK5 => ?_)
      refine V_sr T.mix (by kernel_rfl) (fun K6 hK6 => ?_)
      refine S_mv rfl ?_
      refine S_bin rfl rfl rfl ?_
      refine S_nil (hK6 _ _ (V_keep [0, 2, 23] (by simp only [proj, lk, reduceIte, Nat.reduceEqDiff]; rfl) ?_)); clear hK6
      refine V_condp rfl (fun c150 => ?_) (fun c150 => ?_)
      · skip
        refine V_sr T.mix (by kernel_rfl) (fun K7 hK7 => ?_)
        refine S_as rfl ?_
        refine S_nil (hK7 _ _ (V_keep [6] (by simp only [proj, lk, reduceIte, Nat.reduceEqDiff]; rfl) ?_)); clear hK7
        refine V_ret ?_
        refine hR _ _ (ret1 rfl rfl ?_)
        exact ⟨rfl, hE1⟩
      · skip
        refine V_skipk [0, 2] (by simp only [proj, lk, reduceIte, Nat.reduceEqDiff]; rfl) ?_
        refine hK5 _ _ ?_; clear hK5
        refine V_sr T.mix (by kernel_rfl) (fun K8 hK8 => ?_)
        refine S_mv rfl ?_
        refine S_call T.hb33 rfl ?_
        refine FC.mono (one_spec s h1 hs) ?_
        rintro v h' ⟨⟨b, rfl, hb⟩, rfl⟩
        refine S_as rfl ?_
        refine S_nil (hK8 _ _ (V_keep [0, 2, 9] (by simp only [proj, lk, reduceIte, Nat.reduceEqDiff]; rfl) ?_)); clear hK8
        refine V_seq (fun K9 hK9 => ?_)
        refine V_sr T.mix (by kernel_rfl) (fun K10 hK10 => ?_)
        refine S_mv rfl ?_
        refine S_mv rfl ?_
        refine S_decb (fun g154 => ?_) (fun g154 => ?_)
        · skip
          have hob := one_bound (hb g154) (level := level) (by omega)
          refine S_gt rfl ?_
          refine S_mv rfl ?_
          refine S_gt rfl ?_
          refine S_lenl T.el32 rfl ?_
          refine S_gt rfl ?_
          refine S_mv rfl ?_
          refine S_gt rfl ?_
          refine S_lens T.kd9 rfl ?_
          refine S_gt rfl ?_
          refine S_quo rfl rfl (by omega) (by omega) (by omega) ?_
          refine S_gt rfl ?_
          first | refine S_add rfl rfl (by omega) (by omega) ?_ | refine S_bin rfl rfl rfl ?_
          refine S_gt rfl ?_
          refine S_bin rfl rfl rfl ?_
          refine S_pt rfl rfl ?_
          refine S_nil (hK10 _ _ (V_keep [35] (by simp only [proj, lk, reduceIte, Nat.reduceEqDiff]; rfl) ?_)); clear hK10
          refine V_condp rfl (fun c154 => ?_) (fun c154 => ?_)
          · skip
            exfalso; omega
          · skip
            refine V_skipk [] (by simp only [proj, lk, reduceIte, Nat.reduceEqDiff]; rfl) ?_
            refine hK9 _ _ ?_; clear hK9
            refine V_sr T.mix (by kernel_rfl) (fun K11 hK11 => ?_)
            refine S_as rfl ?_
            refine S_nil (hK11 _ _ (V_keep [6] (by simp only [proj, lk, reduceIte, Nat.reduceEqDiff]; rfl) ?_)); clear hK11
            refine V_ret ?_
            refine hR _ _ (ret1 rfl rfl ?_)
            exact ⟨rfl, hE1⟩
        · skip
          refine S_gf rfl ?_
          refine S_gf rfl ?_
          refine S_gf rfl ?_
          refine S_gf rfl ?_
          refine S_gf rfl ?_
          refine S_gf rfl ?_
          refine S_gf rfl ?_
          refine S_pf rfl rfl ?_
          refine S_nil (hK10 _ _ (V_keep [35] (by simp only [proj, lk, reduceIte, Nat.reduceEqDiff]; rfl) ?_)); clear hK10
          refine V_condf rfl ?_
          refine V_skipk [] (by simp only [proj, lk, reduceIte, Nat.reduceEqDiff]; rfl) ?_
          refine hK9 _ _ ?_; clear hK9
          refine V_sr T.mix (by kernel_rfl) (fun K12 hK12 => ?_)
          refine S_as rfl ?_
          refine S_nil (hK12 _ _ (V_keep [6] (by simp only [proj, lk, reduceIte, Nat.reduceEqDiff]; rfl) ?_)); clear hK12
          refine V_ret ?_
          refine hR _ _ (ret1 rfl rfl ?_)
          exact ⟨rfl, hE1⟩
set_option maxHeartbeats 400000 in
theorem gauge_spec (A : MA) (st : MS) (h : Heap) (hM : Mat h A st) (D : Nat) (no : Nat → Prop) (t : DS) (hD : Dk h D no t) (hpr : st.pr ≤ t.lid) :
    FC Try.prog 14 (#[.pointer (some ⟨A.m, 0, none⟩), .pointer (some ⟨D, 0, none⟩)] : Array Value) h fun v h' => v = .bool true ∧ h = h' := by
  refine FC_of [(0, .pointer (some ⟨A.m, 0, none⟩)), (1, .pointer (some ⟨D, 0, none⟩))] Try.func14 rfl Try.ntmps14 (by simp) rfl (fun R hR => ?_)
  refine V_sr T.mix (by kernel_rfl) (fun K1 hK1 => ?_)
  refine S_as rfl ?_
  refine S_nil (hK1 _ _ (V_keep [0, 1] (by simp only [proj, lk, reduceIte, Nat.reduceEqDiff]; rfl) ?_)); clear hK1
  refine V_sr T.mix (by kernel_rfl) (fun K2 hK2 => ?_)
  refine S_mv rfl ?_
  refine S_call T.hb18 rfl ?_
  refine FC.mono (probes_spec A st h hM) ?_
  rintro v h' ⟨rfl, rfl⟩
  refine S_as rfl ?_
  refine S_nil (hK2 _ _ (V_keep [1, 5] (by simp only [proj, lk, reduceIte, Nat.reduceEqDiff]; rfl) ?_)); clear hK2
  refine V_sr T.mix (by kernel_rfl) (fun K3 hK3 => ?_)
  refine S_mv rfl ?_
  refine S_bin rfl rfl rfl ?_
  refine S_mv rfl ?_
  refine S_dec (fun g230 => ?_) (fun g230 => ?_)
  · skip
    refine S_gt rfl ?_
    refine S_mv rfl ?_
    refine S_gt rfl ?_
    refine S_mv rfl ?_
    refine S_gt rfl ?_
    refine S_nc rfl ?_
    refine S_gt rfl ?_
    first | refine S_fa0 T.f35_1 rfl ?_ | refine S_fa T.f35_1 rfl ?_
    refine S_gt rfl ?_
    refine S_ldK T.ag3 rfl (fun K' hK' => ?_)
    simp (disch := omega) only [hD.c0, hD.c1, hD.c2, hD.c3, hD.co, hD.c8, hD.c9, hD.c10, hD.c11, hD.c12, oP_some, Nat.add_zero]
    refine hK' _ ?_; clear hK' K'
    refine S_gt rfl ?_
    refine S_bin rfl rfl rfl ?_
    refine S_pt rfl rfl ?_
    refine S_as rfl ?_
    refine S_nil (hK3 _ _ (V_keep [4] (by simp only [proj, lk, reduceIte, Nat.reduceEqDiff]; rfl) ?_)); clear hK3
    refine V_ret ?_
    refine hR _ _ (ret1 rfl rfl ?_)
    exact ⟨by rw [decide_eq_true (by omega)], rfl⟩
  · skip
    refine S_gf rfl ?_
    refine S_gf rfl ?_
    refine S_gf rfl ?_
    refine S_gf rfl ?_
    refine S_gf rfl ?_
    refine S_gf rfl ?_
    refine S_pf rfl rfl ?_
    refine S_as rfl ?_
    refine S_nil (hK3 _ _ (V_keep [4] (by simp only [proj, lk, reduceIte, Nat.reduceEqDiff]; rfl) ?_)); clear hK3
    refine V_ret ?_
    refine hR _ _ (ret1 rfl rfl ?_)
    exfalso; omega
set_option maxHeartbeats 400000 in
theorem alike_spec (A : MA) (st : MS) (h : Heap) (hM : Mat h A st) (D : Nat) (no : Nat → Prop) (t : DS) (hD : Dk h D no t) (hpr : st.pr ≤ t.lid) (hri : RI st) (hn : st.n ≤ 256) :
    FC Try.prog 10 (#[.pointer (some ⟨A.m, 0, none⟩), .pointer (some ⟨D, 0, none⟩)] : Array Value) h fun v h' => v = .bool true ∧ h = h' := by
  refine FC_of [(0, .pointer (some ⟨A.m, 0, none⟩)), (1, .pointer (some ⟨D, 0, none⟩))] Try.func10 rfl Try.ntmps10 (by simp) rfl (fun R hR => ?_)
  refine V_sr T.mix (by kernel_rfl) (fun K1 hK1 => ?_)
  refine S_as rfl ?_
  refine S_nil (hK1 _ _ (V_keep [0, 1] (by simp only [proj, lk, reduceIte, Nat.reduceEqDiff]; rfl) ?_)); clear hK1
  refine V_sr T.mix (by kernel_rfl) (fun K2 hK2 => ?_)
  refine S_mv rfl ?_
  refine S_call T.hb13 rfl ?_
  refine FC.mono (check_spec A st h hM hri hn) ?_
  rintro v h' ⟨rfl, rfl⟩
  refine S_as rfl ?_
  refine S_nil (hK2 _ _ (V_keep [0, 1, 5] (by simp only [proj, lk, reduceIte, Nat.reduceEqDiff]; rfl) ?_)); clear hK2
  refine V_seq (fun K3 hK3 => ?_)
  refine V_sr T.mix (by kernel_rfl) (fun K4 hK4 => ?_)
  refine S_mv rfl ?_
  refine S_notb rfl ?_
  refine S_nil (hK4 _ _ (V_keep [0, 1, 9] (by simp only [proj, lk, reduceIte, Nat.reduceEqDiff]; rfl) ?_)); clear hK4
  refine V_condb rfl (fun c236 => ?_) (fun c236 => ?_)
  · skip
    cases c236
  · skip
    refine V_skipk [0, 1] (by simp only [proj, lk, reduceIte, Nat.reduceEqDiff]; rfl) ?_
    refine hK3 _ _ ?_; clear hK3
    refine V_sr T.mix (by kernel_rfl) (fun K5 hK5 => ?_)
    refine S_mv rfl ?_
    refine S_mv rfl ?_
    refine S_call T.hb14 rfl ?_
    refine FC.mono (gauge_spec A st h hM D no t hD hpr) ?_
    rintro v h' ⟨rfl, rfl⟩
    refine S_as rfl ?_
    refine S_nil (hK5 _ _ (V_keep [4] (by simp only [proj, lk, reduceIte, Nat.reduceEqDiff]; rfl) ?_)); clear hK5
    refine V_ret ?_
    refine hR _ _ (ret1 rfl rfl ?_)
    exact ⟨rfl, rfl⟩
end Go.Proofs.Qxb6500408a
