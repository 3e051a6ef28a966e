import Derived.Test.Qxb6500406aGreatPd
set_option linter.unusedVariables false
set_option linter.unusedSimpArgs false
namespace Go.Proofs.Qxb6500406aGreat
open Go.Eng Go.Bits Go.Blk HufW

theorem wrap_lt (x : Int) : IntKind.i64.wrap x < 9223372036854775808 := by
  simp only [IntKind.wrap, IntKind.signed, IntKind.bits]
  simp
  split <;> omega
set_option maxHeartbeats 400000 in
theorem lengthen_spec (r s : ByteArray) (h : Heap) (hr : r.size ≤ 9223372036854775807) :
    FC Tryz.prog 18 (#[.string r, .string s, .int .i64 256] : Array Value) h fun v h' => (∃ u, v = .string u ∧ u.size ≤ max r.size 257) ∧ h = h' := by
  refine FC_of [(0, .string r), (1, .string s), (2, .int .i64 256)] Tryz.func18 rfl Tryz.ntmps18 (by simp) rfl (fun R hR => ?_)
  refine V_sr T.mix (by kernel_rfl) (fun K1 hK1 => ?_)
  refine S_as rfl ?_
  refine S_nil (hK1 _ _ (V_keep [0, 1, 2] (by simp only [proj, lk, reduceIte, Nat.reduceEqDiff]; rfl) ?_)); clear hK1
  refine V_sr T.mix (by kernel_rfl) (fun K2 hK2 => ?_)
  refine S_mv rfl ?_
  first | refine S_add rfl rfl (by omega) (by omega) ?_ | refine S_bin rfl rfl rfl ?_
  refine S_mv rfl ?_
  refine S_lens T.kd9 rfl ?_
  first | refine S_sub rfl rfl (by omega) (by omega) ?_ | refine S_bin rfl rfl rfl ?_
  refine S_as rfl ?_
  refine S_nil (hK2 _ _ (V_keep [0, 1, 7] (by simp only [proj, lk, reduceIte, Nat.reduceEqDiff]; rfl) ?_)); clear hK2
  refine V_seq (fun K3 hK3 => ?_)
  refine V_sr T.mix (by kernel_rfl) (fun K4 hK4 => ?_)
  refine S_mv rfl ?_
  refine S_bin rfl rfl rfl ?_
  refine S_nil (hK4 _ _ (V_keep [0, 1, 7, 14] (by simp only [proj, lk, reduceIte, Nat.reduceEqDiff]; rfl) ?_)); clear hK4
  refine V_condp rfl (fun c51 => ?_) (fun c51 => ?_)
  · skip
    refine V_sr T.mix (by kernel_rfl) (fun K5 hK5 => ?_)
    refine S_mv rfl ?_
    refine S_as rfl ?_
    refine S_nil (hK5 _ _ (V_keep [6] (by simp only [proj, lk, reduceIte, Nat.reduceEqDiff]; rfl) ?_)); clear hK5
    refine V_ret ?_
    refine hR _ _ (ret1 rfl rfl ?_)
    exact ⟨⟨_, rfl, by omega⟩, rfl⟩
  · skip
    refine V_skipk [0, 1, 7] (by simp only [proj, lk, reduceIte, Nat.reduceEqDiff]; rfl) ?_
    refine hK3 _ _ ?_; clear hK3
    refine V_seq (fun K6 hK6 => ?_)
    refine V_sr T.mix (by kernel_rfl) (fun K7 hK7 => ?_)
    refine S_mv rfl ?_
    refine S_lens T.kd9 rfl ?_
    refine S_mv rfl ?_
    refine S_bin rfl rfl rfl ?_
    refine S_nil (hK7 _ _ (V_keep [0, 1, 7, 19] (by simp only [proj, lk, reduceIte, Nat.reduceEqDiff]; rfl) ?_)); clear hK7
    refine V_condp rfl (fun c54 => ?_) (fun c54 => ?_)
    · skip
      refine V_reg T.mix (by kernel_rfl) ?_
      refine S_mv rfl ?_
      refine S_mv rfl ?_
      refine S_sl rfl rfl rfl (sliceV_strhi T.kd9 (by omega) (by omega)) ?_
      have hsz : (s.extract 0 (256 + 1 - (r.size : Int)).toNat).size ≤ 257 - r.size := by rw [ByteArray.size_extract]; omega
      refine S_as rfl ?_
      refine S_nilk [0, 1] (by simp only [proj, lk, reduceIte, Nat.reduceEqDiff]; rfl) ?_
      refine hK6 _ _ ?_; clear hK6
      refine V_sr T.mix (by kernel_rfl) (fun K8 hK8 => ?_)
      refine S_mv rfl ?_
      refine S_mv rfl ?_
      refine S_bin rfl rfl (strV_add (by omega)) ?_
      refine S_as rfl ?_
      refine S_nil (hK8 _ _ (V_keep [6] (by simp only [proj, lk, reduceIte, Nat.reduceEqDiff]; rfl) ?_)); clear hK8
      refine V_ret ?_
      refine hR _ _ (ret1 rfl rfl ?_)
      exact ⟨⟨_, rfl, by rw [ByteArray.size_append]; omega⟩, rfl⟩
    · skip
      refine V_skipk [0, 1] (by simp only [proj, lk, reduceIte, Nat.reduceEqDiff]; rfl) ?_
      refine hK6 _ _ ?_; clear hK6
      refine V_sr T.mix (by kernel_rfl) (fun K9 hK9 => ?_)
      refine S_mv rfl ?_
      refine S_mv rfl ?_
      refine S_bin rfl rfl (strV_add (by omega)) ?_
      refine S_as rfl ?_
      refine S_nil (hK9 _ _ (V_keep [6] (by simp only [proj, lk, reduceIte, Nat.reduceEqDiff]; rfl) ?_)); clear hK9
      refine V_ret ?_
      refine hR _ _ (ret1 rfl rfl ?_)
      exact ⟨⟨_, rfl, by rw [ByteArray.size_append]; omega⟩, rfl⟩
set_option maxHeartbeats 400000 in
theorem piece_spec (h : Heap) (c : Int) :
    FC Tryz.prog 22 (#[.int .u8 c] : Array Value) h fun v h' => (∃ pc, v = .string pc ∧ pc.size = 16) ∧ Ext (fun _ => False) h h' := by
  refine FC_of [(0, .int .u8 c)] Tryz.func22 rfl Tryz.ntmps22 (by simp) rfl (fun R hR => ?_)
  refine V_sr T.mix (by kernel_rfl) (fun K1 hK1 => ?_)
  refine S_as rfl ?_
  refine S_nil (hK1 _ _ (V_keep [0] (by simp only [proj, lk, reduceIte, Nat.reduceEqDiff]; rfl) ?_)); clear hK1
  refine V_sr T.mix (by kernel_rfl) (fun K2 hK2 => ?_)
  refine S_mk T.ei59 rfl rfl (by omega) (by omega) (by omega) (by omega) ?_
  simp only [show Int.toNat 16 = 16 from rfl, Nat.mul_one, mkZ_one]
  generalize hh : Array.push h _ = h1
  have hB1 : B h1 h.size (arr 16 fun j => .int .u8 (if j < 0 then c else 0)) 5 := by rw [← hh]; exact (B.new h _ 5).cong (arr_ext fun j _ => by simp)
  have hE1 : Ext (fun _ => False) h h1 := by rw [← hh]; exact Ext.push _ _ _
  clear hh
  refine S_as rfl ?_
  refine S_nil (hK2 _ _ (V_keep [0, 3] (by simp only [proj, lk, reduceIte, Nat.reduceEqDiff]; rfl) ?_)); clear hK2
  refine V_seq (fun K3 hK3 => ?_)
  refine V_sr T.mix (by kernel_rfl) (fun K4 hK4 => ?_)
  refine S_as rfl ?_
  refine S_nil (hK4 _ _ (V_keep [0, 3, 4] (by simp only [proj, lk, reduceIte, Nat.reduceEqDiff]; rfl) ?_)); clear hK4
  refine V_block ?_
  refine V_loop (fun m l h' => ∃ (k : Nat) (hk : Heap), (k ≤ 16) ∧ (B hk h.size (arr 16 fun j => .int .u8 (if j < k then c else 0)) 5) ∧ (Ext (fun _ => False) h hk) ∧ m = 16 - k ∧ l = [(0, .int .u8 c), (3, .slice (some ⟨h.size, 0, none⟩) 16 16), (4, .int .i64 k)] ∧ hk = h') _ ⟨0, h1, by omega, hB1, hE1, rfl, rfl, rfl⟩ ?_
  rintro m l h' ⟨k, hk, hk16, hBk, hEk, rfl, rfl, rfl⟩ K5 hK5
  refine V_seq (fun K6 hK6 => ?_)
  refine V_sr T.mix (by kernel_rfl) (fun K7 hK7 => ?_)
  refine S_mv rfl ?_
  refine S_bin rfl rfl rfl ?_
  refine S_nil (hK7 _ _ (V_keep [0, 3, 4, 7] (by simp only [proj, lk, reduceIte, Nat.reduceEqDiff]; rfl) ?_)); clear hK7
  refine V_condp rfl (fun c39 => ?_) (fun c39 => ?_)
  · skip
    refine V_skipk [0, 3, 4] (by simp only [proj, lk, reduceIte, Nat.reduceEqDiff]; rfl) ?_
    refine hK6 _ _ ?_; clear hK6
    refine V_seq (fun K8 hK8 => ?_)
    refine V_block ?_
    refine V_reg T.mix (by kernel_rfl) ?_
    refine S_mv rfl ?_
    refine S_mv rfl ?_
    refine S_mv rfl ?_
    first | refine S_ixn T.el59 rfl rfl (by omega) ?_ | refine S_ix1 T.el59 rfl rfl (by omega) (by omega) ?_ | refine S_ix T.el59 rfl rfl (by omega) (by omega) ?_
    refine S_st T.sz5 rfl rfl rfl rfl (by simp (disch := omega) only [hBk.okA]) ?_
    generalize hh : putH _ _ _ = h2
    have hB2 : B h2 h.size (arr 16 fun j => .int .u8 (if j < k + 1 then c else 0)) 5 := by rw [← hh]; exact (hBk.putA k _).cong (arr_ext fun j _ => by
      by_cases e : j = k
      · rw [if_pos e, if_pos (by omega)]
      · rw [if_neg e]; congr 1; by_cases e2 : j < k
        · rw [if_pos e2, if_pos (by omega)]
        · rw [if_neg e2, if_neg (by omega)])
    have hE2 : Ext (fun _ => False) h h2 := by rw [← hh]; exact hEk.putn (Nat.le_refl _)
    clear hh
    refine S_nilk [0, 3, 4] (by simp only [proj, lk, reduceIte, Nat.reduceEqDiff]; rfl) ?_
    refine hK8 _ _ ?_; clear hK8
    refine V_reg T.mix (by kernel_rfl) ?_
    refine S_mv rfl ?_
    first | refine S_add rfl rfl (by omega) (by omega) ?_ | refine S_bin rfl rfl rfl ?_
    refine S_as rfl ?_
    refine S_nilk [0, 3, 4] (by simp only [proj, lk, reduceIte, Nat.reduceEqDiff]; rfl) ?_
    exact hK5 _ _ ⟨_, by omega, k + 1, h2, by omega, hB2, hE2, rfl, rfl, rfl⟩
  · skip
    refine V_exitk [3] rfl (by simp only [proj, lk, reduceIte, Nat.reduceEqDiff]; rfl) ?_
    refine hK3 _ _ ?_; clear hK3
    refine V_sr T.mix (by kernel_rfl) (fun K9 hK9 => ?_)
    refine S_mv rfl ?_
    refine S_str T.kd59 T.kd9 T.in9 rfl (srcV_u8 hBk) ?_
    generalize hpc : mkS _ = pc
    have hps : pc.size = 16 := by rw [← hpc, mkS_size]; simp
    clear hpc
    refine S_as rfl ?_
    refine S_nil (hK9 _ _ (V_keep [2] (by simp only [proj, lk, reduceIte, Nat.reduceEqDiff]; rfl) ?_)); clear hK9
    refine V_ret ?_
    refine hR _ _ (ret1 rfl rfl ?_)
    exact ⟨⟨pc, rfl, hps⟩, hEk⟩
set_option maxHeartbeats 400000 in
theorem grow_spec (r : ByteArray) (a n : Int) (h : Heap) (hr : r.size ≤ 9223372036854775807) :
    FC Tryz.prog 19 (#[.string r, .int .i64 a, .int .i64 n] : Array Value) h fun v h' => (∃ u, v = .string u ∧ u.size ≤ max r.size 257) ∧ Ext (fun _ => False) h h' := by
  refine FC_of [(0, .string r), (1, .int .i64 a), (2, .int .i64 n)] Tryz.func19 rfl Tryz.ntmps19 (by simp) rfl (fun R hR => ?_)
  refine V_sr T.mix (by kernel_rfl) (fun K1 hK1 => ?_)
  refine S_as rfl ?_
  refine S_nil (hK1 _ _ (V_keep [0, 1, 2] (by simp only [proj, lk, reduceIte, Nat.reduceEqDiff]; rfl) ?_)); clear hK1
  refine V_sr T.mix (by kernel_rfl) (fun K2 hK2 => ?_)
  refine S_mv rfl ?_
  refine S_bin rfl rfl rfl ?_
  refine S_cv T.us3 T.in5 rfl ?_
  refine S_call T.hb22 rfl ?_
  refine FC.mono (piece_spec h _) ?_
  rintro v' h1 ⟨⟨pc, rfl, hps⟩, hE1⟩
  refine S_as rfl ?_
  refine S_nil (hK2 _ _ (V_keep [0, 2, 7] (by simp only [proj, lk, reduceIte, Nat.reduceEqDiff]; rfl) ?_)); clear hK2
  refine V_seq (fun K3 hK3 => ?_)
  refine V_block ?_
  refine V_loop (fun m l h' => ∃ (r2 : ByteArray) (lf : Int), (r2.size ≤ max r.size 257) ∧ m = lf.toNat ∧ l = [(0, .string r2), (2, .int .i64 lf), (7, .string pc)] ∧ h1 = h') _ ⟨r, n, by omega, rfl, rfl, rfl⟩ ?_
  rintro m l h' ⟨r2, lf, hr2, rfl, rfl, rfl⟩ K4 hK4
  refine V_seq (fun K5 hK5 => ?_)
  refine V_sr T.mix (by kernel_rfl) (fun K6 hK6 => ?_)
  refine S_cut (K' := fun l h' => ∃ b : Bool, (b = true ↔ (0 < lf ∧ r2.size ≤ 256)) ∧ l = [(0, .string r2), (2, .int .i64 lf), (7, .string pc), (19, .bool b)] ∧ h1 = h') ?_ ?_
  · skip
    refine S_mv rfl ?_
    refine S_bin rfl rfl rfl ?_
    refine S_mv rfl ?_
    refine S_dec (fun g48 => ?_) (fun g48 => ?_)
    · skip
      refine S_gt rfl ?_
      refine S_mv rfl ?_
      refine S_gt rfl ?_
      refine S_lens T.kd9 rfl ?_
      refine S_gt rfl ?_
      refine S_bin rfl rfl rfl ?_
      refine S_pt rfl rfl ?_
      exact S_nilk [0, 2, 7, 19] (by simp only [proj, lk, reduceIte, Nat.reduceEqDiff]; rfl) ⟨_, (by first | (simp only [decide_eq_true_eq]; omega) | (simp only [Bool.false_eq_true, false_iff]; omega) | (simp; omega)), rfl, rfl⟩
    · skip
      refine S_gf rfl ?_
      refine S_gf rfl ?_
      refine S_gf rfl ?_
      refine S_pf rfl rfl ?_
      exact S_nilk [0, 2, 7, 19] (by simp only [proj, lk, reduceIte, Nat.reduceEqDiff]; rfl) ⟨_, (by first | (simp only [decide_eq_true_eq]; omega) | (simp only [Bool.false_eq_true, false_iff]; omega) | (simp; omega)), rfl, rfl⟩
  rintro l h' ⟨b, hb48, rfl, rfl⟩
  refine hK6 _ _ ?_; clear hK6
  refine V_condb rfl (fun c48 => ?_) (fun c48 => ?_)
  · replace c48 := hb48.1 c48
    refine V_skipk [0, 2, 7] (by simp only [proj, lk, reduceIte, Nat.reduceEqDiff]; rfl) ?_
    refine hK5 _ _ ?_; clear hK5
    refine V_block ?_
    refine V_sr T.mix (by kernel_rfl) (fun K8 hK8 => ?_)
    refine S_mv rfl ?_
    refine S_as rfl ?_
    refine S_nil (hK8 _ _ (V_keep [0, 2, 7, 8] (by simp only [proj, lk, reduceIte, Nat.reduceEqDiff]; rfl) ?_)); clear hK8
    refine V_seqJ (fun l h' => ∃ (k : Int), (1 ≤ k ∧ k ≤ 16 ∧ k ≤ lf) ∧ l = [(0, .string r2), (2, .int .i64 lf), (7, .string pc), (8, .int .i64 k)] ∧ h1 = h') ?_ ?_
    · skip
      refine V_sr T.mix (by kernel_rfl) (fun K10 hK10 => ?_)
      refine S_mv rfl ?_
      refine S_bin rfl rfl rfl ?_
      refine S_nil (hK10 _ _ (V_keep [0, 2, 7, 8, 22] (by simp only [proj, lk, reduceIte, Nat.reduceEqDiff]; rfl) ?_)); clear hK10
      refine V_condp rfl (fun c50 => ?_) (fun c50 => ?_)
      · skip
        refine V_reg T.mix (by kernel_rfl) ?_
        refine S_as rfl ?_
        refine S_nilk [0, 2, 7, 8] (by simp only [proj, lk, reduceIte, Nat.reduceEqDiff]; rfl) ?_
        exact ⟨_, by omega, rfl, rfl⟩
      · skip
        refine V_skipk [0, 2, 7, 8] (by simp only [proj, lk, reduceIte, Nat.reduceEqDiff]; rfl) ?_
        exact ⟨_, by omega, rfl, rfl⟩
    rintro l h' ⟨k, hk1, rfl, rfl⟩
    refine V_sr T.mix (by kernel_rfl) (fun K11 hK11 => ?_)
    refine S_mv rfl ?_
    refine S_mv rfl ?_
    refine S_mv rfl ?_
    refine S_sl rfl rfl rfl (sliceV_strhi T.kd9 (by omega) (by omega)) ?_
    refine S_call T.hb18 rfl ?_
    refine FC.mono (lengthen_spec r2 _ h1 (by omega)) ?_
    rintro v' h' ⟨⟨u2, rfl, hu2⟩, rfl⟩
    refine S_as rfl ?_
    refine S_nil (hK11 _ _ (V_keep [0, 2, 7, 8] (by simp only [proj, lk, reduceIte, Nat.reduceEqDiff]; rfl) ?_)); clear hK11
    refine V_reg T.mix (by kernel_rfl) ?_
    refine S_mv rfl ?_
    refine S_mv rfl ?_
    refine S_bin rfl rfl rfl ?_
    have hw1 := wrap_lt (lf - k)
    have hw2 : lf < 9223372036854775808 → IntKind.i64.wrap (lf - k) = lf - k := fun z => wrap_i64 (by omega) (by omega)
    generalize IntKind.i64.wrap (lf - k) = w at *
    refine S_as rfl ?_
    refine S_nilk [0, 2, 7] (by simp only [proj, lk, reduceIte, Nat.reduceEqDiff]; rfl) ?_
    exact hK4 _ _ ⟨_, by omega, u2, _, by omega, rfl, rfl, rfl⟩
  · replace c48 : ¬ _ := fun hp => Bool.false_ne_true (c48.symm.trans (hb48.2 hp))
    refine V_exitk [0] rfl (by simp only [proj, lk, reduceIte, Nat.reduceEqDiff]; rfl) ?_
    refine hK3 _ _ ?_; clear hK3
    refine V_sr T.mix (by kernel_rfl) (fun K12 hK12 => ?_)
    refine S_mv rfl ?_
    refine S_as rfl ?_
    refine S_nil (hK12 _ _ (V_keep [6] (by simp only [proj, lk, reduceIte, Nat.reduceEqDiff]; rfl) ?_)); clear hK12
    refine V_ret ?_
    refine hR _ _ (ret1 rfl rfl ?_)
    exact ⟨⟨r2, rfl, hr2⟩, hE1⟩
set_option maxHeartbeats 400000 in
theorem repeats_spec (h : Heap) (u : ByteArray) (hu : u.size ≤ 256) (p : Nat) (hp : 1 ≤ p) (hp2 : p ≤ 16) :
    FC Tryz.prog 113 (#[.string u, .int .i64 (p : Int)] : Array Value) h fun v h' => ∃ b : Bool, v = .bool b ∧ (b = true → Pd u p) ∧ h = h' := by
  refine FC_of [(0, .string u), (1, .int .i64 (p : Int))] Tryz.func113 rfl Tryz.ntmps113 (by simp) rfl (fun R hR => ?_)
  refine V_sr T.mix (by kernel_rfl) (fun K1 hK1 => ?_)
  refine S_as rfl ?_
  refine S_nil (hK1 _ _ (V_keep [0, 1] (by simp only [proj, lk, reduceIte, Nat.reduceEqDiff]; rfl) ?_)); clear hK1
  refine V_seq (fun K2 hK2 => ?_)
  refine V_sr T.mix (by kernel_rfl) (fun K3 hK3 => ?_)
  refine S_mv rfl ?_
  refine S_as rfl ?_
  refine S_nil (hK3 _ _ (V_keep [0, 1, 5] (by simp only [proj, lk, reduceIte, Nat.reduceEqDiff]; rfl) ?_)); clear hK3
  refine V_block ?_
  refine V_loop (fun m l h' => ∃ (i : Nat), (p ≤ i) ∧ (i ≤ 300) ∧ (∀ j, p ≤ j → j < i → bAt u j = bAt u (j - p)) ∧ m = u.size - i ∧ l = [(0, .string u), (1, .int .i64 (p : Int)), (5, .int .i64 (i : Int))] ∧ h = h') _ ⟨p, Nat.le_refl _, by omega, fun j h1 h2 => by omega, rfl, rfl, rfl⟩ ?_
  rintro m l h' ⟨i, hi, hi2, hall, rfl, rfl, rfl⟩ K4 hK4
  refine V_seq (fun K5 hK5 => ?_)
  refine V_sr T.mix (by kernel_rfl) (fun K6 hK6 => ?_)
  refine S_mv rfl ?_
  refine S_mv rfl ?_
  refine S_lens T.kd9 rfl ?_
  refine S_bin rfl rfl rfl ?_
  refine S_nil (hK6 _ _ (V_keep [0, 1, 5, 10] (by simp only [proj, lk, reduceIte, Nat.reduceEqDiff]; rfl) ?_)); clear hK6
  refine V_condp rfl (fun c61 => ?_) (fun c61 => ?_)
  · skip
    refine V_skipk [0, 1, 5] (by simp only [proj, lk, reduceIte, Nat.reduceEqDiff]; rfl) ?_
    refine hK5 _ _ ?_; clear hK5
    refine V_seq (fun K7 hK7 => ?_)
    refine V_block ?_
    refine V_sr T.mix (by kernel_rfl) (fun K8 hK8 => ?_)
    refine S_mv rfl ?_
    refine S_mv rfl ?_
    refine S_siN i T.kd9 rfl rfl rfl (by omega) ?_
    refine S_mv rfl ?_
    refine S_mv rfl ?_
    refine S_mv rfl ?_
    refine S_subN (i - p) rfl rfl (by omega) (by omega) ?_
    refine S_siN (i - p) T.kd9 rfl rfl rfl (by omega) ?_
    refine S_bin rfl rfl rfl ?_
    refine S_nil (hK8 _ _ (V_keep [0, 1, 5, 21] (by simp only [proj, lk, reduceIte, Nat.reduceEqDiff]; rfl) ?_)); clear hK8
    refine V_condp rfl (fun c62 => ?_) (fun c62 => ?_)
    · skip
      refine V_sr T.mix (by kernel_rfl) (fun K9 hK9 => ?_)
      refine S_as rfl ?_
      refine S_nil (hK9 _ _ (V_keep [4] (by simp only [proj, lk, reduceIte, Nat.reduceEqDiff]; rfl) ?_)); clear hK9
      refine V_ret ?_
      refine hR _ _ (ret1 rfl rfl ?_)
      exact ⟨false, rfl, fun e => (by cases e), rfl⟩
    · skip
      refine V_skipk [0, 1, 5] (by simp only [proj, lk, reduceIte, Nat.reduceEqDiff]; rfl) ?_
      refine hK7 _ _ ?_; clear hK7
      refine V_reg T.mix (by kernel_rfl) ?_
      refine S_mv rfl ?_
      first | refine S_add rfl rfl (by omega) (by omega) ?_ | refine S_bin rfl rfl rfl ?_
      refine S_as rfl ?_
      refine S_nilk [0, 1, 5] (by simp only [proj, lk, reduceIte, Nat.reduceEqDiff]; rfl) ?_
      exact hK4 _ _ ⟨_, by omega, i + 1, by omega, by omega, fun j h1 h2 => by by_cases e : j = i; (rw [e]; have h9 := Classical.not_not.1 c62; omega); (exact hall j h1 (by omega)), rfl, rfl, rfl⟩
  · skip
    refine V_exitk [] rfl (by simp only [proj, lk, reduceIte, Nat.reduceEqDiff]; rfl) ?_
    refine hK2 _ _ ?_; clear hK2
    refine V_sr T.mix (by kernel_rfl) (fun K10 hK10 => ?_)
    refine S_as rfl ?_
    refine S_nil (hK10 _ _ (V_keep [4] (by simp only [proj, lk, reduceIte, Nat.reduceEqDiff]; rfl) ?_)); clear hK10
    refine V_ret ?_
    refine hR _ _ (ret1 rfl rfl ?_)
    exact ⟨true, rfl, fun _ j h1 h2 => hall j h1 (by omega), rfl⟩
set_option maxHeartbeats 400000 in
theorem period_spec (h : Heap) (u : ByteArray) (hu : u.size ≤ 256) :
    FC Tryz.prog 88 (#[.string u] : Array Value) h fun v h' => ∃ p : Nat, v = .int .i64 (p : Int) ∧ (p = 0 ∨ (1 ≤ p ∧ p ≤ 16 ∧ Pd u p)) ∧ h = h' := by
  refine FC_of [(0, .string u)] Tryz.func88 rfl Tryz.ntmps88 (by simp) rfl (fun R hR => ?_)
  refine V_sr T.mix (by kernel_rfl) (fun K1 hK1 => ?_)
  refine S_as rfl ?_
  refine S_nil (hK1 _ _ (V_keep [0] (by simp only [proj, lk, reduceIte, Nat.reduceEqDiff]; rfl) ?_)); clear hK1
  refine V_seq (fun K2 hK2 => ?_)
  refine V_sr T.mix (by kernel_rfl) (fun K3 hK3 => ?_)
  refine S_as rfl ?_
  refine S_nil (hK3 _ _ (V_keep [0, 3] (by simp only [proj, lk, reduceIte, Nat.reduceEqDiff]; rfl) ?_)); clear hK3
  refine V_block ?_
  refine V_loop (fun m l h' => ∃ (p : Nat), (1 ≤ p) ∧ (p ≤ 17) ∧ m = 17 - p ∧ l = [(0, .string u), (3, .int .i64 (p : Int))] ∧ h = h') _ ⟨1, by omega, by omega, rfl, rfl, rfl⟩ ?_
  rintro m l h' ⟨p, hp, hp2, rfl, rfl, rfl⟩ K4 hK4
  refine V_seq (fun K5 hK5 => ?_)
  refine V_sr T.mix (by kernel_rfl) (fun K6 hK6 => ?_)
  refine S_mv rfl ?_
  refine S_bin rfl rfl rfl ?_
  refine S_nil (hK6 _ _ (V_keep [0, 3, 5] (by simp only [proj, lk, reduceIte, Nat.reduceEqDiff]; rfl) ?_)); clear hK6
  refine V_condp rfl (fun c71 => ?_) (fun c71 => ?_)
  · skip
    refine V_skipk [0, 3] (by simp only [proj, lk, reduceIte, Nat.reduceEqDiff]; rfl) ?_
    refine hK5 _ _ ?_; clear hK5
    refine V_seq (fun K7 hK7 => ?_)
    refine V_block ?_
    refine V_sr T.mix (by kernel_rfl) (fun K8 hK8 => ?_)
    refine S_mv rfl ?_
    refine S_mv rfl ?_
    refine S_call T.hb113 rfl ?_
    refine FC.mono (repeats_spec h u hu p (by omega) (by omega)) ?_
    rintro v' h' ⟨b, rfl, hb, rfl⟩
    refine S_nil (hK8 _ _ (V_keep [0, 3, 10] (by simp only [proj, lk, reduceIte, Nat.reduceEqDiff]; rfl) ?_)); clear hK8
    refine V_condb rfl (fun c72 => ?_) (fun c72 => ?_)
    · skip
      refine V_sr T.mix (by kernel_rfl) (fun K9 hK9 => ?_)
      refine S_mv rfl ?_
      refine S_as rfl ?_
      refine S_nil (hK9 _ _ (V_keep [2] (by simp only [proj, lk, reduceIte, Nat.reduceEqDiff]; rfl) ?_)); clear hK9
      refine V_ret ?_
      refine hR _ _ (ret1 rfl rfl ?_)
      exact ⟨p, rfl, .inr ⟨by omega, by omega, hb c72⟩, rfl⟩
    · skip
      refine V_skipk [0, 3] (by simp only [proj, lk, reduceIte, Nat.reduceEqDiff]; rfl) ?_
      refine hK7 _ _ ?_; clear hK7
      refine V_reg T.mix (by kernel_rfl) ?_
      refine S_mv rfl ?_
      first | refine S_add rfl rfl (by omega) (by omega) ?_ | refine S_bin rfl rfl rfl ?_
      refine S_as rfl ?_
      refine S_nilk [0, 3] (by simp only [proj, lk, reduceIte, Nat.reduceEqDiff]; rfl) ?_
      exact hK4 _ _ ⟨_, by omega, p + 1, by omega, by omega, rfl, rfl, rfl⟩
  · skip
    refine V_exitk [] rfl (by simp only [proj, lk, reduceIte, Nat.reduceEqDiff]; rfl) ?_
    refine hK2 _ _ ?_; clear hK2
    refine V_sr T.mix (by kernel_rfl) (fun K10 hK10 => ?_)
    refine S_as rfl ?_
    refine S_nil (hK10 _ _ (V_keep [2] (by simp only [proj, lk, reduceIte, Nat.reduceEqDiff]; rfl) ?_)); clear hK10
    refine V_ret ?_
    refine hR _ _ (ret1 rfl rfl ?_)
    exact ⟨0, rfl, .inl rfl, rfl⟩
set_option maxHeartbeats 400000 in
theorem work_spec (h : Heap) (u : ByteArray) (hu : u.size ≤ 256) (level : Int) (sz : Nat) (hsz : level ≠ 0 → ∀ p, Pd u p → 1 ≤ p → p ≤ 16 → (p = 1 → sz ≤ 8 + u.size / 5) ∧ sz ≤ 10 + 2 * p + u.size / 5) (hs9 : sz ≤ 1000) :
    FC Tryz.prog 48 (#[.string u, .int .i64 level, .int .i64 (sz : Int)] : Array Value) h fun v h' => v = .bool true ∧ h = h' := by
  refine FC_of [(0, .string u), (1, .int .i64 level), (2, .int .i64 (sz : Int))] Tryz.func48 rfl Tryz.ntmps48 (by simp) rfl (fun R hR => ?_)
  refine V_sr T.mix (by kernel_rfl) (fun K1 hK1 => ?_)
  refine S_as rfl ?_
  refine S_nil (hK1 _ _ (V_keep [0, 1, 2] (by simp only [proj, lk, reduceIte, Nat.reduceEqDiff]; rfl) ?_)); clear hK1
  refine V_seq (fun K2 hK2 => ?_)
  refine V_sr T.mix (by kernel_rfl) (fun K3 hK3 => ?_)
  refine S_mv rfl ?_
  refine S_bin rfl rfl rfl ?_
  refine S_nil (hK3 _ _ (V_keep [0, 2, 9] (by simp only [proj, lk, reduceIte, Nat.reduceEqDiff]; rfl) ?_)); clear hK3
  refine V_condp rfl (fun c81 => ?_) (fun c81 => ?_)
  · skip
    refine V_sr T.mix (by kernel_rfl) (fun K4 hK4 => ?_)
    refine S_as rfl ?_
    refine S_nil (hK4 _ _ (V_keep [6] (by simp only [proj, lk, reduceIte, Nat.reduceEqDiff]; rfl) ?_)); clear hK4
    refine V_ret ?_
    refine hR _ _ (ret1 rfl rfl ?_)
    exact ⟨rfl, rfl⟩
  · skip
    refine V_skipk [0, 2] (by simp only [proj, lk, reduceIte, Nat.reduceEqDiff]; rfl) ?_
    refine hK2 _ _ ?_; clear hK2
    refine V_sr T.mix (by kernel_rfl) (fun K5 hK5 => ?_)
    refine S_mv rfl ?_
    refine S_call T.hb88 rfl ?_
    refine FC.mono (period_spec h u hu) ?_
    rintro v' h' ⟨p, rfl, hp, rfl⟩
    refine S_as rfl ?_
    refine S_nil (hK5 _ _ (V_keep [0, 2, 7] (by simp only [proj, lk, reduceIte, Nat.reduceEqDiff]; rfl) ?_)); clear hK5
    refine V_seq (fun K6 hK6 => ?_)
    refine V_sr T.mix (by kernel_rfl) (fun K7 hK7 => ?_)
    refine S_mv rfl ?_
    refine S_bin rfl rfl rfl ?_
    refine S_nil (hK7 _ _ (V_keep [0, 2, 7, 13] (by simp only [proj, lk, reduceIte, Nat.reduceEqDiff]; rfl) ?_)); clear hK7
    refine V_condp rfl (fun c85 => ?_) (fun c85 => ?_)
    · skip
      refine V_sr T.mix (by kernel_rfl) (fun K8 hK8 => ?_)
      refine S_as rfl ?_
      refine S_nil (hK8 _ _ (V_keep [6] (by simp only [proj, lk, reduceIte, Nat.reduceEqDiff]; rfl) ?_)); clear hK8
      refine V_ret ?_
      refine hR _ _ (ret1 rfl rfl ?_)
      exact ⟨rfl, rfl⟩
    · skip
      refine V_skipk [0, 2, 7] (by simp only [proj, lk, reduceIte, Nat.reduceEqDiff]; rfl) ?_
      refine hK6 _ _ ?_; clear hK6
      refine V_seq (fun K9 hK9 => ?_)
      refine V_sr T.mix (by kernel_rfl) (fun K10 hK10 => ?_)
      refine S_mv rfl ?_
      refine S_bin rfl rfl rfl ?_
      refine S_nil (hK10 _ _ (V_keep [0, 2, 7, 15] (by simp only [proj, lk, reduceIte, Nat.reduceEqDiff]; rfl) ?_)); clear hK10
      refine V_condp rfl (fun c88 => ?_) (fun c88 => ?_)
      · skip
        refine V_sr T.mix (by kernel_rfl) (fun K11 hK11 => ?_)
        refine S_mv rfl ?_
        refine S_mv rfl ?_
        refine S_lens T.kd9 rfl ?_
        refine S_quo rfl rfl (by omega) (by omega) (by omega) ?_
        first | refine S_add rfl rfl (by omega) (by omega) ?_ | refine S_bin rfl rfl rfl ?_
        refine S_bin rfl rfl rfl ?_
        refine S_as rfl ?_
        refine S_nil (hK11 _ _ (V_keep [6] (by simp only [proj, lk, reduceIte, Nat.reduceEqDiff]; rfl) ?_)); clear hK11
        refine V_ret ?_
        refine hR _ _ (ret1 rfl rfl ?_)
        obtain ⟨q1, q2, q3⟩ : 1 ≤ p ∧ p ≤ 16 ∧ Pd u p := by rcases hp with q | q; (omega); (exact q)
        have hq := hsz (by omega) p q3 q1 q2
        exact ⟨by congr 1; rw [decide_eq_true_eq]; omega, rfl⟩
      · skip
        refine V_skipk [0, 2, 7] (by simp only [proj, lk, reduceIte, Nat.reduceEqDiff]; rfl) ?_
        refine hK9 _ _ ?_; clear hK9
        refine V_sr T.mix (by kernel_rfl) (fun K12 hK12 => ?_)
        refine S_mv rfl ?_
        refine S_mv rfl ?_
        first | refine S_mul rfl rfl (by omega) (by omega) ?_ | refine S_bin rfl rfl rfl ?_
        first | refine S_add rfl rfl (by omega) (by omega) ?_ | refine S_bin rfl rfl rfl ?_
        refine S_mv rfl ?_
        refine S_lens T.kd9 rfl ?_
        refine S_quo rfl rfl (by omega) (by omega) (by omega) ?_
        first | refine S_add rfl rfl (by omega) (by omega) ?_ | refine S_bin rfl rfl rfl ?_
        refine S_bin rfl rfl rfl ?_
        refine S_as rfl ?_
        refine S_nil (hK12 _ _ (V_keep [6] (by simp only [proj, lk, reduceIte, Nat.reduceEqDiff]; rfl) ?_)); clear hK12
        refine V_ret ?_
        refine hR _ _ (ret1 rfl rfl ?_)
        obtain ⟨q1, q2, q3⟩ : 1 ≤ p ∧ p ≤ 16 ∧ Pd u p := by rcases hp with q | q; (omega); (exact q)
        have hq := hsz (by omega) p q3 q1 q2
        exact ⟨by congr 1; rw [decide_eq_true_eq]; omega, rfl⟩
set_option maxHeartbeats 400000 in
theorem keeps_spec (h : Heap) (u : ByteArray) (hu : u.size ≤ 256) (level : Int) (tx : ByteArray) (htx : tx = pkF u level) :
    FC Tryz.prog 26 (#[.string u, .int .i64 level, .string tx] : Array Value) h fun v h' => v = .bool true ∧ Ext (fun _ => False) h h' := by
  have hsz := (pk_size (u := u) level).2
  rw [← htx] at hsz
  refine FC_of [(0, .string u), (1, .int .i64 level), (2, .string tx)] Tryz.func26 rfl Tryz.ntmps26 (by simp) rfl (fun R hR => ?_)
  refine V_sr T.mix (by kernel_rfl) (fun K1 hK1 => ?_)
  refine S_as rfl ?_
  refine S_nil (hK1 _ _ (V_keep [0, 1, 2] (by simp only [proj, lk, reduceIte, Nat.reduceEqDiff]; rfl) ?_)); clear hK1
  refine V_sr T.mix (by kernel_rfl) (fun K2 hK2 => ?_)
  refine S_mv rfl ?_
  refine S_call T.hb47 rfl ?_
  refine FC.mono (run_spec h tx) ?_
  obtain ⟨sr, hru⟩ := pk_run hu level
  rw [← htx] at hru
  rw [hru]
  simp only [Lz.mkS_byt]
  rintro v' h1 ⟨rfl, hE1⟩
  refine S_mv rfl ?_
  refine S_ex rfl rfl ?_
  refine S_ex rfl rfl ?_
  refine S_ex rfl rfl ?_
  refine S_as rfl ?_
  refine S_as rfl ?_
  refine S_as rfl ?_
  refine S_nil (hK2 _ _ (V_keep [0, 1, 2, 7, 8, 9] (by simp only [proj, lk, reduceIte, Nat.reduceEqDiff]; rfl) ?_)); clear hK2
  refine V_seq (fun K3 hK3 => ?_)
  refine V_sr T.mix (by kernel_rfl) (fun K4 hK4 => ?_)
  refine S_mv rfl ?_
  refine S_mv rfl ?_
  refine S_bin rfl rfl rfl ?_
  refine S_mv rfl ?_
  refine S_dec (fun g98 => ?_) (fun g98 => ?_)
  · skip
    exfalso; exact g98 rfl
  · skip
    refine S_gt rfl ?_
    refine S_mv rfl ?_
    refine S_gt rfl ?_
    refine S_bin rfl rfl rfl ?_
    refine S_pf rfl rfl ?_
    refine S_mv rfl ?_
    refine S_dec (fun g98a => ?_) (fun g98a => ?_)
    · skip
      exfalso; exact g98a rfl
    · skip
      refine S_gt rfl ?_
      refine S_mv rfl ?_
      refine S_gt rfl ?_
      refine S_bin rfl rfl rfl ?_
      refine S_pf rfl rfl ?_
      refine S_nil (hK4 _ _ (V_keep [0, 1, 2, 26] (by simp only [proj, lk, reduceIte, Nat.reduceEqDiff]; rfl) ?_)); clear hK4
      refine V_condp rfl (fun c98 => ?_) (fun c98 => ?_)
      · skip
        exfalso; exact c98 rfl
      · skip
        refine V_skipk [0, 1, 2] (by simp only [proj, lk, reduceIte, Nat.reduceEqDiff]; rfl) ?_
        refine hK3 _ _ ?_; clear hK3
        refine V_seq (fun K5 hK5 => ?_)
        refine V_sr T.mix (by kernel_rfl) (fun K6 hK6 => ?_)
        refine S_mv rfl ?_
        refine S_lens T.kd9 rfl ?_
        refine S_mv rfl ?_
        refine S_lens T.kd9 rfl ?_
        first | refine S_add rfl rfl (by omega) (by omega) ?_ | refine S_bin rfl rfl rfl ?_
        refine S_bin rfl rfl rfl ?_
        refine S_nil (hK6 _ _ (V_keep [0, 1, 2, 32] (by simp only [proj, lk, reduceIte, Nat.reduceEqDiff]; rfl) ?_)); clear hK6
        refine V_condp rfl (fun c101 => ?_) (fun c101 => ?_)
        · skip
          exfalso; omega
        · skip
          refine V_skipk [0, 1, 2] (by simp only [proj, lk, reduceIte, Nat.reduceEqDiff]; rfl) ?_
          refine hK5 _ _ ?_; clear hK5
          refine V_sr T.mix (by kernel_rfl) (fun K7 hK7 => ?_)
          refine S_mv rfl ?_
          refine S_mv rfl ?_
          refine S_mv rfl ?_
          refine S_lens T.kd9 rfl ?_
          refine S_call T.hb48 rfl ?_
          refine FC.mono (work_spec h1 u hu level tx.size (fun hl p q1 q2 q3 => by rw [htx]; exact pk_work q1 q2 q3 hl) (by omega)) ?_
          rintro v' h' ⟨rfl, rfl⟩
          refine S_as rfl ?_
          refine S_nil (hK7 _ _ (V_keep [6] (by simp only [proj, lk, reduceIte, Nat.reduceEqDiff]; rfl) ?_)); clear hK7
          refine V_ret ?_
          refine hR _ _ (ret1 rfl rfl ?_)
          exact ⟨rfl, hE1⟩
end Go.Proofs.Qxb6500406aGreat
