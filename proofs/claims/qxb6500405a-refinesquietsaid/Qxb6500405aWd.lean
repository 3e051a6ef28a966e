import Derived.Test.Qxb6500405aWc
set_option linter.unusedVariables false
set_option linter.unusedSimpArgs false
namespace Go.Proofs.Qxb6500405a
open Go.Eng Go.Bits

def dueF (s : TS) (k oa ob : Int) (os : ByteArray) : Nat := if k = 2 then loadE os else if k = 3 then putE s.n oa ob else if k = 5 ∨ k = 6 then skipE s oa else 0
def stepS (s : TS) (k oa ob : Int) (os : ByteArray) : TS := if k = 1 then ⟨0, 0, 0⟩ else if k = 2 then loadS s os else if k = 3 then putS s oa ob else if k = 4 then padS s else if k = 5 ∨ k = 6 then skipS s oa else if k = 7 then syncS s else s
def stepV (s : TS) (k oa : Int) : Nat := if k = 5 then takeV s oa else 0
theorem OK.step {s : TS} (h : OK s) (k oa ob : Int) (os : ByteArray) : OK (stepS s k oa ob os) := by
  unfold stepS
  repeat' split
  all_goals first | exact OK.zero | exact h.load _ | exact h.put _ _ | exact h.pad | exact h.skip _ | exact h.sync | exact h
theorem txt_lt (N n : Nat) : (txt N n).size = (n + 7) / 8 := txt_size N n
theorem stepS_err {s : TS} {k oa ob : Int} {os : ByteArray} (h : dueF s k oa ob os ≠ 0) : stepS s k oa ob os = s ∧ stepV s k oa = 0 := by
  unfold dueF at h
  unfold stepS stepV
  by_cases h2 : k = 2
  · rw [if_pos h2] at h
    rw [if_neg (by omega), if_pos h2, if_neg (by omega)]
    exact ⟨by unfold loadS; rw [if_neg h], rfl⟩
  · rw [if_neg h2] at h
    by_cases h3 : k = 3
    · rw [if_pos h3] at h
      rw [if_neg (by omega), if_neg h2, if_pos h3, if_neg (by omega)]
      exact ⟨by unfold putS; rw [if_neg h], rfl⟩
    · rw [if_neg h3] at h
      by_cases h5 : k = 5 ∨ k = 6
      · rw [if_pos h5] at h
        rw [if_neg (by omega), if_neg h2, if_neg h3, if_neg (by omega), if_pos h5]
        refine ⟨skipS_ne h, ?_⟩
        split
        · exact takeV_ne h
        · rfl
      · rw [if_neg h5] at h; exact absurd rfl h
set_option maxHeartbeats 400000 in
theorem up8_spec (h : Heap) (k : Int) (h0 : 0 ≤ k) (h1 : k ≤ 1000000) :
    FC Try.prog 38 (#[.int .i64 k] : Array Value) h fun v h' => v = .int .i64 ((k + 7) / 8 * 8) ∧ h = h' := by
  refine FC_of [(0, .int .i64 k)] Try.func38 rfl Try.ntmps38 (by simp) rfl (fun R hR => ?_)
  refine V_sr T.mix (by kernel_rfl) (fun K1 hK1 => ?_)
  refine S_as rfl ?_
  refine S_nil (hK1 _ _ (V_keep [0] (by simp only [proj, lk, reduceIte, Nat.reduceEqDiff]; rfl) ?_)); clear hK1
  refine V_sr T.mix (by kernel_rfl) (fun K2 hK2 => ?_)
  refine S_mv rfl ?_
  first | refine S_add rfl rfl (by omega) (by omega) ?_ | refine S_bin rfl rfl rfl ?_
  refine S_quo rfl rfl (by omega) (by omega) (by omega) ?_
  first | refine S_mul rfl rfl (by omega) (by omega) ?_ | refine S_bin rfl rfl rfl ?_
  refine S_as rfl ?_
  refine S_nil (hK2 _ _ (V_keep [2] (by simp only [proj, lk, reduceIte, Nat.reduceEqDiff]; rfl) ?_)); clear hK2
  refine V_ret ?_
  refine hR _ _ (ret1 rfl rfl ?_)
  exact ⟨rfl, rfl⟩
set_option maxHeartbeats 400000 in
theorem bitof_spec (h : Heap) (N n j : Nat) (hj : j / 8 < (n + 7) / 8) (hn : n ≤ 4096) :
    FC Try.prog 54 (#[.string (txt N n), .int .i64 (j : Int)] : Array Value) h fun v h' => v = .int .i64 ((bitN N j : Nat) : Int) ∧ h = h' := by
  have hb := byteN_lt N (j / 8)
  have hd := Nat.lt_of_le_of_lt (Nat.div_le_self (byteN N (j / 8)) (2 ^ (j % 8))) hb
  refine FC_of [(0, .string (txt N n)), (1, .int .i64 (j : Int))] Try.func54 rfl Try.ntmps54 (by simp) rfl (fun R hR => ?_)
  refine V_sr T.mix (by kernel_rfl) (fun K1 hK1 => ?_)
  refine S_as rfl ?_
  refine S_nil (hK1 _ _ (V_keep [0, 1] (by simp only [proj, lk, reduceIte, Nat.reduceEqDiff]; rfl) ?_)); clear hK1
  refine V_sr T.mix (by kernel_rfl) (fun K2 hK2 => ?_)
  refine S_mv rfl ?_
  refine S_mv rfl ?_
  refine S_nshr j 3 (j / 8) rfl rfl rfl rfl (by omega) (by decide) ?_
  refine S_siN (j / 8) T.kd9 rfl rfl rfl (by rw [txt_size]; omega) ?_
  rw [txt_at hj]
  refine S_mv rfl ?_
  first | refine S_andm 7 3 8 rfl rfl rfl (by decide) (by decide) (by omega) (by omega) ?_ | refine S_bin rfl rfl rfl ?_
  first | refine S_cvn T.us3 T.in66 rfl rfl (by first | omega | (simp only [IntKind.bits]; omega)) ?_ | refine S_cvu T.us3 T.in66 rfl (by omega) (by omega) ?_ | refine S_cv T.us3 T.in66 rfl ?_
  refine S_nshr (byteN N (j / 8)) (j % 8) _ rfl rfl rfl (by omega) rfl (show j % 8 ≤ 8 by omega) ?_
  refine S_cvN _ T.us5 T.in3 rfl rfl (top_i64 (by omega)) ?_
  refine S_nand (byteN N (j / 8) / 2 ^ (j % 8)) 1 (bitN N j) rfl rfl rfl rfl (by rw [Nat.and_one_is_mod, byte_bit]) (top_i64 (by omega)) (top_i64 (by decide)) ?_
  refine S_as rfl ?_
  refine S_nil (hK2 _ _ (V_keep [4] (by simp only [proj, lk, reduceIte, Nat.reduceEqDiff]; rfl) ?_)); clear hK2
  refine V_ret ?_
  refine hR _ _ (ret1 rfl rfl ?_)
  exact ⟨rfl, rfl⟩
set_option maxHeartbeats 400000 in
theorem next_spec (h : Heap) (s : TS) (hs : OK s) (g : Nat) (hg : s.p + g ≤ s.n) (hg2 : g ≤ 16) :
    FC Try.prog 39 (#[.agg #[.int .i64 (s.p : Int), .int .i64 (s.n : Int), .string (txt s.N s.n)], .int .i64 (g : Int)] : Array Value) h fun v h' => v = .int .i64 ((peekN s.N s.p g : Nat) : Int) ∧ Ext (fun _ => False) h h' := by
  have ok3 := hs.2.2
  refine FC_of [(0, .agg #[.int .i64 (s.p : Int), .int .i64 (s.n : Int), .string (txt s.N s.n)]), (1, .int .i64 (g : Int))] Try.func39 rfl Try.ntmps39 (by simp) rfl (fun R hR => ?_)
  refine V_sr T.mix (by kernel_rfl) (fun K1 hK1 => ?_)
  refine S_boxA rfl ?_
  generalize hh : Array.push h _ = h1
  have hA : B h1 h.size #[.int .i64 (s.p : Int), .int .i64 (s.n : Int), .string (txt s.N s.n)] 38 := by rw [← hh]; exact B.new _ _ _
  have hEh1 : Ext (fun _ => False) h h1 := by rw [← hh]; exact Ext.push _ _ _
  clear hh
  have hA0 : cellH h1 ⟨h.size, 0, none⟩ = some (.int .i64 (s.p : Int)) := hA.cell 0
  have hA1 : cellH h1 ⟨h.size, 1, none⟩ = some (.int .i64 (s.n : Int)) := hA.cell 1
  have hA2 : cellH h1 ⟨h.size, 2, none⟩ = some (.string (txt s.N s.n)) := hA.cell 2
  refine S_as rfl ?_
  refine S_nil (hK1 _ _ (V_keep [1, 2] (by simp only [proj, lk, reduceIte, Nat.reduceEqDiff]; rfl) ?_)); clear hK1
  refine V_sr T.mix (by kernel_rfl) (fun K2 hK2 => ?_)
  refine S_as rfl ?_
  refine S_nil (hK2 _ _ (V_keep [1, 2, 5] (by simp only [proj, lk, reduceIte, Nat.reduceEqDiff]; rfl) ?_)); clear hK2
  refine V_seq (fun K3 hK3 => ?_)
  refine V_sr T.mix (by kernel_rfl) (fun K4 hK4 => ?_)
  refine S_as rfl ?_
  refine S_nil (hK4 _ _ (V_keep [1, 2, 5, 6] (by simp only [proj, lk, reduceIte, Nat.reduceEqDiff]; rfl) ?_)); clear hK4
  refine V_block ?_
  refine V_loop (fun m l h' => ∃ (j : Nat) (w : Nat), (j ≤ g) ∧ (w = peekN s.N s.p j) ∧ m = g - j ∧ l = [(1, .int .i64 (g : Int)), (2, .pointer (some ⟨h.size, 0, none⟩)), (5, .int .i64 (w : Int)), (6, .int .i64 (j : Int))] ∧ h1 = h') _ ⟨0, 0, by omega, (peekN_zero _ _).symm, rfl, rfl, rfl⟩ ?_
  rintro m l h' ⟨j, w, hj, hw, rfl, rfl, rfl⟩ K5 hK5
  refine V_seq (fun K6 hK6 => ?_)
  refine V_sr T.mix (by kernel_rfl) (fun K7 hK7 => ?_)
  refine S_mv rfl ?_
  refine S_mv rfl ?_
  refine S_bin rfl rfl rfl ?_
  refine S_nil (hK7 _ _ (V_keep [1, 2, 5, 6, 9] (by simp only [proj, lk, reduceIte, Nat.reduceEqDiff]; rfl) ?_)); clear hK7
  refine V_condp rfl (fun c31 => ?_) (fun c31 => ?_)
  · skip
    refine V_skipk [1, 2, 5, 6] (by simp only [proj, lk, reduceIte, Nat.reduceEqDiff]; rfl) ?_
    refine hK6 _ _ ?_; clear hK6
    refine V_seq (fun K8 hK8 => ?_)
    refine V_block ?_
    refine V_reg T.mix (by kernel_rfl) ?_
    refine S_mv rfl ?_
    first | refine S_fa0 T.f38_2 rfl ?_ | refine S_fa T.f38_2 rfl ?_
    refine S_ldK T.ag9 rfl (fun K' hK' => ?_)
    simp (disch := omega) only [hA0, hA1, hA2, oP_some, Nat.add_zero]
    refine hK' _ ?_; clear hK' K'
    first | refine S_fa0 T.f38_0 rfl ?_ | refine S_fa T.f38_0 rfl ?_
    refine S_ldK T.ag3 rfl (fun K' hK' => ?_)
    simp (disch := omega) only [hA0, hA1, hA2, oP_some, Nat.add_zero]
    refine hK' _ ?_; clear hK' K'
    refine S_mv rfl ?_
    refine S_addN (s.p + j) rfl rfl (by omega) (by omega) ?_
    refine S_call T.hb54 rfl ?_
    refine FC.mono (bitof_spec h1 s.N s.n (s.p + j) (by omega) ok3) ?_
    rintro v h' ⟨rfl, rfl⟩
    refine S_mv rfl ?_
    first | refine S_cvn T.us3 T.in66 rfl rfl (by first | omega | (simp only [IntKind.bits]; omega)) ?_ | refine S_cvu T.us3 T.in66 rfl (by omega) (by omega) ?_ | refine S_cv T.us3 T.in66 rfl ?_
    refine S_nshl (bitN s.N (s.p + j)) j _ rfl rfl rfl rfl rfl (show j ≤ 64 by omega) (top_i64 (by have := bit_sh2 (N := s.N) (i := s.p + j) (g := j) (by omega); omega)) ?_
    subst hw
    refine S_nor (peekN s.N s.p j) (bitN s.N (s.p + j) * 2 ^ j) (peekN s.N s.p (j + 1)) rfl rfl rfl rfl (peekN_succ _ _ _).symm (top_i64 (by have := peekN_16 (N := s.N) (i := s.p) (g := j) (by omega); omega)) (top_i64 (by have := bit_sh2 (N := s.N) (i := s.p + j) (g := j) (by omega); omega)) ?_
    refine S_as rfl ?_
    refine S_nilk [1, 2, 5, 6] (by simp only [proj, lk, reduceIte, Nat.reduceEqDiff]; rfl) ?_
    refine hK8 _ _ ?_; clear hK8
    refine V_reg T.mix (by kernel_rfl) ?_
    refine S_mv rfl ?_
    first | refine S_add rfl rfl (by omega) (by omega) ?_ | refine S_bin rfl rfl rfl ?_
    refine S_as rfl ?_
    refine S_nilk [1, 2, 5, 6] (by simp only [proj, lk, reduceIte, Nat.reduceEqDiff]; rfl) ?_
    exact hK5 _ _ ⟨_, by omega, j + 1, _, by omega, rfl, rfl, rfl, rfl⟩
  · skip
    refine V_exitk [5] rfl (by simp only [proj, lk, reduceIte, Nat.reduceEqDiff]; rfl) ?_
    refine hK3 _ _ ?_; clear hK3
    refine V_sr T.mix (by kernel_rfl) (fun K9 hK9 => ?_)
    refine S_mv rfl ?_
    refine S_as rfl ?_
    refine S_nil (hK9 _ _ (V_keep [4] (by simp only [proj, lk, reduceIte, Nat.reduceEqDiff]; rfl) ?_)); clear hK9
    refine V_ret ?_
    refine hR _ _ (ret1 rfl rfl ?_)
    have hjg : j = g := by omega
    subst hjg
    subst hw
    exact ⟨rfl, hEh1⟩
set_option maxHeartbeats 400000 in
theorem whole_spec (h : Heap) (s : TS) (hs : OK s) :
    FC Try.prog 34 (#[.agg #[.int .i64 (s.p : Int), .int .i64 (s.n : Int), .string (txt s.N s.n)]] : Array Value) h fun v h' => v = .bool true ∧ Ext (fun _ => False) h h' := by
  have ok2 := hs.2.1
  have ok3 := hs.2.2
  have htl := txt_size s.N s.n
  refine FC_of [(0, .agg #[.int .i64 (s.p : Int), .int .i64 (s.n : Int), .string (txt s.N s.n)])] Try.func34 rfl Try.ntmps34 (by simp) rfl (fun R hR => ?_)
  refine V_sr T.mix (by kernel_rfl) (fun K1 hK1 => ?_)
  refine S_boxA rfl ?_
  generalize hh : Array.push h _ = h1
  have hA : B h1 h.size #[.int .i64 (s.p : Int), .int .i64 (s.n : Int), .string (txt s.N s.n)] 38 := by rw [← hh]; exact B.new _ _ _
  have hEh1 : Ext (fun _ => False) h h1 := by rw [← hh]; exact Ext.push _ _ _
  clear hh
  have hA0 : cellH h1 ⟨h.size, 0, none⟩ = some (.int .i64 (s.p : Int)) := hA.cell 0
  have hA1 : cellH h1 ⟨h.size, 1, none⟩ = some (.int .i64 (s.n : Int)) := hA.cell 1
  have hA2 : cellH h1 ⟨h.size, 2, none⟩ = some (.string (txt s.N s.n)) := hA.cell 2
  refine S_as rfl ?_
  refine S_nil (hK1 _ _ (V_keep [1] (by simp only [proj, lk, reduceIte, Nat.reduceEqDiff]; rfl) ?_)); clear hK1
  refine V_seq (fun K2 hK2 => ?_)
  refine V_sr T.mix (by kernel_rfl) (fun K3 hK3 => ?_)
  first | refine S_fa0 T.f38_0 rfl ?_ | refine S_fa T.f38_0 rfl ?_
  refine S_ldK T.ag3 rfl (fun K' hK' => ?_)
  simp (disch := omega) only [hA0, hA1, hA2, oP_some, Nat.add_zero]
  refine hK' _ ?_; clear hK' K'
  refine S_bin rfl rfl rfl ?_
  refine S_mv rfl ?_
  refine S_dec (fun g39 => ?_) (fun g39 => ?_)
  · skip
    exfalso; omega
  · skip
    refine S_gt rfl ?_
    first | refine S_fa0 T.f38_0 rfl ?_ | refine S_fa T.f38_0 rfl ?_
    refine S_gt rfl ?_
    refine S_ldK T.ag3 rfl (fun K' hK' => ?_)
    simp (disch := omega) only [hA0, hA1, hA2, oP_some, Nat.add_zero]
    refine hK' _ ?_; clear hK' K'
    refine S_gt rfl ?_
    first | refine S_fa0 T.f38_1 rfl ?_ | refine S_fa T.f38_1 rfl ?_
    refine S_gt rfl ?_
    refine S_ldK T.ag3 rfl (fun K' hK' => ?_)
    simp (disch := omega) only [hA0, hA1, hA2, oP_some, Nat.add_zero]
    refine hK' _ ?_; clear hK' K'
    refine S_gt rfl ?_
    refine S_bin rfl rfl rfl ?_
    refine S_pf rfl rfl ?_
    refine S_mv rfl ?_
    refine S_dec (fun g39a => ?_) (fun g39a => ?_)
    · skip
      exfalso; omega
    · skip
      refine S_gt rfl ?_
      first | refine S_fa0 T.f38_1 rfl ?_ | refine S_fa T.f38_1 rfl ?_
      refine S_gt rfl ?_
      refine S_ldK T.ag3 rfl (fun K' hK' => ?_)
      simp (disch := omega) only [hA0, hA1, hA2, oP_some, Nat.add_zero]
      refine hK' _ ?_; clear hK' K'
      refine S_gt rfl ?_
      refine S_bin rfl rfl rfl ?_
      refine S_pf rfl rfl ?_
      refine S_mv rfl ?_
      refine S_dec (fun g39b => ?_) (fun g39b => ?_)
      · skip
        exfalso; omega
      · skip
        refine S_gt rfl ?_
        first | refine S_fa0 T.f38_2 rfl ?_ | refine S_fa T.f38_2 rfl ?_
        refine S_gt rfl ?_
        refine S_ldK T.ag9 rfl (fun K' hK' => ?_)
        simp (disch := omega) only [hA0, hA1, hA2, oP_some, Nat.add_zero]
        refine hK' _ ?_; clear hK' K'
        refine S_gt rfl ?_
        refine S_lens T.kd9 rfl ?_
        refine S_gt rfl ?_
        first | refine S_fa0 T.f38_1 rfl ?_ | refine S_fa T.f38_1 rfl ?_
        refine S_gt rfl ?_
        refine S_ldK T.ag3 rfl (fun K' hK' => ?_)
        simp (disch := omega) only [hA0, hA1, hA2, oP_some, Nat.add_zero]
        refine hK' _ ?_; clear hK' K'
        refine S_gt rfl ?_
        first | refine S_add rfl rfl (by omega) (by omega) ?_ | refine S_bin rfl rfl rfl ?_
        refine S_gt rfl ?_
        refine S_quo rfl rfl (by omega) (by omega) (by omega) ?_
        refine S_gt rfl ?_
        refine S_bin rfl rfl rfl ?_
        refine S_pf rfl rfl ?_
        refine S_nil (hK3 _ _ (V_keep [1, 28] (by simp only [proj, lk, reduceIte, Nat.reduceEqDiff]; rfl) ?_)); clear hK3
        refine V_condp rfl (fun c39 => ?_) (fun c39 => ?_)
        · skip
          exfalso; rw [htl] at c39; omega
        · skip
          refine V_skipk [1] (by simp only [proj, lk, reduceIte, Nat.reduceEqDiff]; rfl) ?_
          refine hK2 _ _ ?_; clear hK2
          refine V_seq (fun K4 hK4 => ?_)
          refine V_sr T.mix (by kernel_rfl) (fun K5 hK5 => ?_)
          first | refine S_fa0 T.f38_1 rfl ?_ | refine S_fa T.f38_1 rfl ?_
          refine S_ldK T.ag3 rfl (fun K' hK' => ?_)
          simp (disch := omega) only [hA0, hA1, hA2, oP_some, Nat.add_zero]
          refine hK' _ ?_; clear hK' K'
          refine S_as rfl ?_
          refine S_nil (hK5 _ _ (V_keep [1, 3] (by simp only [proj, lk, reduceIte, Nat.reduceEqDiff]; rfl) ?_)); clear hK5
          refine V_block ?_
          refine V_loop (fun m l h' => ∃ (j : Nat), (s.n ≤ j) ∧ m = 8 * ((s.n + 7) / 8) - j ∧ l = [(1, .pointer (some ⟨h.size, 0, none⟩)), (3, .int .i64 (j : Int))] ∧ h1 = h') _ ⟨s.n, Nat.le_refl _, rfl, rfl, rfl⟩ ?_
          rintro m l h' ⟨j, hj, rfl, rfl, rfl⟩ K6 hK6
          refine V_seq (fun K7 hK7 => ?_)
          refine V_sr T.mix (by kernel_rfl) (fun K8 hK8 => ?_)
          refine S_mv rfl ?_
          first | refine S_fa0 T.f38_2 rfl ?_ | refine S_fa T.f38_2 rfl ?_
          refine S_ldK T.ag9 rfl (fun K' hK' => ?_)
          simp (disch := omega) only [hA0, hA1, hA2, oP_some, Nat.add_zero]
          refine hK' _ ?_; clear hK' K'
          refine S_lens T.kd9 rfl ?_
          first | refine S_mul rfl rfl (by omega) (by omega) ?_ | refine S_bin rfl rfl rfl ?_
          refine S_bin rfl rfl rfl ?_
          refine S_nil (hK8 _ _ (V_keep [1, 3, 36] (by simp only [proj, lk, reduceIte, Nat.reduceEqDiff]; rfl) ?_)); clear hK8
          refine V_condp rfl (fun c42 => ?_) (fun c42 => ?_)
          · skip
            refine V_skipk [1, 3] (by simp only [proj, lk, reduceIte, Nat.reduceEqDiff]; rfl) ?_
            refine hK7 _ _ ?_; clear hK7
            refine V_seq (fun K9 hK9 => ?_)
            refine V_block ?_
            refine V_sr T.mix (by kernel_rfl) (fun K10 hK10 => ?_)
            first | refine S_fa0 T.f38_2 rfl ?_ | refine S_fa T.f38_2 rfl ?_
            refine S_ldK T.ag9 rfl (fun K' hK' => ?_)
            simp (disch := omega) only [hA0, hA1, hA2, oP_some, Nat.add_zero]
            refine hK' _ ?_; clear hK' K'
            refine S_mv rfl ?_
            refine S_call T.hb54 rfl ?_
            refine FC.mono (bitof_spec h1 s.N s.n j (by omega) ok3) ?_
            rintro v h' ⟨rfl, rfl⟩
            refine S_bin rfl rfl rfl ?_
            refine S_nil (hK10 _ _ (V_keep [1, 3, 43] (by simp only [proj, lk, reduceIte, Nat.reduceEqDiff]; rfl) ?_)); clear hK10
            refine V_condp rfl (fun c43 => ?_) (fun c43 => ?_)
            · skip
              exfalso; unfold bitN at c43; rw [bitN_high hs.1 hj] at c43; exact c43 rfl
            · skip
              refine V_skipk [1, 3] (by simp only [proj, lk, reduceIte, Nat.reduceEqDiff]; rfl) ?_
              refine hK9 _ _ ?_; clear hK9
              refine V_reg T.mix (by kernel_rfl) ?_
              refine S_mv rfl ?_
              first | refine S_add rfl rfl (by omega) (by omega) ?_ | refine S_bin rfl rfl rfl ?_
              refine S_as rfl ?_
              refine S_nilk [1, 3] (by simp only [proj, lk, reduceIte, Nat.reduceEqDiff]; rfl) ?_
              exact hK6 _ _ ⟨_, by omega, j + 1, by omega, rfl, rfl, rfl⟩
          · skip
            refine V_exitk [] rfl (by simp only [proj, lk, reduceIte, Nat.reduceEqDiff]; rfl) ?_
            refine hK4 _ _ ?_; clear hK4
            refine V_sr T.mix (by kernel_rfl) (fun K11 hK11 => ?_)
            refine S_as rfl ?_
            refine S_nil (hK11 _ _ (V_keep [2] (by simp only [proj, lk, reduceIte, Nat.reduceEqDiff]; rfl) ?_)); clear hK11
            refine V_ret ?_
            refine hR _ _ (ret1 rfl rfl ?_)
            exact ⟨rfl, hEh1⟩
set_option maxHeartbeats 400000 in
theorem grown_spec (h : Heap) (s s2 : TS) (hs : OK s) (hs2 : OK s2) (v k : Int) (hv : 0 ≤ v) (hk : 0 ≤ k) (hk2 : k ≤ 16) (hv2 : v.toNat < 65536) (hN : s2.N = putN s.N v.toNat s.n) (hn : (s2.n : Int) = s.n + k) (hp : s2.p = s.p) :
    FC Try.prog 37 (#[.agg #[.int .i64 (s.p : Int), .int .i64 (s.n : Int), .string (txt s.N s.n)], .agg #[.int .i64 (s2.p : Int), .int .i64 (s2.n : Int), .string (txt s2.N s2.n)], .int .i64 v, .int .i64 k] : Array Value) h fun rv h' => rv = .bool true ∧ Ext (fun _ => False) h h' := by
  have ok3 := hs.2.2
  have ok4 := hs2.2.2
  refine FC_of [(0, .agg #[.int .i64 (s.p : Int), .int .i64 (s.n : Int), .string (txt s.N s.n)]), (1, .agg #[.int .i64 (s2.p : Int), .int .i64 (s2.n : Int), .string (txt s2.N s2.n)]), (2, .int .i64 v), (3, .int .i64 k)] Try.func37 rfl Try.ntmps37 (by simp) rfl (fun R hR => ?_)
  refine V_sr T.mix (by kernel_rfl) (fun K1 hK1 => ?_)
  refine S_boxA rfl ?_
  generalize hh : Array.push h _ = h1
  have hA : B h1 h.size #[.int .i64 (s.p : Int), .int .i64 (s.n : Int), .string (txt s.N s.n)] 38 := by rw [← hh]; exact B.new _ _ _
  have hEh1 : Ext (fun _ => False) h h1 := by rw [← hh]; exact Ext.push _ _ _
  clear hh
  refine S_boxA rfl ?_
  generalize hh : Array.push h1 _ = h2
  have hC : B h2 h1.size #[.int .i64 (s2.p : Int), .int .i64 (s2.n : Int), .string (txt s2.N s2.n)] 38 := by rw [← hh]; exact B.new _ _ _
  have hEh2 : Ext (fun _ => False) h1 h2 := by rw [← hh]; exact Ext.push _ _ _
  clear hh
  replace hA := hA.ext hEh2 (fun f => f)
  have hA0 : cellH h2 ⟨h.size, 0, none⟩ = some (.int .i64 (s.p : Int)) := hA.cell 0
  have hA1 : cellH h2 ⟨h.size, 1, none⟩ = some (.int .i64 (s.n : Int)) := hA.cell 1
  have hA2 : cellH h2 ⟨h.size, 2, none⟩ = some (.string (txt s.N s.n)) := hA.cell 2
  have hC0 : cellH h2 ⟨h1.size, 0, none⟩ = some (.int .i64 (s2.p : Int)) := hC.cell 0
  have hC1 : cellH h2 ⟨h1.size, 1, none⟩ = some (.int .i64 (s2.n : Int)) := hC.cell 1
  have hC2 : cellH h2 ⟨h1.size, 2, none⟩ = some (.string (txt s2.N s2.n)) := hC.cell 2
  refine S_as rfl ?_
  refine S_nil (hK1 _ _ (V_keep [2, 3, 4, 5] (by simp only [proj, lk, reduceIte, Nat.reduceEqDiff]; rfl) ?_)); clear hK1
  refine V_seq (fun K2 hK2 => ?_)
  refine V_sr T.mix (by kernel_rfl) (fun K3 hK3 => ?_)
  first | refine S_fa0 T.f38_0 rfl ?_ | refine S_fa T.f38_0 rfl ?_
  refine S_ldK T.ag3 rfl (fun K' hK' => ?_)
  simp (disch := omega) only [hA0, hA1, hA2, hC0, hC1, hC2, oP_some, Nat.add_zero]
  refine hK' _ ?_; clear hK' K'
  first | refine S_fa0 T.f38_0 rfl ?_ | refine S_fa T.f38_0 rfl ?_
  refine S_ldK T.ag3 rfl (fun K' hK' => ?_)
  simp (disch := omega) only [hA0, hA1, hA2, hC0, hC1, hC2, oP_some, Nat.add_zero]
  refine hK' _ ?_; clear hK' K'
  refine S_bin rfl rfl rfl ?_
  refine S_mv rfl ?_
  refine S_dec (fun g52 => ?_) (fun g52 => ?_)
  · skip
    exfalso; omega
  · skip
    refine S_gt rfl ?_
    first | refine S_fa0 T.f38_1 rfl ?_ | refine S_fa T.f38_1 rfl ?_
    refine S_gt rfl ?_
    refine S_ldK T.ag3 rfl (fun K' hK' => ?_)
    simp (disch := omega) only [hA0, hA1, hA2, hC0, hC1, hC2, oP_some, Nat.add_zero]
    refine hK' _ ?_; clear hK' K'
    refine S_gt rfl ?_
    first | refine S_fa0 T.f38_1 rfl ?_ | refine S_fa T.f38_1 rfl ?_
    refine S_gt rfl ?_
    refine S_ldK T.ag3 rfl (fun K' hK' => ?_)
    simp (disch := omega) only [hA0, hA1, hA2, hC0, hC1, hC2, oP_some, Nat.add_zero]
    refine hK' _ ?_; clear hK' K'
    refine S_gt rfl ?_
    refine S_mv rfl ?_
    refine S_gt rfl ?_
    first | refine S_add rfl rfl (by omega) (by omega) ?_ | refine S_bin rfl rfl rfl ?_
    refine S_gt rfl ?_
    refine S_bin rfl rfl rfl ?_
    refine S_pf rfl rfl ?_
    refine S_nil (hK3 _ _ (V_keep [2, 4, 5, 24] (by simp only [proj, lk, reduceIte, Nat.reduceEqDiff]; rfl) ?_)); clear hK3
    refine V_condp rfl (fun c52 => ?_) (fun c52 => ?_)
    · skip
      exfalso; omega
    · skip
      refine V_skipk [2, 4, 5] (by simp only [proj, lk, reduceIte, Nat.reduceEqDiff]; rfl) ?_
      refine hK2 _ _ ?_; clear hK2
      refine V_seq (fun K4 hK4 => ?_)
      refine V_sr T.mix (by kernel_rfl) (fun K5 hK5 => ?_)
      refine S_as rfl ?_
      refine S_nil (hK5 _ _ (V_keep [2, 4, 5, 9] (by simp only [proj, lk, reduceIte, Nat.reduceEqDiff]; rfl) ?_)); clear hK5
      refine V_block ?_
      refine V_loop (fun m l h' => ∃ (j : Nat), (j ≤ s2.n) ∧ m = s2.n - j ∧ l = [(2, .int .i64 v), (4, .pointer (some ⟨h.size, 0, none⟩)), (5, .pointer (some ⟨h1.size, 0, none⟩)), (9, .int .i64 (j : Int))] ∧ h2 = h') _ ⟨0, by omega, rfl, rfl, rfl⟩ ?_
      rintro m l h' ⟨j, hj, rfl, rfl, rfl⟩ K6 hK6
      refine V_seq (fun K7 hK7 => ?_)
      refine V_sr T.mix (by kernel_rfl) (fun K8 hK8 => ?_)
      refine S_mv rfl ?_
      first | refine S_fa0 T.f38_1 rfl ?_ | refine S_fa T.f38_1 rfl ?_
      refine S_ldK T.ag3 rfl (fun K' hK' => ?_)
      simp (disch := omega) only [hA0, hA1, hA2, hC0, hC1, hC2, oP_some, Nat.add_zero]
      refine hK' _ ?_; clear hK' K'
      refine S_bin rfl rfl rfl ?_
      refine S_nil (hK8 _ _ (V_keep [2, 4, 5, 9, 28] (by simp only [proj, lk, reduceIte, Nat.reduceEqDiff]; rfl) ?_)); clear hK8
      refine V_condp rfl (fun c55 => ?_) (fun c55 => ?_)
      · skip
        refine V_skipk [2, 4, 5, 9] (by simp only [proj, lk, reduceIte, Nat.reduceEqDiff]; rfl) ?_
        refine hK7 _ _ ?_; clear hK7
        refine V_seq (fun K9 hK9 => ?_)
        refine V_block ?_
        refine V_sr T.mix (by kernel_rfl) (fun K10 hK10 => ?_)
        refine S_as rfl ?_
        refine S_nil (hK10 _ _ (V_keep [2, 4, 5, 9] (by simp only [proj, lk, reduceIte, Nat.reduceEqDiff]; rfl) ?_)); clear hK10
        refine V_seqJ (fun l h' => l = [(2, .int .i64 v), (4, .pointer (some ⟨h.size, 0, none⟩)), (5, .pointer (some ⟨h1.size, 0, none⟩)), (9, .int .i64 (j : Int)), (10, .int .i64 ((bitN s2.N j : Nat) : Int))] ∧ h2 = h') ?_ ?_
        · skip
          refine V_sr T.mix (by kernel_rfl) (fun K12 hK12 => ?_)
          refine S_mv rfl ?_
          first | refine S_fa0 T.f38_1 rfl ?_ | refine S_fa T.f38_1 rfl ?_
          refine S_ldK T.ag3 rfl (fun K' hK' => ?_)
          simp (disch := omega) only [hA0, hA1, hA2, hC0, hC1, hC2, oP_some, Nat.add_zero]
          refine hK' _ ?_; clear hK' K'
          refine S_bin rfl rfl rfl ?_
          refine S_nil (hK12 _ _ (V_keep [2, 4, 5, 9, 34] (by simp only [proj, lk, reduceIte, Nat.reduceEqDiff]; rfl) ?_)); clear hK12
          refine V_condp rfl (fun c57 => ?_) (fun c57 => ?_)
          · skip
            refine V_reg T.mix (by kernel_rfl) ?_
            first | refine S_fa0 T.f38_2 rfl ?_ | refine S_fa T.f38_2 rfl ?_
            refine S_ldK T.ag9 rfl (fun K' hK' => ?_)
            simp (disch := omega) only [hA0, hA1, hA2, hC0, hC1, hC2, oP_some, Nat.add_zero]
            refine hK' _ ?_; clear hK' K'
            refine S_mv rfl ?_
            refine S_call T.hb54 rfl ?_
            refine FC.mono (bitof_spec h2 s.N s.n j (by omega) ok3) ?_
            rintro v h' ⟨rfl, rfl⟩
            refine S_as rfl ?_
            refine S_nilk [2, 4, 5, 9, 10] (by simp only [proj, lk, reduceIte, Nat.reduceEqDiff]; rfl) ?_
            rw [show bitN s2.N j = bitN s.N j by rw [hN, bitN_put_lo (by omega)]]
            exact ⟨rfl, rfl⟩
          · skip
            refine V_reg T.mix (by kernel_rfl) ?_
            refine S_mv rfl ?_
            refine S_mv rfl ?_
            first | refine S_fa0 T.f38_1 rfl ?_ | refine S_fa T.f38_1 rfl ?_
            refine S_ldK T.ag3 rfl (fun K' hK' => ?_)
            simp (disch := omega) only [hA0, hA1, hA2, hC0, hC1, hC2, oP_some, Nat.add_zero]
            refine hK' _ ?_; clear hK' K'
            refine S_subN (j - s.n) rfl rfl (by omega) (by omega) ?_
            first | refine S_cvn T.us3 T.in66 rfl rfl (by first | omega | (simp only [IntKind.bits]; omega)) ?_ | refine S_cvu T.us3 T.in66 rfl (by omega) (by omega) ?_ | refine S_cv T.us3 T.in66 rfl ?_
            refine S_nshr v.toNat (j - s.n) _ rfl rfl (by omega) rfl rfl (show j - s.n ≤ 64 by omega) ?_
            refine S_nand (v.toNat / 2 ^ (j - s.n)) 1 (bitN v.toNat (j - s.n)) rfl rfl rfl rfl (by rw [Nat.and_one_is_mod, bitN_eq]) (top_i64 (Nat.lt_of_le_of_lt (Nat.div_le_self _ _) (by omega))) (top_i64 (by decide)) ?_
            refine S_as rfl ?_
            refine S_nilk [2, 4, 5, 9, 10] (by simp only [proj, lk, reduceIte, Nat.reduceEqDiff]; rfl) ?_
            rw [show bitN s2.N j = bitN v.toNat (j - s.n) by rw [hN, bitN_put_hi hs.1 (by omega)]]
            exact ⟨rfl, rfl⟩
        rintro l h' ⟨rfl, rfl⟩
        refine V_sr T.mix (by kernel_rfl) (fun K13 hK13 => ?_)
        first | refine S_fa0 T.f38_2 rfl ?_ | refine S_fa T.f38_2 rfl ?_
        refine S_ldK T.ag9 rfl (fun K' hK' => ?_)
        simp (disch := omega) only [hA0, hA1, hA2, hC0, hC1, hC2, oP_some, Nat.add_zero]
        refine hK' _ ?_; clear hK' K'
        refine S_mv rfl ?_
        refine S_call T.hb54 rfl ?_
        refine FC.mono (bitof_spec h2 s2.N s2.n j (by omega) ok4) ?_
        rintro v h' ⟨rfl, rfl⟩
        refine S_mv rfl ?_
        refine S_bin rfl rfl rfl ?_
        refine S_nil (hK13 _ _ (V_keep [2, 4, 5, 9, 52] (by simp only [proj, lk, reduceIte, Nat.reduceEqDiff]; rfl) ?_)); clear hK13
        refine V_condp rfl (fun c62 => ?_) (fun c62 => ?_)
        · skip
          exfalso; omega
        · skip
          refine V_skipk [2, 4, 5, 9] (by simp only [proj, lk, reduceIte, Nat.reduceEqDiff]; rfl) ?_
          refine hK9 _ _ ?_; clear hK9
          refine V_reg T.mix (by kernel_rfl) ?_
          refine S_mv rfl ?_
          first | refine S_add rfl rfl (by omega) (by omega) ?_ | refine S_bin rfl rfl rfl ?_
          refine S_as rfl ?_
          refine S_nilk [2, 4, 5, 9] (by simp only [proj, lk, reduceIte, Nat.reduceEqDiff]; rfl) ?_
          exact hK6 _ _ ⟨_, by omega, j + 1, by omega, rfl, rfl, rfl⟩
      · skip
        refine V_exitk [] rfl (by simp only [proj, lk, reduceIte, Nat.reduceEqDiff]; rfl) ?_
        refine hK4 _ _ ?_; clear hK4
        refine V_sr T.mix (by kernel_rfl) (fun K14 hK14 => ?_)
        refine S_as rfl ?_
        refine S_nil (hK14 _ _ (V_keep [8] (by simp only [proj, lk, reduceIte, Nat.reduceEqDiff]; rfl) ?_)); clear hK14
        refine V_ret ?_
        refine hR _ _ (ret1 rfl rfl ?_)
        exact ⟨rfl, hEh1.trans hEh2⟩
set_option maxHeartbeats 400000 in
theorem moved_spec (h : Heap) (s s2 : TS) (to : Int) (hN : s2.N = s.N) (hn : s2.n = s.n) (hp : (s2.p : Int) = to) :
    FC Try.prog 36 (#[.agg #[.int .i64 (s.p : Int), .int .i64 (s.n : Int), .string (txt s.N s.n)], .agg #[.int .i64 (s2.p : Int), .int .i64 (s2.n : Int), .string (txt s2.N s2.n)], .int .i64 to] : Array Value) h fun v h' => v = .bool true ∧ Ext (fun _ => False) h h' := by
  refine FC_of [(0, .agg #[.int .i64 (s.p : Int), .int .i64 (s.n : Int), .string (txt s.N s.n)]), (1, .agg #[.int .i64 (s2.p : Int), .int .i64 (s2.n : Int), .string (txt s2.N s2.n)]), (2, .int .i64 to)] Try.func36 rfl Try.ntmps36 (by simp) rfl (fun R hR => ?_)
  refine V_sr T.mix (by kernel_rfl) (fun K1 hK1 => ?_)
  refine S_boxA rfl ?_
  generalize hh : Array.push h _ = h1
  have hA : B h1 h.size #[.int .i64 (s.p : Int), .int .i64 (s.n : Int), .string (txt s.N s.n)] 38 := by rw [← hh]; exact B.new _ _ _
  have hEh1 : Ext (fun _ => False) h h1 := by rw [← hh]; exact Ext.push _ _ _
  clear hh
  refine S_boxA rfl ?_
  generalize hh : Array.push h1 _ = h2
  have hC : B h2 h1.size #[.int .i64 (s2.p : Int), .int .i64 (s2.n : Int), .string (txt s2.N s2.n)] 38 := by rw [← hh]; exact B.new _ _ _
  have hEh2 : Ext (fun _ => False) h1 h2 := by rw [← hh]; exact Ext.push _ _ _
  clear hh
  replace hA := hA.ext hEh2 (fun f => f)
  have hA0 : cellH h2 ⟨h.size, 0, none⟩ = some (.int .i64 (s.p : Int)) := hA.cell 0
  have hA1 : cellH h2 ⟨h.size, 1, none⟩ = some (.int .i64 (s.n : Int)) := hA.cell 1
  have hA2 : cellH h2 ⟨h.size, 2, none⟩ = some (.string (txt s.N s.n)) := hA.cell 2
  have hC0 : cellH h2 ⟨h1.size, 0, none⟩ = some (.int .i64 (s2.p : Int)) := hC.cell 0
  have hC1 : cellH h2 ⟨h1.size, 1, none⟩ = some (.int .i64 (s2.n : Int)) := hC.cell 1
  have hC2 : cellH h2 ⟨h1.size, 2, none⟩ = some (.string (txt s2.N s2.n)) := hC.cell 2
  refine S_as rfl ?_
  refine S_nil (hK1 _ _ (V_keep [2, 3, 4] (by simp only [proj, lk, reduceIte, Nat.reduceEqDiff]; rfl) ?_)); clear hK1
  refine V_sr T.mix (by kernel_rfl) (fun K2 hK2 => ?_)
  first | refine S_fa0 T.f38_0 rfl ?_ | refine S_fa T.f38_0 rfl ?_
  refine S_ldK T.ag3 rfl (fun K' hK' => ?_)
  simp (disch := omega) only [hA0, hA1, hA2, hC0, hC1, hC2, oP_some, Nat.add_zero]
  refine hK' _ ?_; clear hK' K'
  refine S_mv rfl ?_
  refine S_bin rfl rfl rfl ?_
  refine S_mv rfl ?_
  refine S_dec (fun g71 => ?_) (fun g71 => ?_)
  · skip
    refine S_gt rfl ?_
    first | refine S_fa0 T.f38_1 rfl ?_ | refine S_fa T.f38_1 rfl ?_
    refine S_gt rfl ?_
    refine S_ldK T.ag3 rfl (fun K' hK' => ?_)
    simp (disch := omega) only [hA0, hA1, hA2, hC0, hC1, hC2, oP_some, Nat.add_zero]
    refine hK' _ ?_; clear hK' K'
    refine S_gt rfl ?_
    first | refine S_fa0 T.f38_1 rfl ?_ | refine S_fa T.f38_1 rfl ?_
    refine S_gt rfl ?_
    refine S_ldK T.ag3 rfl (fun K' hK' => ?_)
    simp (disch := omega) only [hA0, hA1, hA2, hC0, hC1, hC2, oP_some, Nat.add_zero]
    refine hK' _ ?_; clear hK' K'
    refine S_gt rfl ?_
    refine S_bin rfl rfl rfl ?_
    refine S_pt rfl rfl ?_
    refine S_mv rfl ?_
    refine S_dec (fun g71a => ?_) (fun g71a => ?_)
    · skip
      refine S_gt rfl ?_
      first | refine S_fa0 T.f38_2 rfl ?_ | refine S_fa T.f38_2 rfl ?_
      refine S_gt rfl ?_
      refine S_ldK T.ag9 rfl (fun K' hK' => ?_)
      simp (disch := omega) only [hA0, hA1, hA2, hC0, hC1, hC2, oP_some, Nat.add_zero]
      refine hK' _ ?_; clear hK' K'
      refine S_gt rfl ?_
      first | refine S_fa0 T.f38_2 rfl ?_ | refine S_fa T.f38_2 rfl ?_
      refine S_gt rfl ?_
      refine S_ldK T.ag9 rfl (fun K' hK' => ?_)
      simp (disch := omega) only [hA0, hA1, hA2, hC0, hC1, hC2, oP_some, Nat.add_zero]
      refine hK' _ ?_; clear hK' K'
      refine S_gt rfl ?_
      refine S_bin rfl rfl rfl ?_
      refine S_pt rfl rfl ?_
      refine S_as rfl ?_
      refine S_nil (hK2 _ _ (V_keep [6] (by simp only [proj, lk, reduceIte, Nat.reduceEqDiff]; rfl) ?_)); clear hK2
      refine V_ret ?_
      refine hR _ _ (ret1 rfl rfl ?_)
      exact ⟨by rw [hN, hn]; simp, hEh1.trans hEh2⟩
    · skip
      exfalso; omega
  · skip
    exfalso; exact g71 hp
set_option maxHeartbeats 400000 in
theorem due_spec (h : Heap) (s : TS) (hs : OK s) (k oa ob oc : Int) (os ot : ByteArray) :
    FC Try.prog 35 (#[.agg #[.int .i64 (s.p : Int), .int .i64 (s.n : Int), .string (txt s.N s.n)], .agg #[.int .i64 k, .int .i64 oa, .int .i64 ob, .int .i64 oc, .string os, .string ot]] : Array Value) h fun v h' => v = .int .i64 ((dueF s k oa ob os : Nat) : Int) ∧ Ext (fun _ => False) h h' := by
  have ok2 := hs.2.1
  have ok3 := hs.2.2
  refine FC_of [(0, .agg #[.int .i64 (s.p : Int), .int .i64 (s.n : Int), .string (txt s.N s.n)]), (1, .agg #[.int .i64 k, .int .i64 oa, .int .i64 ob, .int .i64 oc, .string os, .string ot])] Try.func35 rfl Try.ntmps35 (by simp) rfl (fun R hR => ?_)
  refine V_sr T.mix (by kernel_rfl) (fun K1 hK1 => ?_)
  refine S_boxA rfl ?_
  generalize hh : Array.push h _ = h1
  have hA : B h1 h.size #[.int .i64 (s.p : Int), .int .i64 (s.n : Int), .string (txt s.N s.n)] 38 := by rw [← hh]; exact B.new _ _ _
  have hEh1 : Ext (fun _ => False) h h1 := by rw [← hh]; exact Ext.push _ _ _
  clear hh
  refine S_boxA rfl ?_
  generalize hh : Array.push h1 _ = h2
  have hO : B h2 h1.size #[.int .i64 k, .int .i64 oa, .int .i64 ob, .int .i64 oc, .string os, .string ot] 36 := by rw [← hh]; exact B.new _ _ _
  have hEh2 : Ext (fun _ => False) h1 h2 := by rw [← hh]; exact Ext.push _ _ _
  clear hh
  replace hA := hA.ext hEh2 (fun f => f)
  have hE := hEh1.trans hEh2
  have hA0 : cellH h2 ⟨h.size, 0, none⟩ = some (.int .i64 (s.p : Int)) := hA.cell 0
  have hA1 : cellH h2 ⟨h.size, 1, none⟩ = some (.int .i64 (s.n : Int)) := hA.cell 1
  have hA2 : cellH h2 ⟨h.size, 2, none⟩ = some (.string (txt s.N s.n)) := hA.cell 2
  have hO0 : cellH h2 ⟨h1.size, 0, none⟩ = some (.int .i64 k) := hO.cell 0
  have hO1 : cellH h2 ⟨h1.size, 1, none⟩ = some (.int .i64 oa) := hO.cell 1
  have hO2 : cellH h2 ⟨h1.size, 2, none⟩ = some (.int .i64 ob) := hO.cell 2
  have hO4 : cellH h2 ⟨h1.size, 4, none⟩ = some (.string os) := hO.cell 4
  refine S_as rfl ?_
  refine S_nil (hK1 _ _ (V_keep [2, 3] (by simp only [proj, lk, reduceIte, Nat.reduceEqDiff]; rfl) ?_)); clear hK1
  refine V_seq (fun K2 hK2 => ?_)
  refine V_sr T.mix (by kernel_rfl) (fun K3 hK3 => ?_)
  first | refine S_fa0 T.f36_0 rfl ?_ | refine S_fa T.f36_0 rfl ?_
  refine S_ldK T.ag3 rfl (fun K' hK' => ?_)
  simp (disch := omega) only [hA0, hA1, hA2, hO0, hO1, hO2, hO4, oP_some, Nat.add_zero]
  refine hK' _ ?_; clear hK' K'
  refine S_nil (hK3 _ _ (V_keep [2, 3, 6] (by simp only [proj, lk, reduceIte, Nat.reduceEqDiff]; rfl) ?_)); clear hK3
  refine V_block ?_
  refine V_sr T.mix (by kernel_rfl) (fun K4 hK4 => ?_)
  refine S_bin rfl rfl rfl ?_
  refine S_as rfl ?_
  refine S_nil (hK4 _ _ (V_keep [2, 3, 6, 7] (by simp only [proj, lk, reduceIte, Nat.reduceEqDiff]; rfl) ?_)); clear hK4
  refine V_condp rfl (fun c102 => ?_) (fun c102 => ?_)
  · skip
    refine V_sr T.mix (by kernel_rfl) (fun K5 hK5 => ?_)
    first | refine S_fa0 T.f36_4 rfl ?_ | refine S_fa T.f36_4 rfl ?_
    refine S_ldK T.ag9 rfl (fun K' hK' => ?_)
    simp (disch := omega) only [hA0, hA1, hA2, hO0, hO1, hO2, hO4, oP_some, Nat.add_zero]
    refine hK' _ ?_; clear hK' K'
    refine S_lens T.kd9 rfl ?_
    refine S_bin rfl rfl rfl ?_
    refine S_nil (hK5 _ _ (V_keep [12] (by simp only [proj, lk, reduceIte, Nat.reduceEqDiff]; rfl) ?_)); clear hK5
    refine V_condp rfl (fun c103 => ?_) (fun c103 => ?_)
    · skip
      refine V_sr T.mix (by kernel_rfl) (fun K6 hK6 => ?_)
      refine S_as rfl ?_
      refine S_nil (hK6 _ _ (V_keep [4] (by simp only [proj, lk, reduceIte, Nat.reduceEqDiff]; rfl) ?_)); clear hK6
      refine V_ret ?_
      refine hR _ _ (ret1 rfl rfl ?_)
      refine ⟨congrArg (Value.int .i64) ?_, hE⟩
      unfold dueF loadE putE skipE
      (repeat' split) <;> omega
    · skip
      refine V_skipk [] (by simp only [proj, lk, reduceIte, Nat.reduceEqDiff]; rfl) ?_
      refine hK2 _ _ ?_; clear hK2
      refine V_sr T.mix (by kernel_rfl) (fun K7 hK7 => ?_)
      refine S_as rfl ?_
      refine S_nil (hK7 _ _ (V_keep [4] (by simp only [proj, lk, reduceIte, Nat.reduceEqDiff]; rfl) ?_)); clear hK7
      refine V_ret ?_
      refine hR _ _ (ret1 rfl rfl ?_)
      refine ⟨congrArg (Value.int .i64) ?_, hE⟩
      unfold dueF loadE putE skipE
      (repeat' split) <;> omega
  · skip
    refine V_sr T.mix (by kernel_rfl) (fun K8 hK8 => ?_)
    refine S_bin rfl rfl rfl ?_
    refine S_as rfl ?_
    refine S_nil (hK8 _ _ (V_keep [2, 3, 6, 13] (by simp only [proj, lk, reduceIte, Nat.reduceEqDiff]; rfl) ?_)); clear hK8
    refine V_condp rfl (fun c106 => ?_) (fun c106 => ?_)
    · skip
      refine V_seq (fun K9 hK9 => ?_)
      refine V_sr T.mix (by kernel_rfl) (fun K10 hK10 => ?_)
      first | refine S_fa0 T.f36_2 rfl ?_ | refine S_fa T.f36_2 rfl ?_
      refine S_ldK T.ag3 rfl (fun K' hK' => ?_)
      simp (disch := omega) only [hA0, hA1, hA2, hO0, hO1, hO2, hO4, oP_some, Nat.add_zero]
      refine hK' _ ?_; clear hK' K'
      refine S_bin rfl rfl rfl ?_
      refine S_mv rfl ?_
      refine S_dec (fun g107 => ?_) (fun g107 => ?_)
      · skip
        refine S_gf rfl ?_
        refine S_gf rfl ?_
        refine S_gf rfl ?_
        refine S_pt rfl rfl ?_
        refine S_mv rfl ?_
        refine S_gf rfl ?_
        refine S_gf rfl ?_
        refine S_gf rfl ?_
        refine S_pt rfl rfl ?_
        refine S_mv rfl ?_
        refine S_gf rfl ?_
        refine S_gf rfl ?_
        refine S_gf rfl ?_
        refine S_gf rfl ?_
        refine S_gf rfl ?_
        refine S_gf rfl ?_
        refine S_gf rfl ?_
        refine S_pt rfl rfl ?_
        refine S_nil (hK10 _ _ (V_keep [2, 3, 36] (by simp only [proj, lk, reduceIte, Nat.reduceEqDiff]; rfl) ?_)); clear hK10
        refine V_condt rfl ?_
        refine V_sr T.mix (by kernel_rfl) (fun K11 hK11 => ?_)
        refine S_as rfl ?_
        refine S_nil (hK11 _ _ (V_keep [4] (by simp only [proj, lk, reduceIte, Nat.reduceEqDiff]; rfl) ?_)); clear hK11
        refine V_ret ?_
        refine hR _ _ (ret1 rfl rfl ?_)
        refine ⟨congrArg (Value.int .i64) ?_, hE⟩
        unfold dueF loadE putE skipE
        (repeat' split) <;> omega
      · skip
        refine S_gt rfl ?_
        first | refine S_fa0 T.f36_2 rfl ?_ | refine S_fa T.f36_2 rfl ?_
        refine S_gt rfl ?_
        refine S_ldK T.ag3 rfl (fun K' hK' => ?_)
        simp (disch := omega) only [hA0, hA1, hA2, hO0, hO1, hO2, hO4, oP_some, Nat.add_zero]
        refine hK' _ ?_; clear hK' K'
        refine S_gt rfl ?_
        refine S_bin rfl rfl rfl ?_
        refine S_pf rfl rfl ?_
        refine S_mv rfl ?_
        refine S_dec (fun g107a => ?_) (fun g107a => ?_)
        · skip
          refine S_gf rfl ?_
          refine S_gf rfl ?_
          refine S_gf rfl ?_
          refine S_pt rfl rfl ?_
          refine S_mv rfl ?_
          refine S_gf rfl ?_
          refine S_gf rfl ?_
          refine S_gf rfl ?_
          refine S_gf rfl ?_
          refine S_gf rfl ?_
          refine S_gf rfl ?_
          refine S_gf rfl ?_
          refine S_pt rfl rfl ?_
          refine S_nil (hK10 _ _ (V_keep [2, 3, 36] (by simp only [proj, lk, reduceIte, Nat.reduceEqDiff]; rfl) ?_)); clear hK10
          refine V_condt rfl ?_
          refine V_sr T.mix (by kernel_rfl) (fun K12 hK12 => ?_)
          refine S_as rfl ?_
          refine S_nil (hK12 _ _ (V_keep [4] (by simp only [proj, lk, reduceIte, Nat.reduceEqDiff]; rfl) ?_)); clear hK12
          refine V_ret ?_
          refine hR _ _ (ret1 rfl rfl ?_)
          refine ⟨congrArg (Value.int .i64) ?_, hE⟩
          unfold dueF loadE putE skipE
          (repeat' split) <;> omega
        · skip
          refine S_gt rfl ?_
          first | refine S_fa0 T.f36_1 rfl ?_ | refine S_fa T.f36_1 rfl ?_
          refine S_gt rfl ?_
          refine S_ldK T.ag3 rfl (fun K' hK' => ?_)
          simp (disch := omega) only [hA0, hA1, hA2, hO0, hO1, hO2, hO4, oP_some, Nat.add_zero]
          refine hK' _ ?_; clear hK' K'
          refine S_gt rfl ?_
          refine S_bin rfl rfl rfl ?_
          refine S_pf rfl rfl ?_
          refine S_mv rfl ?_
          refine S_dec (fun g107b => ?_) (fun g107b => ?_)
          · skip
            refine S_gf rfl ?_
            refine S_gf rfl ?_
            refine S_gf rfl ?_
            refine S_gf rfl ?_
            refine S_gf rfl ?_
            refine S_gf rfl ?_
            refine S_gf rfl ?_
            refine S_pt rfl rfl ?_
            refine S_nil (hK10 _ _ (V_keep [2, 3, 36] (by simp only [proj, lk, reduceIte, Nat.reduceEqDiff]; rfl) ?_)); clear hK10
            refine V_condt rfl ?_
            refine V_sr T.mix (by kernel_rfl) (fun K13 hK13 => ?_)
            refine S_as rfl ?_
            refine S_nil (hK13 _ _ (V_keep [4] (by simp only [proj, lk, reduceIte, Nat.reduceEqDiff]; rfl) ?_)); clear hK13
            refine V_ret ?_
            refine hR _ _ (ret1 rfl rfl ?_)
            refine ⟨congrArg (Value.int .i64) ?_, hE⟩
            unfold dueF loadE putE skipE
            (repeat' split) <;> omega
          · skip
            refine S_gt rfl ?_
            first | refine S_fa0 T.f36_1 rfl ?_ | refine S_fa T.f36_1 rfl ?_
            refine S_gt rfl ?_
            refine S_ldK T.ag3 rfl (fun K' hK' => ?_)
            simp (disch := omega) only [hA0, hA1, hA2, hO0, hO1, hO2, hO4, oP_some, Nat.add_zero]
            refine hK' _ ?_; clear hK' K'
            refine S_gt rfl ?_
            first | refine S_fa0 T.f36_2 rfl ?_ | refine S_fa T.f36_2 rfl ?_
            refine S_gt rfl ?_
            refine S_ldK T.ag3 rfl (fun K' hK' => ?_)
            simp (disch := omega) only [hA0, hA1, hA2, hO0, hO1, hO2, hO4, oP_some, Nat.add_zero]
            refine hK' _ ?_; clear hK' K'
            refine S_gt rfl ?_
            first | refine S_cvn T.us3 T.in66 rfl rfl (by first | omega | (simp only [IntKind.bits]; omega)) ?_ | refine S_cvu T.us3 T.in66 rfl (by omega) (by omega) ?_ | refine S_cv T.us3 T.in66 rfl ?_
            refine S_gt rfl ?_
            have hq1 : 2 ^ ob.toNat ≤ 2 ^ 16 := Nat.pow_le_pow_right (by omega) (by omega)
            refine S_nshl 1 ob.toNat (2 ^ ob.toNat) rfl rfl rfl (by omega) (Nat.one_mul _) (show ob.toNat ≤ 64 by omega) (top_i64 (by omega)) ?_
            refine S_gt rfl ?_
            refine S_bin rfl rfl rfl ?_
            refine S_pf rfl rfl ?_
            refine S_nil (hK10 _ _ (V_keep [2, 3, 36] (by simp only [proj, lk, reduceIte, Nat.reduceEqDiff]; rfl) ?_)); clear hK10
            refine V_condp rfl (fun c107 => ?_) (fun c107 => ?_)
            · skip
              refine V_sr T.mix (by kernel_rfl) (fun K14 hK14 => ?_)
              refine S_as rfl ?_
              refine S_nil (hK14 _ _ (V_keep [4] (by simp only [proj, lk, reduceIte, Nat.reduceEqDiff]; rfl) ?_)); clear hK14
              refine V_ret ?_
              refine hR _ _ (ret1 rfl rfl ?_)
              refine ⟨congrArg (Value.int .i64) ?_, hE⟩
              unfold dueF loadE putE skipE
              (repeat' split) <;> omega
            · skip
              refine V_skipk [2, 3] (by simp only [proj, lk, reduceIte, Nat.reduceEqDiff]; rfl) ?_
              refine hK9 _ _ ?_; clear hK9
              refine V_sr T.mix (by kernel_rfl) (fun K15 hK15 => ?_)
              first | refine S_fa0 T.f38_1 rfl ?_ | refine S_fa T.f38_1 rfl ?_
              refine S_ldK T.ag3 rfl (fun K' hK' => ?_)
              simp (disch := omega) only [hA0, hA1, hA2, hO0, hO1, hO2, hO4, oP_some, Nat.add_zero]
              refine hK' _ ?_; clear hK' K'
              first | refine S_fa0 T.f36_2 rfl ?_ | refine S_fa T.f36_2 rfl ?_
              refine S_ldK T.ag3 rfl (fun K' hK' => ?_)
              simp (disch := omega) only [hA0, hA1, hA2, hO0, hO1, hO2, hO4, oP_some, Nat.add_zero]
              refine hK' _ ?_; clear hK' K'
              first | refine S_add rfl rfl (by omega) (by omega) ?_ | refine S_bin rfl rfl rfl ?_
              refine S_bin rfl rfl rfl ?_
              refine S_nil (hK15 _ _ (V_keep [42] (by simp only [proj, lk, reduceIte, Nat.reduceEqDiff]; rfl) ?_)); clear hK15
              refine V_condp rfl (fun c110 => ?_) (fun c110 => ?_)
              · skip
                refine V_sr T.mix (by kernel_rfl) (fun K16 hK16 => ?_)
                refine S_as rfl ?_
                refine S_nil (hK16 _ _ (V_keep [4] (by simp only [proj, lk, reduceIte, Nat.reduceEqDiff]; rfl) ?_)); clear hK16
                refine V_ret ?_
                refine hR _ _ (ret1 rfl rfl ?_)
                refine ⟨congrArg (Value.int .i64) ?_, hE⟩
                unfold dueF loadE putE skipE
                (repeat' split) <;> omega
              · skip
                refine V_skipk [] (by simp only [proj, lk, reduceIte, Nat.reduceEqDiff]; rfl) ?_
                refine hK2 _ _ ?_; clear hK2
                refine V_sr T.mix (by kernel_rfl) (fun K17 hK17 => ?_)
                refine S_as rfl ?_
                refine S_nil (hK17 _ _ (V_keep [4] (by simp only [proj, lk, reduceIte, Nat.reduceEqDiff]; rfl) ?_)); clear hK17
                refine V_ret ?_
                refine hR _ _ (ret1 rfl rfl ?_)
                refine ⟨congrArg (Value.int .i64) ?_, hE⟩
                unfold dueF loadE putE skipE
                (repeat' split) <;> omega
    · skip
      refine V_seq (fun K18 hK18 => ?_)
      refine V_sr T.mix (by kernel_rfl) (fun K19 hK19 => ?_)
      refine S_bin rfl rfl rfl ?_
      refine S_as rfl ?_
      refine S_nil (hK19 _ _ (V_keep [2, 3, 6, 43] (by simp only [proj, lk, reduceIte, Nat.reduceEqDiff]; rfl) ?_)); clear hK19
      refine V_condp rfl (fun c113 => ?_) (fun c113 => ?_)
      · skip
        refine V_skipk [2, 3, 43] (by simp only [proj, lk, reduceIte, Nat.reduceEqDiff]; rfl) ?_
        refine hK18 _ _ ?_; clear hK18
        refine V_condp rfl (fun c113a => ?_) (fun c113a => ?_)
        · skip
          refine V_seq (fun K20 hK20 => ?_)
          refine V_sr T.mix (by kernel_rfl) (fun K21 hK21 => ?_)
          first | refine S_fa0 T.f36_1 rfl ?_ | refine S_fa T.f36_1 rfl ?_
          refine S_ldK T.ag3 rfl (fun K' hK' => ?_)
          simp (disch := omega) only [hA0, hA1, hA2, hO0, hO1, hO2, hO4, oP_some, Nat.add_zero]
          refine hK' _ ?_; clear hK' K'
          refine S_bin rfl rfl rfl ?_
          refine S_mv rfl ?_
          refine S_dec (fun g114 => ?_) (fun g114 => ?_)
          · skip
            refine S_gf rfl ?_
            refine S_gf rfl ?_
            refine S_gf rfl ?_
            refine S_pt rfl rfl ?_
            refine S_nil (hK21 _ _ (V_keep [2, 3, 53] (by simp only [proj, lk, reduceIte, Nat.reduceEqDiff]; rfl) ?_)); clear hK21
            refine V_condt rfl ?_
            refine V_sr T.mix (by kernel_rfl) (fun K22 hK22 => ?_)
            refine S_as rfl ?_
            refine S_nil (hK22 _ _ (V_keep [4] (by simp only [proj, lk, reduceIte, Nat.reduceEqDiff]; rfl) ?_)); clear hK22
            refine V_ret ?_
            refine hR _ _ (ret1 rfl rfl ?_)
            refine ⟨congrArg (Value.int .i64) ?_, hE⟩
            unfold dueF loadE putE skipE
            (repeat' split) <;> omega
          · skip
            refine S_gt rfl ?_
            first | refine S_fa0 T.f36_1 rfl ?_ | refine S_fa T.f36_1 rfl ?_
            refine S_gt rfl ?_
            refine S_ldK T.ag3 rfl (fun K' hK' => ?_)
            simp (disch := omega) only [hA0, hA1, hA2, hO0, hO1, hO2, hO4, oP_some, Nat.add_zero]
            refine hK' _ ?_; clear hK' K'
            refine S_gt rfl ?_
            refine S_bin rfl rfl rfl ?_
            refine S_pf rfl rfl ?_
            refine S_nil (hK21 _ _ (V_keep [2, 3, 53] (by simp only [proj, lk, reduceIte, Nat.reduceEqDiff]; rfl) ?_)); clear hK21
            refine V_condp rfl (fun c114 => ?_) (fun c114 => ?_)
            · skip
              refine V_sr T.mix (by kernel_rfl) (fun K23 hK23 => ?_)
              refine S_as rfl ?_
              refine S_nil (hK23 _ _ (V_keep [4] (by simp only [proj, lk, reduceIte, Nat.reduceEqDiff]; rfl) ?_)); clear hK23
              refine V_ret ?_
              refine hR _ _ (ret1 rfl rfl ?_)
              refine ⟨congrArg (Value.int .i64) ?_, hE⟩
              unfold dueF loadE putE skipE
              (repeat' split) <;> omega
            · skip
              refine V_skipk [2, 3] (by simp only [proj, lk, reduceIte, Nat.reduceEqDiff]; rfl) ?_
              refine hK20 _ _ ?_; clear hK20
              refine V_sr T.mix (by kernel_rfl) (fun K24 hK24 => ?_)
              first | refine S_fa0 T.f38_1 rfl ?_ | refine S_fa T.f38_1 rfl ?_
              refine S_ldK T.ag3 rfl (fun K' hK' => ?_)
              simp (disch := omega) only [hA0, hA1, hA2, hO0, hO1, hO2, hO4, oP_some, Nat.add_zero]
              refine hK' _ ?_; clear hK' K'
              first | refine S_fa0 T.f38_0 rfl ?_ | refine S_fa T.f38_0 rfl ?_
              refine S_ldK T.ag3 rfl (fun K' hK' => ?_)
              simp (disch := omega) only [hA0, hA1, hA2, hO0, hO1, hO2, hO4, oP_some, Nat.add_zero]
              refine hK' _ ?_; clear hK' K'
              first | refine S_sub rfl rfl (by omega) (by omega) ?_ | refine S_bin rfl rfl rfl ?_
              first | refine S_fa0 T.f36_1 rfl ?_ | refine S_fa T.f36_1 rfl ?_
              refine S_ldK T.ag3 rfl (fun K' hK' => ?_)
              simp (disch := omega) only [hA0, hA1, hA2, hO0, hO1, hO2, hO4, oP_some, Nat.add_zero]
              refine hK' _ ?_; clear hK' K'
              refine S_bin rfl rfl rfl ?_
              refine S_nil (hK24 _ _ (V_keep [61] (by simp only [proj, lk, reduceIte, Nat.reduceEqDiff]; rfl) ?_)); clear hK24
              refine V_condp rfl (fun c117 => ?_) (fun c117 => ?_)
              · skip
                refine V_sr T.mix (by kernel_rfl) (fun K25 hK25 => ?_)
                refine S_as rfl ?_
                refine S_nil (hK25 _ _ (V_keep [4] (by simp only [proj, lk, reduceIte, Nat.reduceEqDiff]; rfl) ?_)); clear hK25
                refine V_ret ?_
                refine hR _ _ (ret1 rfl rfl ?_)
                refine ⟨congrArg (Value.int .i64) ?_, hE⟩
                unfold dueF loadE putE skipE
                (repeat' split) <;> omega
              · skip
                refine V_skipk [] (by simp only [proj, lk, reduceIte, Nat.reduceEqDiff]; rfl) ?_
                refine hK2 _ _ ?_; clear hK2
                refine V_sr T.mix (by kernel_rfl) (fun K26 hK26 => ?_)
                refine S_as rfl ?_
                refine S_nil (hK26 _ _ (V_keep [4] (by simp only [proj, lk, reduceIte, Nat.reduceEqDiff]; rfl) ?_)); clear hK26
                refine V_ret ?_
                refine hR _ _ (ret1 rfl rfl ?_)
                refine ⟨congrArg (Value.int .i64) ?_, hE⟩
                unfold dueF loadE putE skipE
                (repeat' split) <;> omega
        · skip
          refine V_skipk [] (by simp only [proj, lk, reduceIte, Nat.reduceEqDiff]; rfl) ?_
          refine hK2 _ _ ?_; clear hK2
          refine V_sr T.mix (by kernel_rfl) (fun K27 hK27 => ?_)
          refine S_as rfl ?_
          refine S_nil (hK27 _ _ (V_keep [4] (by simp only [proj, lk, reduceIte, Nat.reduceEqDiff]; rfl) ?_)); clear hK27
          refine V_ret ?_
          refine hR _ _ (ret1 rfl rfl ?_)
          refine ⟨congrArg (Value.int .i64) ?_, hE⟩
          unfold dueF loadE putE skipE
          (repeat' split) <;> omega
      · skip
        refine V_reg T.mix (by kernel_rfl) ?_
        refine S_bin rfl rfl rfl ?_
        refine S_as rfl ?_
        refine S_nilk [2, 3, 43] (by simp only [proj, lk, reduceIte, Nat.reduceEqDiff]; rfl) ?_
        refine hK18 _ _ ?_; clear hK18
        refine V_condp rfl (fun c113b => ?_) (fun c113b => ?_)
        · skip
          refine V_seq (fun K28 hK28 => ?_)
          refine V_sr T.mix (by kernel_rfl) (fun K29 hK29 => ?_)
          first | refine S_fa0 T.f36_1 rfl ?_ | refine S_fa T.f36_1 rfl ?_
          refine S_ldK T.ag3 rfl (fun K' hK' => ?_)
          simp (disch := omega) only [hA0, hA1, hA2, hO0, hO1, hO2, hO4, oP_some, Nat.add_zero]
          refine hK' _ ?_; clear hK' K'
          refine S_bin rfl rfl rfl ?_
          refine S_mv rfl ?_
          refine S_dec (fun g114a => ?_) (fun g114a => ?_)
          · skip
            refine S_gf rfl ?_
            refine S_gf rfl ?_
            refine S_gf rfl ?_
            refine S_pt rfl rfl ?_
            refine S_nil (hK29 _ _ (V_keep [2, 3, 53] (by simp only [proj, lk, reduceIte, Nat.reduceEqDiff]; rfl) ?_)); clear hK29
            refine V_condt rfl ?_
            refine V_sr T.mix (by kernel_rfl) (fun K30 hK30 => ?_)
            refine S_as rfl ?_
            refine S_nil (hK30 _ _ (V_keep [4] (by simp only [proj, lk, reduceIte, Nat.reduceEqDiff]; rfl) ?_)); clear hK30
            refine V_ret ?_
            refine hR _ _ (ret1 rfl rfl ?_)
            refine ⟨congrArg (Value.int .i64) ?_, hE⟩
            unfold dueF loadE putE skipE
            (repeat' split) <;> omega
          · skip
            refine S_gt rfl ?_
            first | refine S_fa0 T.f36_1 rfl ?_ | refine S_fa T.f36_1 rfl ?_
            refine S_gt rfl ?_
            refine S_ldK T.ag3 rfl (fun K' hK' => ?_)
            simp (disch := omega) only [hA0, hA1, hA2, hO0, hO1, hO2, hO4, oP_some, Nat.add_zero]
            refine hK' _ ?_; clear hK' K'
            refine S_gt rfl ?_
            refine S_bin rfl rfl rfl ?_
            refine S_pf rfl rfl ?_
            refine S_nil (hK29 _ _ (V_keep [2, 3, 53] (by simp only [proj, lk, reduceIte, Nat.reduceEqDiff]; rfl) ?_)); clear hK29
            refine V_condp rfl (fun c114a => ?_) (fun c114a => ?_)
            · skip
              refine V_sr T.mix (by kernel_rfl) (fun K31 hK31 => ?_)
              refine S_as rfl ?_
              refine S_nil (hK31 _ _ (V_keep [4] (by simp only [proj, lk, reduceIte, Nat.reduceEqDiff]; rfl) ?_)); clear hK31
              refine V_ret ?_
              refine hR _ _ (ret1 rfl rfl ?_)
              refine ⟨congrArg (Value.int .i64) ?_, hE⟩
              unfold dueF loadE putE skipE
              (repeat' split) <;> omega
            · skip
              refine V_skipk [2, 3] (by simp only [proj, lk, reduceIte, Nat.reduceEqDiff]; rfl) ?_
              refine hK28 _ _ ?_; clear hK28
              refine V_sr T.mix (by kernel_rfl) (fun K32 hK32 => ?_)
              first | refine S_fa0 T.f38_1 rfl ?_ | refine S_fa T.f38_1 rfl ?_
              refine S_ldK T.ag3 rfl (fun K' hK' => ?_)
              simp (disch := omega) only [hA0, hA1, hA2, hO0, hO1, hO2, hO4, oP_some, Nat.add_zero]
              refine hK' _ ?_; clear hK' K'
              first | refine S_fa0 T.f38_0 rfl ?_ | refine S_fa T.f38_0 rfl ?_
              refine S_ldK T.ag3 rfl (fun K' hK' => ?_)
              simp (disch := omega) only [hA0, hA1, hA2, hO0, hO1, hO2, hO4, oP_some, Nat.add_zero]
              refine hK' _ ?_; clear hK' K'
              first | refine S_sub rfl rfl (by omega) (by omega) ?_ | refine S_bin rfl rfl rfl ?_
              first | refine S_fa0 T.f36_1 rfl ?_ | refine S_fa T.f36_1 rfl ?_
              refine S_ldK T.ag3 rfl (fun K' hK' => ?_)
              simp (disch := omega) only [hA0, hA1, hA2, hO0, hO1, hO2, hO4, oP_some, Nat.add_zero]
              refine hK' _ ?_; clear hK' K'
              refine S_bin rfl rfl rfl ?_
              refine S_nil (hK32 _ _ (V_keep [61] (by simp only [proj, lk, reduceIte, Nat.reduceEqDiff]; rfl) ?_)); clear hK32
              refine V_condp rfl (fun c117a => ?_) (fun c117a => ?_)
              · skip
                refine V_sr T.mix (by kernel_rfl) (fun K33 hK33 => ?_)
                refine S_as rfl ?_
                refine S_nil (hK33 _ _ (V_keep [4] (by simp only [proj, lk, reduceIte, Nat.reduceEqDiff]; rfl) ?_)); clear hK33
                refine V_ret ?_
                refine hR _ _ (ret1 rfl rfl ?_)
                refine ⟨congrArg (Value.int .i64) ?_, hE⟩
                unfold dueF loadE putE skipE
                (repeat' split) <;> omega
              · skip
                refine V_skipk [] (by simp only [proj, lk, reduceIte, Nat.reduceEqDiff]; rfl) ?_
                refine hK2 _ _ ?_; clear hK2
                refine V_sr T.mix (by kernel_rfl) (fun K34 hK34 => ?_)
                refine S_as rfl ?_
                refine S_nil (hK34 _ _ (V_keep [4] (by simp only [proj, lk, reduceIte, Nat.reduceEqDiff]; rfl) ?_)); clear hK34
                refine V_ret ?_
                refine hR _ _ (ret1 rfl rfl ?_)
                refine ⟨congrArg (Value.int .i64) ?_, hE⟩
                unfold dueF loadE putE skipE
                (repeat' split) <;> omega
        · skip
          refine V_skipk [] (by simp only [proj, lk, reduceIte, Nat.reduceEqDiff]; rfl) ?_
          refine hK2 _ _ ?_; clear hK2
          refine V_sr T.mix (by kernel_rfl) (fun K35 hK35 => ?_)
          refine S_as rfl ?_
          refine S_nil (hK35 _ _ (V_keep [4] (by simp only [proj, lk, reduceIte, Nat.reduceEqDiff]; rfl) ?_)); clear hK35
          refine V_ret ?_
          refine hR _ _ (ret1 rfl rfl ?_)
          refine ⟨congrArg (Value.int .i64) ?_, hE⟩
          unfold dueF loadE putE skipE
          (repeat' split) <;> omega
end Go.Proofs.Qxb6500405a
