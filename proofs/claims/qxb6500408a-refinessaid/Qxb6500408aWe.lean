import Derived.Test.Qxb6500408aDk
set_option linter.unusedVariables false
set_option linter.unusedSimpArgs false
namespace Go.Proofs.Qxb6500408a
open Go.Eng Go.Lz
set_option maxHeartbeats 400000 in
theorem same_spec (h : Heap) (ts : List Tok) (a b : Option Addr × Nat) (ha : Ans h a ts) (hb : Ans h b ts) (hl : ts.length ≤ 256) :
    FC Try.prog 22 (#[.slice a.1 a.2 a.2, .slice b.1 b.2 b.2] : Array Value) h fun v h' => v = .bool true ∧ h = h' := by
  have l1 := ha.len
  have l2 := hb.len
  obtain ⟨a, na⟩ := a
  obtain ⟨b, nb⟩ := b
  simp only at l1 l2 ⊢
  subst l1; subst l2
  refine FC_of [(0, .slice a ts.length ts.length), (1, .slice b ts.length ts.length)] Try.func22 rfl Try.ntmps22 (by simp) rfl (fun R hR => ?_)
  refine V_sr T.mix (by kernel_rfl) (fun K1 hK1 => ?_)
  refine S_as rfl ?_
  refine S_nil (hK1 _ _ (V_keep [0, 1] (by simp only [proj, lk, reduceIte, Nat.reduceEqDiff]; rfl) ?_)); clear hK1
  refine V_seq (fun K2 hK2 => ?_)
  refine V_sr T.mix (by kernel_rfl) (fun K3 hK3 => ?_)
  refine S_mv rfl ?_
  refine S_lenl T.el32 rfl ?_
  refine S_mv rfl ?_
  refine S_lenl T.el32 rfl ?_
  refine S_bin rfl rfl rfl ?_
  refine S_nil (hK3 _ _ (V_keep [0, 1, 10] (by simp only [proj, lk, reduceIte, Nat.reduceEqDiff]; rfl) ?_)); clear hK3
  refine V_condp rfl (fun c48 => ?_) (fun c48 => ?_)
  · skip
    exfalso; omega
  · skip
    refine V_skipk [0, 1] (by simp only [proj, lk, reduceIte, Nat.reduceEqDiff]; rfl) ?_
    refine hK2 _ _ ?_; clear hK2
    refine V_seq (fun K4 hK4 => ?_)
    refine V_sr T.mix (by kernel_rfl) (fun K5 hK5 => ?_)
    refine S_as rfl ?_
    refine S_nil (hK5 _ _ (V_keep [0, 1, 5] (by simp only [proj, lk, reduceIte, Nat.reduceEqDiff]; rfl) ?_)); clear hK5
    refine V_block ?_
    refine V_loop (fun m l h' => ∃ (i : Nat), (i ≤ ts.length) ∧ m = ts.length - i ∧ l = [(0, .slice a ts.length ts.length), (1, .slice b ts.length ts.length), (5, .int .i64 i)] ∧ h = h') _ ⟨0, by omega, rfl, rfl, rfl⟩ ?_
    rintro m l h' ⟨i, hi, rfl, rfl, rfl⟩ K6 hK6
    refine V_seq (fun K7 hK7 => ?_)
    refine V_sr T.mix (by kernel_rfl) (fun K8 hK8 => ?_)
    refine S_mv rfl ?_
    refine S_mv rfl ?_
    refine S_lenl T.el32 rfl ?_
    refine S_bin rfl rfl rfl ?_
    refine S_nil (hK8 _ _ (V_keep [0, 1, 5, 14] (by simp only [proj, lk, reduceIte, Nat.reduceEqDiff]; rfl) ?_)); clear hK8
    refine V_condp rfl (fun c51 => ?_) (fun c51 => ?_)
    · skip
      have e1 : ∃ x, a = some ⟨x, 0, none⟩ ∧ TokB h x ts := by
        rcases ha with ⟨_, e⟩ | ⟨x, e, hx⟩
        · subst e; simp at c51; omega
        · simp at e; exact ⟨x, e, hx⟩
      have e2 : ∃ x, b = some ⟨x, 0, none⟩ ∧ TokB h x ts := by
        rcases hb with ⟨_, e⟩ | ⟨x, e, hx⟩
        · subst e; simp at c51; omega
        · simp at e; exact ⟨x, e, hx⟩
      obtain ⟨x1, rfl, hB1⟩ := e1
      obtain ⟨x2, rfl, hB2⟩ := e2
      unfold TokB at hB1 hB2
      refine V_skipk [0, 1, 5] (by simp only [proj, lk, reduceIte, Nat.reduceEqDiff]; rfl) ?_
      refine hK7 _ _ ?_; clear hK7
      refine V_seq (fun K9 hK9 => ?_)
      refine V_block ?_
      refine V_sr T.mix (by kernel_rfl) (fun K10 hK10 => ?_)
      refine S_mv rfl ?_
      refine S_mv rfl ?_
      first | refine S_ixmn T.el32 rfl rfl (by omega) ?_ | refine S_ixm T.el32 rfl rfl (by omega) (by omega) ?_ | refine S_ix T.el32 rfl rfl (by omega) (by omega) ?_
      first | refine S_fa0 T.f61_0 rfl ?_ | refine S_fa T.f61_0 rfl ?_
      refine S_ldK T.ag3 rfl (fun K' hK' => ?_)
      simp (disch := omega) only [hB1.cellA, hB2.cellA, oP_some, Nat.add_zero]
      refine hK' _ ?_; clear hK' K'
      refine S_mv rfl ?_
      refine S_mv rfl ?_
      first | refine S_ixmn T.el32 rfl rfl (by omega) ?_ | refine S_ixm T.el32 rfl rfl (by omega) (by omega) ?_ | refine S_ix T.el32 rfl rfl (by omega) (by omega) ?_
      first | refine S_fa0 T.f61_0 rfl ?_ | refine S_fa T.f61_0 rfl ?_
      refine S_ldK T.ag3 rfl (fun K' hK' => ?_)
      simp (disch := omega) only [hB1.cellA, hB2.cellA, oP_some, Nat.add_zero]
      refine hK' _ ?_; clear hK' K'
      refine S_bin rfl rfl rfl ?_
      refine S_mv rfl ?_
      refine S_dec (fun g52 => ?_) (fun g52 => ?_)
      · skip
        exfalso; exact g52 rfl
      · skip
        refine S_gt rfl ?_
        refine S_mv rfl ?_
        refine S_gt rfl ?_
        refine S_mv rfl ?_
        refine S_gt rfl ?_
        first | refine S_ixmn T.el32 rfl rfl (by omega) ?_ | refine S_ixm T.el32 rfl rfl (by omega) (by omega) ?_ | refine S_ix T.el32 rfl rfl (by omega) (by omega) ?_
        refine S_gt rfl ?_
        first | refine S_fa0 T.f61_1 rfl ?_ | refine S_fa T.f61_1 rfl ?_
        refine S_gt rfl ?_
        refine S_ldK T.ag3 rfl (fun K' hK' => ?_)
        simp (disch := omega) only [hB1.cellA, hB2.cellA, oP_some, Nat.add_zero]
        refine hK' _ ?_; clear hK' K'
        refine S_gt rfl ?_
        refine S_mv rfl ?_
        refine S_gt rfl ?_
        refine S_mv rfl ?_
        refine S_gt rfl ?_
        first | refine S_ixmn T.el32 rfl rfl (by omega) ?_ | refine S_ixm T.el32 rfl rfl (by omega) (by omega) ?_ | refine S_ix T.el32 rfl rfl (by omega) (by omega) ?_
        refine S_gt rfl ?_
        first | refine S_fa0 T.f61_1 rfl ?_ | refine S_fa T.f61_1 rfl ?_
        refine S_gt rfl ?_
        refine S_ldK T.ag3 rfl (fun K' hK' => ?_)
        simp (disch := omega) only [hB1.cellA, hB2.cellA, oP_some, Nat.add_zero]
        refine hK' _ ?_; clear hK' K'
        refine S_gt rfl ?_
        refine S_bin rfl rfl rfl ?_
        refine S_pf rfl rfl ?_
        refine S_mv rfl ?_
        refine S_dec (fun g52a => ?_) (fun g52a => ?_)
        · skip
          exfalso; exact g52a rfl
        · skip
          refine S_gt rfl ?_
          refine S_mv rfl ?_
          refine S_gt rfl ?_
          refine S_mv rfl ?_
          refine S_gt rfl ?_
          first | refine S_ixmn T.el32 rfl rfl (by omega) ?_ | refine S_ixm T.el32 rfl rfl (by omega) (by omega) ?_ | refine S_ix T.el32 rfl rfl (by omega) (by omega) ?_
          refine S_gt rfl ?_
          first | refine S_fa0 T.f61_2 rfl ?_ | refine S_fa T.f61_2 rfl ?_
          refine S_gt rfl ?_
          refine S_ldK T.ag3 rfl (fun K' hK' => ?_)
          simp (disch := omega) only [hB1.cellA, hB2.cellA, oP_some, Nat.add_zero]
          refine hK' _ ?_; clear hK' K'
          refine S_gt rfl ?_
          refine S_mv rfl ?_
          refine S_gt rfl ?_
          refine S_mv rfl ?_
          refine S_gt rfl ?_
          first | refine S_ixmn T.el32 rfl rfl (by omega) ?_ | refine S_ixm T.el32 rfl rfl (by omega) (by omega) ?_ | refine S_ix T.el32 rfl rfl (by omega) (by omega) ?_
          refine S_gt rfl ?_
          first | refine S_fa0 T.f61_2 rfl ?_ | refine S_fa T.f61_2 rfl ?_
          refine S_gt rfl ?_
          refine S_ldK T.ag3 rfl (fun K' hK' => ?_)
          simp (disch := omega) only [hB1.cellA, hB2.cellA, oP_some, Nat.add_zero]
          refine hK' _ ?_; clear hK' K'
          refine S_gt rfl ?_
          refine S_bin rfl rfl rfl ?_
          refine S_pf rfl rfl ?_
          refine S_nil (hK10 _ _ (V_keep [0, 1, 5, 53] (by simp only [proj, lk, reduceIte, Nat.reduceEqDiff]; rfl) ?_)); clear hK10
          refine V_condp rfl (fun c52 => ?_) (fun c52 => ?_)
          · skip
            exfalso; exact c52 rfl
          · skip
            refine V_skipk [0, 1, 5] (by simp only [proj, lk, reduceIte, Nat.reduceEqDiff]; rfl) ?_
            refine hK9 _ _ ?_; clear hK9
            refine V_reg T.mix (by kernel_rfl) ?_
            refine S_mv rfl ?_
            first | refine S_add rfl rfl (by omega) (by omega) ?_ | refine S_bin rfl rfl rfl ?_
            refine S_as rfl ?_
            refine S_nilk [0, 1, 5] (by simp only [proj, lk, reduceIte, Nat.reduceEqDiff]; rfl) ?_
            exact hK6 _ _ ⟨_, by omega, i + 1, by omega, rfl, rfl, rfl⟩
    · skip
      refine V_exitk [] rfl (by simp only [proj, lk, reduceIte, Nat.reduceEqDiff]; rfl) ?_
      refine hK4 _ _ ?_; clear hK4
      refine V_sr T.mix (by kernel_rfl) (fun K11 hK11 => ?_)
      refine S_as rfl ?_
      refine S_nil (hK11 _ _ (V_keep [4] (by simp only [proj, lk, reduceIte, Nat.reduceEqDiff]; rfl) ?_)); clear hK11
      refine V_ret ?_
      refine hR _ _ (ret1 rfl rfl ?_)
      exact ⟨rfl, rfl⟩
set_option maxHeartbeats 400000 in
theorem untouched_spec (h : Heap) (D : Nat) (no : Nat → Prop) (t : DS) (hD : Dk h D no t) :
    FC Try.prog 29 (#[.pointer (some ⟨D, 0, none⟩)] : Array Value) h fun v h' => v = .bool true ∧ h = h' := by
  refine FC_of [(0, .pointer (some ⟨D, 0, none⟩))] Try.func29 rfl Try.ntmps29 (by simp) rfl (fun R hR => ?_)
  refine V_sr T.mix (by kernel_rfl) (fun K1 hK1 => ?_)
  refine S_as rfl ?_
  refine S_nil (hK1 _ _ (V_keep [0] (by simp only [proj, lk, reduceIte, Nat.reduceEqDiff]; rfl) ?_)); clear hK1
  refine V_seq (fun K2 hK2 => ?_)
  refine V_sr T.mix (by kernel_rfl) (fun K3 hK3 => ?_)
  refine S_as rfl ?_
  refine S_nil (hK3 _ _ (V_keep [0, 3] (by simp only [proj, lk, reduceIte, Nat.reduceEqDiff]; rfl) ?_)); clear hK3
  refine V_block ?_
  refine V_loop (fun m l h' => ∃ (i : Nat), (i ≤ 4) ∧ m = 4 - i ∧ l = [(0, .pointer (some ⟨D, 0, none⟩)), (3, .int .i64 i)] ∧ h = h') _ ⟨0, by omega, rfl, rfl, rfl⟩ ?_
  rintro m l h' ⟨i, hi, rfl, rfl, rfl⟩ K4 hK4
  refine V_seq (fun K5 hK5 => ?_)
  refine V_sr T.mix (by kernel_rfl) (fun K6 hK6 => ?_)
  refine S_mv rfl ?_
  refine S_bin rfl rfl rfl ?_
  refine S_nil (hK6 _ _ (V_keep [0, 3, 8] (by simp only [proj, lk, reduceIte, Nat.reduceEqDiff]; rfl) ?_)); clear hK6
  refine V_condp rfl (fun c61 => ?_) (fun c61 => ?_)
  · skip
    refine V_skipk [0, 3] (by simp only [proj, lk, reduceIte, Nat.reduceEqDiff]; rfl) ?_
    refine hK5 _ _ ?_; clear hK5
    refine V_seq (fun K7 hK7 => ?_)
    refine V_block ?_
    refine V_sr T.mix (by kernel_rfl) (fun K8 hK8 => ?_)
    refine S_as rfl ?_
    refine S_nil (hK8 _ _ (V_keep [0, 3, 4] (by simp only [proj, lk, reduceIte, Nat.reduceEqDiff]; rfl) ?_)); clear hK8
    refine V_block ?_
    have hko : (t.old i).2 ≤ 256 := by
      rcases hD.old i (by omega) with e | ⟨x, n, e, _, _, hn⟩ <;> rw [e] <;> simp <;> omega
    refine V_loop (fun m l h' => ∃ (j : Nat), (j ≤ (t.old i).2) ∧ ((t.old i).2 ≤ 256) ∧ (i < 4) ∧ m = (t.old i).2 - j ∧ l = [(0, .pointer (some ⟨D, 0, none⟩)), (3, .int .i64 i), (4, .int .i64 j)] ∧ h = h') _ ⟨0, by omega, hko, by omega, rfl, rfl, rfl⟩ ?_
    rintro m l h' ⟨j, hj, hj2, hi4, rfl, rfl, rfl⟩ K9 hK9
    refine V_seq (fun K10 hK10 => ?_)
    refine V_sr T.mix (by kernel_rfl) (fun K11 hK11 => ?_)
    refine S_mv rfl ?_
    refine S_mv rfl ?_
    refine S_mv rfl ?_
    refine S_nc rfl ?_
    first | refine S_fa0 T.f35_4 rfl ?_ | refine S_fa T.f35_4 rfl ?_
    first | refine S_ixan T.ar33 rfl rfl (by omega) ?_ | refine S_ixa1 T.ar33 rfl rfl (by omega) (by omega) ?_
    refine S_ldK T.ag32 rfl (fun K' hK' => ?_)
    simp (disch := omega) only [hD.c0, hD.c1, hD.c2, hD.c3, hD.co, hD.c8, hD.c9, hD.c10, hD.c11, hD.c12, oP_some, Nat.add_zero]
    refine hK' _ ?_; clear hK' K'
    refine S_lenl T.el32 rfl ?_
    refine S_bin rfl rfl rfl ?_
    refine S_nil (hK11 _ _ (V_keep [0, 3, 4, 19] (by simp only [proj, lk, reduceIte, Nat.reduceEqDiff]; rfl) ?_)); clear hK11
    refine V_condp rfl (fun c62 => ?_) (fun c62 => ?_)
    · skip
      have ek : ∃ x n, t.old i = (some ⟨x, 0, none⟩, n) ∧ B h x (arr (n * 3) fun _ => .int .i64 (-7)) 61 ∧ n ≤ 256 := by
        rcases hD.old i (by omega) with e | ⟨x, n, e, hx, _, hn⟩
        · rw [e] at c62; simp at c62; omega
        · exact ⟨x, n, e, hx, hn⟩
      obtain ⟨x, n, ho, hbk, hn256⟩ := ek
      rw [ho] at c62
      simp only at c62
      refine V_skipk [0, 3, 4] (by simp only [proj, lk, reduceIte, Nat.reduceEqDiff]; rfl) ?_
      refine hK10 _ _ ?_; clear hK10
      refine V_seq (fun K12 hK12 => ?_)
      refine V_block ?_
      refine V_sr T.mix (by kernel_rfl) (fun K13 hK13 => ?_)
      refine S_mv rfl ?_
      refine S_mv rfl ?_
      refine S_nc rfl ?_
      first | refine S_fa0 T.f35_4 rfl ?_ | refine S_fa T.f35_4 rfl ?_
      first | refine S_ixan T.ar33 rfl rfl (by omega) ?_ | refine S_ixa1 T.ar33 rfl rfl (by omega) (by omega) ?_
      refine S_ldK T.ag32 rfl (fun K' hK' => ?_)
      simp (disch := omega) only [hD.c0, hD.c1, hD.c2, hD.c3, hD.co, hD.c8, hD.c9, hD.c10, hD.c11, hD.c12, ho, hbk.cellA, oP_some, Nat.add_zero]
      refine hK' _ ?_; clear hK' K'
      refine S_mv rfl ?_
      first | refine S_ixmn T.el32 rfl rfl (by omega) ?_ | refine S_ixm T.el32 rfl rfl (by omega) (by omega) ?_ | refine S_ix T.el32 rfl rfl (by omega) (by omega) ?_
      first | refine S_fa0 T.f61_0 rfl ?_ | refine S_fa T.f61_0 rfl ?_
      refine S_ldK T.ag3 rfl (fun K' hK' => ?_)
      simp (disch := omega) only [hD.c0, hD.c1, hD.c2, hD.c3, hD.co, hD.c8, hD.c9, hD.c10, hD.c11, hD.c12, ho, hbk.cellA, oP_some, Nat.add_zero]
      refine hK' _ ?_; clear hK' K'
      refine S_bin rfl rfl rfl ?_
      refine S_mv rfl ?_
      refine S_dec (fun g63 => ?_) (fun g63 => ?_)
      · skip
        exfalso; exact g63 rfl
      · skip
        refine S_gt rfl ?_
        refine S_mv rfl ?_
        refine S_gt rfl ?_
        refine S_mv rfl ?_
        refine S_gt rfl ?_
        refine S_nc rfl ?_
        refine S_gt rfl ?_
        first | refine S_fa0 T.f35_4 rfl ?_ | refine S_fa T.f35_4 rfl ?_
        refine S_gt rfl ?_
        first | refine S_ixan T.ar33 rfl rfl (by omega) ?_ | refine S_ixa1 T.ar33 rfl rfl (by omega) (by omega) ?_
        refine S_gt rfl ?_
        refine S_ldK T.ag32 rfl (fun K' hK' => ?_)
        simp (disch := omega) only [hD.c0, hD.c1, hD.c2, hD.c3, hD.co, hD.c8, hD.c9, hD.c10, hD.c11, hD.c12, ho, hbk.cellA, oP_some, Nat.add_zero]
        refine hK' _ ?_; clear hK' K'
        refine S_gt rfl ?_
        refine S_mv rfl ?_
        refine S_gt rfl ?_
        first | refine S_ixmn T.el32 rfl rfl (by omega) ?_ | refine S_ixm T.el32 rfl rfl (by omega) (by omega) ?_ | refine S_ix T.el32 rfl rfl (by omega) (by omega) ?_
        refine S_gt rfl ?_
        first | refine S_fa0 T.f61_1 rfl ?_ | refine S_fa T.f61_1 rfl ?_
        refine S_gt rfl ?_
        refine S_ldK T.ag3 rfl (fun K' hK' => ?_)
        simp (disch := omega) only [hD.c0, hD.c1, hD.c2, hD.c3, hD.co, hD.c8, hD.c9, hD.c10, hD.c11, hD.c12, ho, hbk.cellA, oP_some, Nat.add_zero]
        refine hK' _ ?_; clear hK' K'
        refine S_gt rfl ?_
        refine S_bin rfl rfl rfl ?_
        refine S_pf rfl rfl ?_
        refine S_mv rfl ?_
        refine S_dec (fun g63a => ?_) (fun g63a => ?_)
        · skip
          exfalso; exact g63a rfl
        · skip
          refine S_gt rfl ?_
          refine S_mv rfl ?_
          refine S_gt rfl ?_
          refine S_mv rfl ?_
          refine S_gt rfl ?_
          refine S_nc rfl ?_
          refine S_gt rfl ?_
          first | refine S_fa0 T.f35_4 rfl ?_ | refine S_fa T.f35_4 rfl ?_
          refine S_gt rfl ?_
          first | refine S_ixan T.ar33 rfl rfl (by omega) ?_ | refine S_ixa1 T.ar33 rfl rfl (by omega) (by omega) ?_
          refine S_gt rfl ?_
          refine S_ldK T.ag32 rfl (fun K' hK' => ?_)
          simp (disch := omega) only [hD.c0, hD.c1, hD.c2, hD.c3, hD.co, hD.c8, hD.c9, hD.c10, hD.c11, hD.c12, ho, hbk.cellA, oP_some, Nat.add_zero]
          refine hK' _ ?_; clear hK' K'
          refine S_gt rfl ?_
          refine S_mv rfl ?_
          refine S_gt rfl ?_
          first | refine S_ixmn T.el32 rfl rfl (by omega) ?_ | refine S_ixm T.el32 rfl rfl (by omega) (by omega) ?_ | refine S_ix T.el32 rfl rfl (by omega) (by omega) ?_
          refine S_gt rfl ?_
          first | refine S_fa0 T.f61_2 rfl ?_ | refine S_fa T.f61_2 rfl ?_
          refine S_gt rfl ?_
          refine S_ldK T.ag3 rfl (fun K' hK' => ?_)
          simp (disch := omega) only [hD.c0, hD.c1, hD.c2, hD.c3, hD.co, hD.c8, hD.c9, hD.c10, hD.c11, hD.c12, ho, hbk.cellA, oP_some, Nat.add_zero]
          refine hK' _ ?_; clear hK' K'
          refine S_gt rfl ?_
          refine S_bin rfl rfl rfl ?_
          refine S_pf rfl rfl ?_
          refine S_nil (hK13 _ _ (V_keep [0, 3, 4, 58] (by simp only [proj, lk, reduceIte, Nat.reduceEqDiff]; rfl) ?_)); clear hK13
          refine V_condp rfl (fun c63 => ?_) (fun c63 => ?_)
          · skip
            exfalso; exact c63 rfl
          · skip
            refine V_skipk [0, 3, 4] (by simp only [proj, lk, reduceIte, Nat.reduceEqDiff]; rfl) ?_
            refine hK12 _ _ ?_; clear hK12
            refine V_reg T.mix (by kernel_rfl) ?_
            refine S_mv rfl ?_
            first | refine S_add rfl rfl (by omega) (by omega) ?_ | refine S_bin rfl rfl rfl ?_
            refine S_as rfl ?_
            refine S_nilk [0, 3, 4] (by simp only [proj, lk, reduceIte, Nat.reduceEqDiff]; rfl) ?_
            exact hK9 _ _ ⟨_, by rw [ho]; simp only []; omega, j + 1, by rw [ho]; simp only []; omega, hj2, hi4, rfl, rfl, rfl⟩
    · skip
      refine V_exitk [0, 3] rfl (by simp only [proj, lk, reduceIte, Nat.reduceEqDiff]; rfl) ?_
      refine hK7 _ _ ?_; clear hK7
      refine V_reg T.mix (by kernel_rfl) ?_
      refine S_mv rfl ?_
      first | refine S_add rfl rfl (by omega) (by omega) ?_ | refine S_bin rfl rfl rfl ?_
      refine S_as rfl ?_
      refine S_nilk [0, 3] (by simp only [proj, lk, reduceIte, Nat.reduceEqDiff]; rfl) ?_
      exact hK4 _ _ ⟨_, by omega, i + 1, by omega, rfl, rfl, rfl⟩
  · skip
    refine V_exitk [0] rfl (by simp only [proj, lk, reduceIte, Nat.reduceEqDiff]; rfl) ?_
    refine hK2 _ _ ?_; clear hK2
    refine V_seq (fun K14 hK14 => ?_)
    refine V_sr T.mix (by kernel_rfl) (fun K15 hK15 => ?_)
    refine S_as rfl ?_
    refine S_nil (hK15 _ _ (V_keep [0, 5] (by simp only [proj, lk, reduceIte, Nat.reduceEqDiff]; rfl) ?_)); clear hK15
    refine V_block ?_
    have hko : t.far.2 ≤ 256 := by
      rcases hD.far with e | ⟨x, n, e, _, _, hn⟩ <;> rw [e] <;> simp <;> omega
    refine V_loop (fun m l h' => ∃ (j : Nat), (j ≤ t.far.2) ∧ (t.far.2 ≤ 256) ∧ m = t.far.2 - j ∧ l = [(0, .pointer (some ⟨D, 0, none⟩)), (5, .int .i64 j)] ∧ h = h') _ ⟨0, by omega, hko, rfl, rfl, rfl⟩ ?_
    rintro m l h' ⟨j, hj, hj2, rfl, rfl, rfl⟩ K16 hK16
    refine V_seq (fun K17 hK17 => ?_)
    refine V_sr T.mix (by kernel_rfl) (fun K18 hK18 => ?_)
    refine S_mv rfl ?_
    refine S_mv rfl ?_
    refine S_nc rfl ?_
    first | refine S_fa0 T.f35_6 rfl ?_ | refine S_fa T.f35_6 rfl ?_
    refine S_ldK T.ag32 rfl (fun K' hK' => ?_)
    simp (disch := omega) only [hD.c0, hD.c1, hD.c2, hD.c3, hD.co, hD.c8, hD.c9, hD.c10, hD.c11, hD.c12, oP_some, Nat.add_zero]
    refine hK' _ ?_; clear hK' K'
    refine S_lenl T.el32 rfl ?_
    refine S_bin rfl rfl rfl ?_
    refine S_nil (hK18 _ _ (V_keep [0, 5, 65] (by simp only [proj, lk, reduceIte, Nat.reduceEqDiff]; rfl) ?_)); clear hK18
    refine V_condp rfl (fun c68 => ?_) (fun c68 => ?_)
    · skip
      have ek : ∃ x n, t.far = (some ⟨x, 0, none⟩, n) ∧ B h x (arr (n * 3) fun _ => .int .i64 (-7)) 61 ∧ n ≤ 256 := by
        rcases hD.far with e | ⟨x, n, e, hx, _, hn⟩
        · rw [e] at c68; simp at c68; omega
        · exact ⟨x, n, e, hx, hn⟩
      obtain ⟨x, n, ho, hbk, hn256⟩ := ek
      rw [ho] at c68
      simp only at c68
      refine V_skipk [0, 5] (by simp only [proj, lk, reduceIte, Nat.reduceEqDiff]; rfl) ?_
      refine hK17 _ _ ?_; clear hK17
      refine V_seq (fun K19 hK19 => ?_)
      refine V_block ?_
      refine V_sr T.mix (by kernel_rfl) (fun K20 hK20 => ?_)
      refine S_mv rfl ?_
      refine S_nc rfl ?_
      first | refine S_fa0 T.f35_6 rfl ?_ | refine S_fa T.f35_6 rfl ?_
      refine S_ldK T.ag32 rfl (fun K' hK' => ?_)
      simp (disch := omega) only [hD.c0, hD.c1, hD.c2, hD.c3, hD.co, hD.c8, hD.c9, hD.c10, hD.c11, hD.c12, ho, hbk.cellA, oP_some, Nat.add_zero]
      refine hK' _ ?_; clear hK' K'
      refine S_mv rfl ?_
      first | refine S_ixmn T.el32 rfl rfl (by omega) ?_ | refine S_ixm T.el32 rfl rfl (by omega) (by omega) ?_ | refine S_ix T.el32 rfl rfl (by omega) (by omega) ?_
      first | refine S_fa0 T.f61_0 rfl ?_ | refine S_fa T.f61_0 rfl ?_
      refine S_ldK T.ag3 rfl (fun K' hK' => ?_)
      simp (disch := omega) only [hD.c0, hD.c1, hD.c2, hD.c3, hD.co, hD.c8, hD.c9, hD.c10, hD.c11, hD.c12, ho, hbk.cellA, oP_some, Nat.add_zero]
      refine hK' _ ?_; clear hK' K'
      refine S_bin rfl rfl rfl ?_
      refine S_mv rfl ?_
      refine S_dec (fun g69 => ?_) (fun g69 => ?_)
      · skip
        exfalso; exact g69 rfl
      · skip
        refine S_gt rfl ?_
        refine S_mv rfl ?_
        refine S_gt rfl ?_
        refine S_nc rfl ?_
        refine S_gt rfl ?_
        first | refine S_fa0 T.f35_6 rfl ?_ | refine S_fa T.f35_6 rfl ?_
        refine S_gt rfl ?_
        refine S_ldK T.ag32 rfl (fun K' hK' => ?_)
        simp (disch := omega) only [hD.c0, hD.c1, hD.c2, hD.c3, hD.co, hD.c8, hD.c9, hD.c10, hD.c11, hD.c12, ho, hbk.cellA, oP_some, Nat.add_zero]
        refine hK' _ ?_; clear hK' K'
        refine S_gt rfl ?_
        refine S_mv rfl ?_
        refine S_gt rfl ?_
        first | refine S_ixmn T.el32 rfl rfl (by omega) ?_ | refine S_ixm T.el32 rfl rfl (by omega) (by omega) ?_ | refine S_ix T.el32 rfl rfl (by omega) (by omega) ?_
        refine S_gt rfl ?_
        first | refine S_fa0 T.f61_1 rfl ?_ | refine S_fa T.f61_1 rfl ?_
        refine S_gt rfl ?_
        refine S_ldK T.ag3 rfl (fun K' hK' => ?_)
        simp (disch := omega) only [hD.c0, hD.c1, hD.c2, hD.c3, hD.co, hD.c8, hD.c9, hD.c10, hD.c11, hD.c12, ho, hbk.cellA, oP_some, Nat.add_zero]
        refine hK' _ ?_; clear hK' K'
        refine S_gt rfl ?_
        refine S_bin rfl rfl rfl ?_
        refine S_pf rfl rfl ?_
        refine S_mv rfl ?_
        refine S_dec (fun g69a => ?_) (fun g69a => ?_)
        · skip
          exfalso; exact g69a rfl
        · skip
          refine S_gt rfl ?_
          refine S_mv rfl ?_
          refine S_gt rfl ?_
          refine S_nc rfl ?_
          refine S_gt rfl ?_
          first | refine S_fa0 T.f35_6 rfl ?_ | refine S_fa T.f35_6 rfl ?_
          refine S_gt rfl ?_
          refine S_ldK T.ag32 rfl (fun K' hK' => ?_)
          simp (disch := omega) only [hD.c0, hD.c1, hD.c2, hD.c3, hD.co, hD.c8, hD.c9, hD.c10, hD.c11, hD.c12, ho, hbk.cellA, oP_some, Nat.add_zero]
          refine hK' _ ?_; clear hK' K'
          refine S_gt rfl ?_
          refine S_mv rfl ?_
          refine S_gt rfl ?_
          first | refine S_ixmn T.el32 rfl rfl (by omega) ?_ | refine S_ixm T.el32 rfl rfl (by omega) (by omega) ?_ | refine S_ix T.el32 rfl rfl (by omega) (by omega) ?_
          refine S_gt rfl ?_
          first | refine S_fa0 T.f61_2 rfl ?_ | refine S_fa T.f61_2 rfl ?_
          refine S_gt rfl ?_
          refine S_ldK T.ag3 rfl (fun K' hK' => ?_)
          simp (disch := omega) only [hD.c0, hD.c1, hD.c2, hD.c3, hD.co, hD.c8, hD.c9, hD.c10, hD.c11, hD.c12, ho, hbk.cellA, oP_some, Nat.add_zero]
          refine hK' _ ?_; clear hK' K'
          refine S_gt rfl ?_
          refine S_bin rfl rfl rfl ?_
          refine S_pf rfl rfl ?_
          refine S_nil (hK20 _ _ (V_keep [0, 5, 98] (by simp only [proj, lk, reduceIte, Nat.reduceEqDiff]; rfl) ?_)); clear hK20
          refine V_condp rfl (fun c69 => ?_) (fun c69 => ?_)
          · skip
            exfalso; exact c69 rfl
          · skip
            refine V_skipk [0, 5] (by simp only [proj, lk, reduceIte, Nat.reduceEqDiff]; rfl) ?_
            refine hK19 _ _ ?_; clear hK19
            refine V_reg T.mix (by kernel_rfl) ?_
            refine S_mv rfl ?_
            first | refine S_add rfl rfl (by omega) (by omega) ?_ | refine S_bin rfl rfl rfl ?_
            refine S_as rfl ?_
            refine S_nilk [0, 5] (by simp only [proj, lk, reduceIte, Nat.reduceEqDiff]; rfl) ?_
            exact hK16 _ _ ⟨_, by rw [ho]; simp only []; omega, j + 1, by rw [ho]; simp only []; omega, hj2, rfl, rfl, rfl⟩
    · skip
      refine V_exitk [0] rfl (by simp only [proj, lk, reduceIte, Nat.reduceEqDiff]; rfl) ?_
      refine hK14 _ _ ?_; clear hK14
      refine V_seq (fun K21 hK21 => ?_)
      refine V_sr T.mix (by kernel_rfl) (fun K22 hK22 => ?_)
      refine S_as rfl ?_
      refine S_nil (hK22 _ _ (V_keep [0, 6] (by simp only [proj, lk, reduceIte, Nat.reduceEqDiff]; rfl) ?_)); clear hK22
      refine V_block ?_
      have hko : t.held.2 ≤ 256 := by
        rcases hD.held with e | ⟨x, n, e, _, _, hn⟩ <;> rw [e] <;> simp <;> omega
      refine V_loop (fun m l h' => ∃ (j : Nat), (j ≤ t.held.2) ∧ (t.held.2 ≤ 256) ∧ m = t.held.2 - j ∧ l = [(0, .pointer (some ⟨D, 0, none⟩)), (6, .int .i64 j)] ∧ h = h') _ ⟨0, by omega, hko, rfl, rfl, rfl⟩ ?_
      rintro m l h' ⟨j, hj, hj2, rfl, rfl, rfl⟩ K23 hK23
      refine V_seq (fun K24 hK24 => ?_)
      refine V_sr T.mix (by kernel_rfl) (fun K25 hK25 => ?_)
      refine S_mv rfl ?_
      refine S_mv rfl ?_
      refine S_nc rfl ?_
      first | refine S_fa0 T.f35_9 rfl ?_ | refine S_fa T.f35_9 rfl ?_
      refine S_ldK T.ag32 rfl (fun K' hK' => ?_)
      simp (disch := omega) only [hD.c0, hD.c1, hD.c2, hD.c3, hD.co, hD.c8, hD.c9, hD.c10, hD.c11, hD.c12, oP_some, Nat.add_zero]
      refine hK' _ ?_; clear hK' K'
      refine S_lenl T.el32 rfl ?_
      refine S_bin rfl rfl rfl ?_
      refine S_nil (hK25 _ _ (V_keep [0, 6, 105] (by simp only [proj, lk, reduceIte, Nat.reduceEqDiff]; rfl) ?_)); clear hK25
      refine V_condp rfl (fun c73 => ?_) (fun c73 => ?_)
      · skip
        have ek : ∃ x n, t.held = (some ⟨x, 0, none⟩, n) ∧ B h x (arr (n * 3) fun _ => .int .i64 (-7)) 61 ∧ n ≤ 256 := by
          rcases hD.held with e | ⟨x, n, e, hx, _, hn⟩
          · rw [e] at c73; simp at c73; omega
          · exact ⟨x, n, e, hx, hn⟩
        obtain ⟨x, n, ho, hbk, hn256⟩ := ek
        rw [ho] at c73
        simp only at c73
        refine V_skipk [0, 6] (by simp only [proj, lk, reduceIte, Nat.reduceEqDiff]; rfl) ?_
        refine hK24 _ _ ?_; clear hK24
        refine V_seq (fun K26 hK26 => ?_)
        refine V_block ?_
        refine V_sr T.mix (by kernel_rfl) (fun K27 hK27 => ?_)
        refine S_mv rfl ?_
        refine S_nc rfl ?_
        first | refine S_fa0 T.f35_9 rfl ?_ | refine S_fa T.f35_9 rfl ?_
        refine S_ldK T.ag32 rfl (fun K' hK' => ?_)
        simp (disch := omega) only [hD.c0, hD.c1, hD.c2, hD.c3, hD.co, hD.c8, hD.c9, hD.c10, hD.c11, hD.c12, ho, hbk.cellA, oP_some, Nat.add_zero]
        refine hK' _ ?_; clear hK' K'
        refine S_mv rfl ?_
        first | refine S_ixmn T.el32 rfl rfl (by omega) ?_ | refine S_ixm T.el32 rfl rfl (by omega) (by omega) ?_ | refine S_ix T.el32 rfl rfl (by omega) (by omega) ?_
        first | refine S_fa0 T.f61_0 rfl ?_ | refine S_fa T.f61_0 rfl ?_
        refine S_ldK T.ag3 rfl (fun K' hK' => ?_)
        simp (disch := omega) only [hD.c0, hD.c1, hD.c2, hD.c3, hD.co, hD.c8, hD.c9, hD.c10, hD.c11, hD.c12, ho, hbk.cellA, oP_some, Nat.add_zero]
        refine hK' _ ?_; clear hK' K'
        refine S_bin rfl rfl rfl ?_
        refine S_mv rfl ?_
        refine S_dec (fun g74 => ?_) (fun g74 => ?_)
        · skip
          exfalso; exact g74 rfl
        · skip
          refine S_gt rfl ?_
          refine S_mv rfl ?_
          refine S_gt rfl ?_
          refine S_nc rfl ?_
          refine S_gt rfl ?_
          first | refine S_fa0 T.f35_9 rfl ?_ | refine S_fa T.f35_9 rfl ?_
          refine S_gt rfl ?_
          refine S_ldK T.ag32 rfl (fun K' hK' => ?_)
          simp (disch := omega) only [hD.c0, hD.c1, hD.c2, hD.c3, hD.co, hD.c8, hD.c9, hD.c10, hD.c11, hD.c12, ho, hbk.cellA, oP_some, Nat.add_zero]
          refine hK' _ ?_; clear hK' K'
          refine S_gt rfl ?_
          refine S_mv rfl ?_
          refine S_gt rfl ?_
          first | refine S_ixmn T.el32 rfl rfl (by omega) ?_ | refine S_ixm T.el32 rfl rfl (by omega) (by omega) ?_ | refine S_ix T.el32 rfl rfl (by omega) (by omega) ?_
          refine S_gt rfl ?_
          first | refine S_fa0 T.f61_1 rfl ?_ | refine S_fa T.f61_1 rfl ?_
          refine S_gt rfl ?_
          refine S_ldK T.ag3 rfl (fun K' hK' => ?_)
          simp (disch := omega) only [hD.c0, hD.c1, hD.c2, hD.c3, hD.co, hD.c8, hD.c9, hD.c10, hD.c11, hD.c12, ho, hbk.cellA, oP_some, Nat.add_zero]
          refine hK' _ ?_; clear hK' K'
          refine S_gt rfl ?_
          refine S_bin rfl rfl rfl ?_
          refine S_pf rfl rfl ?_
          refine S_mv rfl ?_
          refine S_dec (fun g74a => ?_) (fun g74a => ?_)
          · skip
            exfalso; exact g74a rfl
          · skip
            refine S_gt rfl ?_
            refine S_mv rfl ?_
            refine S_gt rfl ?_
            refine S_nc rfl ?_
            refine S_gt rfl ?_
            first | refine S_fa0 T.f35_9 rfl ?_ | refine S_fa T.f35_9 rfl ?_
            refine S_gt rfl ?_
            refine S_ldK T.ag32 rfl (fun K' hK' => ?_)
            simp (disch := omega) only [hD.c0, hD.c1, hD.c2, hD.c3, hD.co, hD.c8, hD.c9, hD.c10, hD.c11, hD.c12, ho, hbk.cellA, oP_some, Nat.add_zero]
            refine hK' _ ?_; clear hK' K'
            refine S_gt rfl ?_
            refine S_mv rfl ?_
            refine S_gt rfl ?_
            first | refine S_ixmn T.el32 rfl rfl (by omega) ?_ | refine S_ixm T.el32 rfl rfl (by omega) (by omega) ?_ | refine S_ix T.el32 rfl rfl (by omega) (by omega) ?_
            refine S_gt rfl ?_
            first | refine S_fa0 T.f61_2 rfl ?_ | refine S_fa T.f61_2 rfl ?_
            refine S_gt rfl ?_
            refine S_ldK T.ag3 rfl (fun K' hK' => ?_)
            simp (disch := omega) only [hD.c0, hD.c1, hD.c2, hD.c3, hD.co, hD.c8, hD.c9, hD.c10, hD.c11, hD.c12, ho, hbk.cellA, oP_some, Nat.add_zero]
            refine hK' _ ?_; clear hK' K'
            refine S_gt rfl ?_
            refine S_bin rfl rfl rfl ?_
            refine S_pf rfl rfl ?_
            refine S_nil (hK27 _ _ (V_keep [0, 6, 138] (by simp only [proj, lk, reduceIte, Nat.reduceEqDiff]; rfl) ?_)); clear hK27
            refine V_condp rfl (fun c74 => ?_) (fun c74 => ?_)
            · skip
              exfalso; exact c74 rfl
            · skip
              refine V_skipk [0, 6] (by simp only [proj, lk, reduceIte, Nat.reduceEqDiff]; rfl) ?_
              refine hK26 _ _ ?_; clear hK26
              refine V_reg T.mix (by kernel_rfl) ?_
              refine S_mv rfl ?_
              first | refine S_add rfl rfl (by omega) (by omega) ?_ | refine S_bin rfl rfl rfl ?_
              refine S_as rfl ?_
              refine S_nilk [0, 6] (by simp only [proj, lk, reduceIte, Nat.reduceEqDiff]; rfl) ?_
              exact hK23 _ _ ⟨_, by rw [ho]; simp only []; omega, j + 1, by rw [ho]; simp only []; omega, hj2, rfl, rfl, rfl⟩
      · skip
        refine V_exitk [] rfl (by simp only [proj, lk, reduceIte, Nat.reduceEqDiff]; rfl) ?_
        refine hK21 _ _ ?_; clear hK21
        refine V_sr T.mix (by kernel_rfl) (fun K28 hK28 => ?_)
        refine S_as rfl ?_
        refine S_nil (hK28 _ _ (V_keep [2] (by simp only [proj, lk, reduceIte, Nat.reduceEqDiff]; rfl) ?_)); clear hK28
        refine V_ret ?_
        refine hR _ _ (ret1 rfl rfl ?_)
        exact ⟨rfl, rfl⟩
set_option maxHeartbeats 400000 in
theorem keep_spec (h : Heap) (D : Nat) (no : Nat → Prop) (t : DS) (hD : Dk h D no t) (bx n : Nat) (f : Nat → Value) (hX : B h bx (arr (n * 3) f) 61) (hnx : ¬ no bx) (hAw : Away t bx) (hn : n ≤ 256) (h0 : 0 < n) :
    FC Try.prog 39 (#[.pointer (some ⟨D, 0, none⟩), .slice (some ⟨bx, 0, none⟩) n n] : Array Value) h fun v h' => v = .tuple #[] ∧ Dk h' D no { t with old := updO t.old t.n (some ⟨bx, 0, none⟩, n), n := (t.n + 1) % 4 } ∧ Ext (fun b => b = D ∨ b = bx) h h' := by
  have hn4 := hD.n4
  have hbD : bx ≠ D := fun e => hnx (e ▸ hD.noD)
  refine FC_of [(0, .pointer (some ⟨D, 0, none⟩)), (1, .slice (some ⟨bx, 0, none⟩) n n)] Try.func39 rfl Try.ntmps39 (by simp) rfl (fun R hR => ?_)
  refine V_sr T.mix (by kernel_rfl) (fun K1 hK1 => ?_)
  refine S_mv rfl ?_
  refine S_mv rfl ?_
  refine S_capl T.el32 rfl ?_
  refine S_sl rfl rfl rfl (sliceV_hi T.el32 (by omega) (by omega)) ?_
  simp only [Int.toNat_natCast]
  refine S_as rfl ?_
  refine S_nil (hK1 _ _ (V_keep [0, 4] (by simp only [proj, lk, reduceIte, Nat.reduceEqDiff]; rfl) ?_)); clear hK1
  refine V_seq (fun K2 hK2 => ?_)
  refine V_sr T.mix (by kernel_rfl) (fun K3 hK3 => ?_)
  refine S_as rfl ?_
  refine S_nil (hK3 _ _ (V_keep [0, 4, 5] (by simp only [proj, lk, reduceIte, Nat.reduceEqDiff]; rfl) ?_)); clear hK3
  refine V_block ?_
  refine V_loop (fun m l h' => ∃ (k : Nat) (hk : Heap), (k ≤ n) ∧ (B hk bx (arr (n * 3) (stampTo k f)) 61) ∧ (Ext (fun b => b = bx) h hk) ∧ m = n - k ∧ l = [(0, .pointer (some ⟨D, 0, none⟩)), (4, .slice (some ⟨bx, 0, none⟩) n n), (5, .int .i64 k)] ∧ hk = h') _ ⟨0, h, by omega, by rw [stamp_zero]; exact hX, Ext.refl _ _, rfl, rfl, rfl⟩ ?_
  rintro m l h' ⟨k, hk, hkn, hXk, hEk, rfl, rfl, rfl⟩ K4 hK4
  refine V_seq (fun K5 hK5 => ?_)
  refine V_sr T.mix (by kernel_rfl) (fun K6 hK6 => ?_)
  refine S_mv rfl ?_
  refine S_mv rfl ?_
  refine S_lenl T.el32 rfl ?_
  refine S_bin rfl rfl rfl ?_
  refine S_nil (hK6 _ _ (V_keep [0, 4, 5, 13] (by simp only [proj, lk, reduceIte, Nat.reduceEqDiff]; rfl) ?_)); clear hK6
  refine V_condp rfl (fun c109 => ?_) (fun c109 => ?_)
  · skip
    refine V_skipk [0, 4, 5] (by simp only [proj, lk, reduceIte, Nat.reduceEqDiff]; rfl) ?_
    refine hK5 _ _ ?_; clear hK5
    refine V_seq (fun K7 hK7 => ?_)
    refine V_block ?_
    refine V_reg T.mix (by kernel_rfl) ?_
    refine S_mv rfl ?_
    refine S_mv rfl ?_
    refine S_bld rfl (T.bld61_0_1_2 _ _ _) ?_
    first | refine S_ixmn T.el32 rfl rfl (by omega) ?_ | refine S_ixm T.el32 rfl rfl (by omega) (by omega) ?_ | refine S_ix T.el32 rfl rfl (by omega) (by omega) ?_
    refine S_stl T.sz61 rfl rfl rfl rfl (fun j hj => hXk.okA (by omega)) ?_
    generalize hh : putsH _ _ _ _ = h1
    have hX1 : B h1 bx (arr (n * 3) (stampTo (k + 1) f)) 61 := by rw [← hh]; exact stamp_step hXk
    have hE1 : Ext (fun b => b = bx) hk h1 := by rw [← hh]; exact Ext.puts (S := fun b => b = bx) rfl _ _ _
    clear hh
    refine S_nilk [0, 4, 5] (by simp only [proj, lk, reduceIte, Nat.reduceEqDiff]; rfl) ?_
    refine hK7 _ _ ?_; clear hK7
    refine V_reg T.mix (by kernel_rfl) ?_
    refine S_mv rfl ?_
    first | refine S_add rfl rfl (by omega) (by omega) ?_ | refine S_bin rfl rfl rfl ?_
    refine S_as rfl ?_
    refine S_nilk [0, 4, 5] (by simp only [proj, lk, reduceIte, Nat.reduceEqDiff]; rfl) ?_
    exact hK4 _ _ ⟨_, by omega, k + 1, h1, by omega, hX1, hEk.trans hE1, rfl, rfl, rfl⟩
  · skip
    refine V_exitk [0, 4] rfl (by simp only [proj, lk, reduceIte, Nat.reduceEqDiff]; rfl) ?_
    refine hK2 _ _ ?_; clear hK2
    refine V_sr T.mix (by kernel_rfl) (fun K8 hK8 => ?_)
    refine S_mv rfl ?_
    refine S_lenl T.el32 rfl ?_
    refine S_bin rfl rfl rfl ?_
    refine S_nil (hK8 _ _ (V_keep [0, 4, 22] (by simp only [proj, lk, reduceIte, Nat.reduceEqDiff]; rfl) ?_)); clear hK8
    refine V_condp rfl (fun c112 => ?_) (fun c112 => ?_)
    · skip
      have hkn2 : k = n := by omega
      subst hkn2
      replace hD : Dk hk D no t := hD.ext hEk (hD.s.ext hEk (fun e => hbD e.symm)) (fun b e => .inr (e ▸ hAw)) (fun _ _ => rfl) rfl rfl rfl
      have hKx : Kept hk no (some ⟨bx, 0, none⟩, k) := .inr ⟨bx, k, rfl, stamp_all hXk, hnx, hn⟩
      refine V_sr T.mix (by kernel_rfl) (fun K9 hK9 => ?_)
      refine S_mv rfl ?_
      refine S_mv rfl ?_
      refine S_nc rfl ?_
      first | refine S_fa0 T.f35_5 rfl ?_ | refine S_fa T.f35_5 rfl ?_
      refine S_ldK T.ag3 rfl (fun K' hK' => ?_)
      simp (disch := omega) only [hD.c0, hD.c1, hD.c2, hD.c3, hD.co, hD.c8, hD.c9, hD.c10, hD.c11, hD.c12, oP_some, Nat.add_zero]
      refine hK' _ ?_; clear hK' K'
      refine S_mv rfl ?_
      refine S_nc rfl ?_
      first | refine S_fa0 T.f35_4 rfl ?_ | refine S_fa T.f35_4 rfl ?_
      first | refine S_ixan T.ar33 rfl rfl (by omega) ?_ | refine S_ixa1 T.ar33 rfl rfl (by omega) (by omega) ?_
      refine S_st T.sz32 rfl rfl rfl rfl (by simp (disch := omega) only [hD.ok]) ?_
      generalize hh : putH _ _ _ = h2
      have hD2 : Dk h2 D no { t with old := updO t.old t.n (some ⟨bx, 0, none⟩, k) } := by rw [← hh]; exact hD.set_old (some ⟨bx, 0, none⟩, k) hKx
      have hE2 : Ext (fun b => b = D) hk h2 := by rw [← hh]; exact Ext.put _ _ rfl
      clear hh
      replace hD := hD2
      refine S_nil (hK9 _ _ (V_keep [0] (by simp only [proj, lk, reduceIte, Nat.reduceEqDiff]; rfl) ?_)); clear hK9
      refine V_reg T.mix (by kernel_rfl) ?_
      refine S_mv rfl ?_
      refine S_mv rfl ?_
      refine S_nc rfl ?_
      first | refine S_fa0 T.f35_5 rfl ?_ | refine S_fa T.f35_5 rfl ?_
      refine S_ldK T.ag3 rfl (fun K' hK' => ?_)
      simp (disch := omega) only [hD.c0, hD.c1, hD.c2, hD.c3, hD.co, hD.c8, hD.c9, hD.c10, hD.c11, hD.c12, oP_some, Nat.add_zero]
      refine hK' _ ?_; clear hK' K'
      first | refine S_add rfl rfl (by omega) (by omega) ?_ | refine S_bin rfl rfl rfl ?_
      refine S_rem rfl rfl (by omega) (by omega) ?_
      refine S_nc rfl ?_
      first | refine S_fa0 T.f35_5 rfl ?_ | refine S_fa T.f35_5 rfl ?_
      refine S_st T.sz3 rfl rfl rfl rfl (by simp (disch := omega) only [hD.ok]) ?_
      generalize hh : putH _ _ _ = h3
      have hD3 : Dk h3 D no { t with old := updO t.old t.n (some ⟨bx, 0, none⟩, k), n := (t.n + 1) % 4 } := by rw [← hh]; exact hD.set_n (by omega) (by omega)
      have hE3 : Ext (fun b => b = D) h2 h3 := by rw [← hh]; exact Ext.put _ _ rfl
      clear hh
      refine S_nilk [] (by simp only [proj, lk, reduceIte, Nat.reduceEqDiff]; rfl) ?_
      -- end
      refine hR _ _ (ret0 rfl ?_)
      exact ⟨rfl, hD3, ((hEk.mono fun _ e => .inr e).trans (hE2.mono fun _ e => .inl e)).trans (hE3.mono fun _ e => .inl e)⟩
    · skip
      exfalso; omega
set_option maxHeartbeats 400000 in
theorem hold_spec (h : Heap) (D : Nat) (no : Nat → Prop) (t : DS) (hD : Dk h D no t) (a : Option Addr × Nat) (ts : List Tok) (hA : Ans h a ts) (hlen : ts.length ≤ 256) (hno : ∀ b, blkV a = some b → ¬ no b ∧ Away t b) (hna : t.na ≤ 1000000000000000000) :
    FC Try.prog 30 (#[.pointer (some ⟨D, 0, none⟩), .slice a.1 a.2 a.2] : Array Value) h fun v h' => v = .tuple #[] ∧ ∃ t', Dk h' D no t' ∧ Ext (fun b => b = D ∨ blkV a = some b) h h' ∧ t'.text = t.text ∧ t'.lid = t.lid ∧ t'.na ≤ t.na + 1 ∧ (∀ b, Away t b → blkV a ≠ some b → Away t' b) := by
  have hD0 := hD
  refine FC_of [(0, .pointer (some ⟨D, 0, none⟩)), (1, .slice a.1 a.2 a.2)] Try.func30 rfl Try.ntmps30 (by simp) rfl (fun R hR => ?_)
  refine V_sr T.mix (by kernel_rfl) (fun K1 hK1 => ?_)
  refine S_mv rfl ?_
  refine S_nc rfl ?_
  first | refine S_fa0 T.f35_8 rfl ?_ | refine S_fa T.f35_8 rfl ?_
  refine S_ldK T.ag4 rfl (fun K' hK' => ?_)
  simp (disch := omega) only [hD.c0, hD.c1, hD.c2, hD.c3, hD.co, hD.c8, hD.c9, hD.c10, hD.c11, hD.c12, oP_some, Nat.add_zero]
  refine hK' _ ?_; clear hK' K'
  refine S_as rfl ?_
  refine S_nil (hK1 _ _ (V_keep [0, 1, 4] (by simp only [proj, lk, reduceIte, Nat.reduceEqDiff]; rfl) ?_)); clear hK1
  refine V_sr T.mix (by kernel_rfl) (fun K2 hK2 => ?_)
  refine S_mv rfl ?_
  refine S_nc rfl ?_
  first | refine S_fa0 T.f35_8 rfl ?_ | refine S_fa T.f35_8 rfl ?_
  refine S_st T.sz4 rfl rfl rfl rfl (by simp (disch := omega) only [hD.ok]) ?_
  generalize hh : putH _ _ _ = h3
  have hEh3 : Ext (fun b => b = D) h h3 := by rw [← hh]; exact Ext.put _ _ rfl
  have hSh3 : B h3 D (dcells { t with pin := false }) 35 := by rw [← hh]; exact hD.s.put 11 _
  clear hh
  replace hD : Dk h3 D no { t with pin := false } := hD.ext hEh3 hSh3 (fun b e => .inl (by subst e; exact hD.noD)) (fun _ _ => rfl) rfl rfl rfl
  refine S_nil (hK2 _ _ (V_keep [0, 1, 4] (by simp only [proj, lk, reduceIte, Nat.reduceEqDiff]; rfl) ?_)); clear hK2
  refine V_seq (fun K3 hK3 => ?_)
  refine V_sr T.mix (by kernel_rfl) (fun K4 hK4 => ?_)
  refine S_mv rfl ?_
  refine S_capl T.el32 rfl ?_
  refine S_bin rfl rfl rfl ?_
  refine S_nil (hK4 _ _ (V_keep [0, 1, 4, 16] (by simp only [proj, lk, reduceIte, Nat.reduceEqDiff]; rfl) ?_)); clear hK4
  refine V_condp rfl (fun c85 => ?_) (fun c85 => ?_)
  · skip
    refine V_ret ?_
    refine hR _ _ (ret0 rfl ?_)
    exact ⟨rfl, _, hD, hEh3.mono (fun _ e => .inl e), rfl, rfl, by simp, fun b hw _ => hw⟩
  · skip
    have ea : ∃ bx n, a = (some ⟨bx, 0, none⟩, n) ∧ B h bx (arr (n * 3) fun j => .int .i64 (fl ts j)) 61 ∧ n ≤ 256 ∧ 0 < n := by
      have hl := hA.len
      rcases hA with ⟨e, _⟩ | ⟨b, e, hb⟩
      · rw [e] at c85; simp at c85
      · exact ⟨b, _, e, hb, hlen, by omega⟩
    obtain ⟨bx, n, rfl, hX, hn256, hn0⟩ := ea
    obtain ⟨hnx, hAw⟩ := hno bx rfl
    have hbD : bx ≠ D := fun e => hnx (e ▸ hD.noD)
    have hX3 := hX.ext hEh3 (fun e => hbD e)
    generalize (fun j => Value.int .i64 (fl ts j)) = f at *
    simp only at *
    refine V_skipk [0, 1, 4] (by simp only [proj, lk, reduceIte, Nat.reduceEqDiff]; rfl) ?_
    refine hK3 _ _ ?_; clear hK3
    refine V_sr T.mix (by kernel_rfl) (fun K5 hK5 => ?_)
    refine S_mv rfl ?_
    refine S_nc rfl ?_
    first | refine S_fa0 T.f35_7 rfl ?_ | refine S_fa T.f35_7 rfl ?_
    refine S_ldK T.ag3 rfl (fun K' hK' => ?_)
    simp (disch := omega) only [hD.c0, hD.c1, hD.c2, hD.c3, hD.co, hD.c8, hD.c9, hD.c10, hD.c11, hD.c12, oP_some, Nat.add_zero]
    refine hK' _ ?_; clear hK' K'
    first | refine S_add rfl rfl (by omega) (by omega) ?_ | refine S_bin rfl rfl rfl ?_
    refine S_nc rfl ?_
    first | refine S_fa0 T.f35_7 rfl ?_ | refine S_fa T.f35_7 rfl ?_
    refine S_st T.sz3 rfl rfl rfl rfl (by simp (disch := omega) only [hD.ok]) ?_
    generalize hh : putH _ _ _ = h4
    have hEh4 : Ext (fun b => b = D) h3 h4 := by rw [← hh]; exact Ext.put _ _ rfl
    have hSh4 : B h4 D (dcells { t with pin := false, na := t.na + 1 }) 35 := by rw [← hh]; exact hD.s.put 10 _
    clear hh
    replace hD : Dk h4 D no { t with pin := false, na := t.na + 1 } := hD.ext hEh4 hSh4 (fun b e => .inl (by subst e; exact hD.noD)) (fun _ _ => rfl) rfl rfl rfl
    have hX4 := hX3.ext hEh4 (fun e => hbD e)
    refine S_nil (hK5 _ _ (V_keep [0, 1, 4] (by simp only [proj, lk, reduceIte, Nat.reduceEqDiff]; rfl) ?_)); clear hK5
    refine V_seq (fun K6 hK6 => ?_)
    refine V_sr T.mix (by kernel_rfl) (fun K7 hK7 => ?_)
    refine S_mv rfl ?_
    refine S_nil (hK7 _ _ (V_keep [0, 1, 24] (by simp only [proj, lk, reduceIte, Nat.reduceEqDiff]; rfl) ?_)); clear hK7
    refine V_condb rfl (fun c89 => ?_) (fun c89 => ?_)
    · skip
      refine V_sr T.mix (by kernel_rfl) (fun K8 hK8 => ?_)
      refine S_mv rfl ?_
      refine S_mv rfl ?_
      refine S_mv rfl ?_
      refine S_capl T.el32 rfl ?_
      refine S_sl rfl rfl rfl (sliceV_hi T.el32 (by omega) (by omega)) ?_
      simp only [Int.toNat_natCast]
      refine S_nc rfl ?_
      first | refine S_fa0 T.f35_9 rfl ?_ | refine S_fa T.f35_9 rfl ?_
      refine S_st T.sz32 rfl rfl rfl rfl (by simp (disch := omega) only [hD.ok]) ?_
      generalize hh : putH _ _ _ = h5
      have hS5 : B h5 D (dcells { t with pin := false, na := t.na + 1, held := (some ⟨bx, 0, none⟩, n) }) 35 := by rw [← hh]; exact hD.s.put 12 _
      have hE5a : Ext (fun b => b = D) h4 h5 := by rw [← hh]; exact Ext.put _ _ rfl
      clear hh
      have hX5 := hX4.ext hE5a (fun e => hbD e)
      have hE5 : Ext (fun b => b = D ∨ b = bx) h h5 := ((hEh3.trans hEh4).trans hE5a).mono fun _ e => .inl e
      refine S_nil (hK8 _ _ (V_keep [0] (by simp only [proj, lk, reduceIte, Nat.reduceEqDiff]; rfl) ?_)); clear hK8
      refine V_seq (fun K9 hK9 => ?_)
      refine V_sr T.mix (by kernel_rfl) (fun K10 hK10 => ?_)
      refine S_as rfl ?_
      refine S_nil (hK10 _ _ (V_keep [0, 5] (by simp only [proj, lk, reduceIte, Nat.reduceEqDiff]; rfl) ?_)); clear hK10
      refine V_block ?_
      refine V_loop (fun m l h' => ∃ (k : Nat) (hk : Heap), (k ≤ n) ∧ (B hk bx (arr (n * 3) (stampTo k f)) 61) ∧ (B hk D (dcells { t with pin := false, na := t.na + 1, held := (some ⟨bx, 0, none⟩, n) }) 35) ∧ (Ext (fun b => b = D ∨ b = bx) h hk) ∧ m = n - k ∧ l = [(0, .pointer (some ⟨D, 0, none⟩)), (5, .int .i64 k)] ∧ hk = h') _ ⟨0, h5, by omega, by rw [stamp_zero]; exact hX5, hS5, hE5, rfl, rfl, rfl⟩ ?_
      rintro m l h' ⟨k, hk, hkn, hXk, hSk, hEk, rfl, rfl, rfl⟩ K11 hK11
      have hcc : cellH hk ⟨D, 12, none⟩ = some (.slice (some ⟨bx, 0, none⟩) n n) := hSk.cell 12
      refine V_seq (fun K12 hK12 => ?_)
      refine V_sr T.mix (by kernel_rfl) (fun K13 hK13 => ?_)
      refine S_mv rfl ?_
      refine S_mv rfl ?_
      refine S_nc rfl ?_
      first | refine S_fa0 T.f35_9 rfl ?_ | refine S_fa T.f35_9 rfl ?_
      refine S_ldK T.ag32 rfl (fun K' hK' => ?_)
      simp (disch := omega) only [hcc, oP_some, Nat.add_zero]
      refine hK' _ ?_; clear hK' K'
      refine S_lenl T.el32 rfl ?_
      refine S_bin rfl rfl rfl ?_
      refine S_nil (hK13 _ _ (V_keep [0, 5, 38] (by simp only [proj, lk, reduceIte, Nat.reduceEqDiff]; rfl) ?_)); clear hK13
      refine V_condp rfl (fun c91 => ?_) (fun c91 => ?_)
      · skip
        refine V_skipk [0, 5] (by simp only [proj, lk, reduceIte, Nat.reduceEqDiff]; rfl) ?_
        refine hK12 _ _ ?_; clear hK12
        refine V_seq (fun K14 hK14 => ?_)
        refine V_block ?_
        refine V_reg T.mix (by kernel_rfl) ?_
        refine S_mv rfl ?_
        refine S_nc rfl ?_
        first | refine S_fa0 T.f35_9 rfl ?_ | refine S_fa T.f35_9 rfl ?_
        refine S_ldK T.ag32 rfl (fun K' hK' => ?_)
        simp (disch := omega) only [hcc, oP_some, Nat.add_zero]
        refine hK' _ ?_; clear hK' K'
        refine S_mv rfl ?_
        refine S_bld rfl (T.bld61_0_1_2 _ _ _) ?_
        first | refine S_ixmn T.el32 rfl rfl (by omega) ?_ | refine S_ixm T.el32 rfl rfl (by omega) (by omega) ?_ | refine S_ix T.el32 rfl rfl (by omega) (by omega) ?_
        refine S_stl T.sz61 rfl rfl rfl rfl (fun j hj => hXk.okA (by omega)) ?_
        generalize hh : putsH _ _ _ _ = h6
        have hX1 : B h6 bx (arr (n * 3) (stampTo (k + 1) f)) 61 := by rw [← hh]; exact stamp_step hXk
        have hE1 : Ext (fun b => b = bx) hk h6 := by rw [← hh]; exact Ext.puts (S := fun b => b = bx) rfl _ _ _
        clear hh
        refine S_nilk [0, 5] (by simp only [proj, lk, reduceIte, Nat.reduceEqDiff]; rfl) ?_
        refine hK14 _ _ ?_; clear hK14
        refine V_reg T.mix (by kernel_rfl) ?_
        refine S_mv rfl ?_
        first | refine S_add rfl rfl (by omega) (by omega) ?_ | refine S_bin rfl rfl rfl ?_
        refine S_as rfl ?_
        refine S_nilk [0, 5] (by simp only [proj, lk, reduceIte, Nat.reduceEqDiff]; rfl) ?_
        exact hK11 _ _ ⟨_, by omega, k + 1, h6, by omega, hX1, hSk.ext hE1 (fun e => hbD e.symm), hEk.trans (hE1.mono fun _ e => .inr e), rfl, rfl, rfl⟩
      · skip
        refine V_exitk [] rfl (by simp only [proj, lk, reduceIte, Nat.reduceEqDiff]; rfl) ?_
        refine hK9 _ _ ?_; clear hK9
        refine V_ret ?_
        refine hR _ _ (ret0 rfl ?_)
        have hkn2 : k = n := by omega
        subst hkn2
        exact ⟨rfl, _, hD0.rebuild hEk hSk hAw rfl rfl (.inl rfl) (.inr (.inr ⟨bx, k, rfl, stamp_all hXk, hnx, hn256⟩)), hEk.mono (fun b e => by rcases e with e | e; exact .inl e; exact .inr (by rw [e]; rfl)), rfl, rfl, by simp, fun b hw hne => ⟨hw.1, hw.2.1, hne⟩⟩
    · skip
      refine V_skipk [0, 1] (by simp only [proj, lk, reduceIte, Nat.reduceEqDiff]; rfl) ?_
      refine hK6 _ _ ?_; clear hK6
      refine V_seq (fun K15 hK15 => ?_)
      refine V_sr T.mix (by kernel_rfl) (fun K16 hK16 => ?_)
      refine S_mv rfl ?_
      refine S_nc rfl ?_
      first | refine S_fa0 T.f35_7 rfl ?_ | refine S_fa T.f35_7 rfl ?_
      refine S_ldK T.ag3 rfl (fun K' hK' => ?_)
      simp (disch := omega) only [hD.c0, hD.c1, hD.c2, hD.c3, hD.co, hD.c8, hD.c9, hD.c10, hD.c11, hD.c12, oP_some, Nat.add_zero]
      refine hK' _ ?_; clear hK' K'
      refine S_mv rfl ?_
      refine S_nc rfl ?_
      first | refine S_fa0 T.f35_7 rfl ?_ | refine S_fa T.f35_7 rfl ?_
      refine S_ldK T.ag3 rfl (fun K' hK' => ?_)
      simp (disch := omega) only [hD.c0, hD.c1, hD.c2, hD.c3, hD.co, hD.c8, hD.c9, hD.c10, hD.c11, hD.c12, oP_some, Nat.add_zero]
      refine hK' _ ?_; clear hK' K'
      first | refine S_sub rfl rfl (by omega) (by omega) ?_ | refine S_bin rfl rfl rfl ?_
      refine S_bin rfl rfl rfl ?_
      refine S_bin rfl rfl rfl ?_
      refine S_nil (hK16 _ _ (V_keep [0, 1, 58] (by simp only [proj, lk, reduceIte, Nat.reduceEqDiff]; rfl) ?_)); clear hK16
      refine V_condp rfl (fun c96 => ?_) (fun c96 => ?_)
      · skip
        refine V_sr T.mix (by kernel_rfl) (fun K17 hK17 => ?_)
        refine S_mv rfl ?_
        refine S_mv rfl ?_
        refine S_call T.hb39 rfl ?_
        refine FC.mono (keep_spec h4 D no _ hD bx n f hX4 hnx hAw hn256 hn0) ?_
        rintro v h7 ⟨rfl, hD7, hE7⟩
        refine S_nil (hK17 _ _ (V_keep [] (by simp only [proj, lk, reduceIte, Nat.reduceEqDiff]; rfl) ?_)); clear hK17
        refine V_ret ?_
        refine hR _ _ (ret0 rfl ?_)
        exact ⟨rfl, _, hD7, ((hEh3.trans hEh4).mono fun _ e => .inl e).trans (hE7.mono fun b e => by rcases e with e | e; exact .inl e; exact .inr (by rw [e]; rfl)), rfl, rfl, by simp, fun b hw hne => ⟨fun i hi => by simp only [updO]; split; exact hne; exact hw.1 i hi, hw.2.1, hw.2.2⟩⟩
      · skip
        refine V_skipk [0, 1] (by simp only [proj, lk, reduceIte, Nat.reduceEqDiff]; rfl) ?_
        refine hK15 _ _ ?_; clear hK15
        refine V_sr T.mix (by kernel_rfl) (fun K18 hK18 => ?_)
        refine S_mv rfl ?_
        refine S_mv rfl ?_
        refine S_mv rfl ?_
        refine S_capl T.el32 rfl ?_
        refine S_sl rfl rfl rfl (sliceV_hi T.el32 (by omega) (by omega)) ?_
        simp only [Int.toNat_natCast]
        refine S_nc rfl ?_
        first | refine S_fa0 T.f35_6 rfl ?_ | refine S_fa T.f35_6 rfl ?_
        refine S_st T.sz32 rfl rfl rfl rfl (by simp (disch := omega) only [hD.ok]) ?_
        generalize hh : putH _ _ _ = h5
        have hS5 : B h5 D (dcells { t with pin := false, na := t.na + 1, far := (some ⟨bx, 0, none⟩, n) }) 35 := by rw [← hh]; exact hD.s.put 9 _
        have hE5a : Ext (fun b => b = D) h4 h5 := by rw [← hh]; exact Ext.put _ _ rfl
        clear hh
        have hX5 := hX4.ext hE5a (fun e => hbD e)
        have hE5 : Ext (fun b => b = D ∨ b = bx) h h5 := ((hEh3.trans hEh4).trans hE5a).mono fun _ e => .inl e
        refine S_nil (hK18 _ _ (V_keep [0] (by simp only [proj, lk, reduceIte, Nat.reduceEqDiff]; rfl) ?_)); clear hK18
        refine V_sr T.mix (by kernel_rfl) (fun K19 hK19 => ?_)
        refine S_as rfl ?_
        refine S_nil (hK19 _ _ (V_keep [0, 6] (by simp only [proj, lk, reduceIte, Nat.reduceEqDiff]; rfl) ?_)); clear hK19
        refine V_block ?_
        refine V_loop (fun m l h' => ∃ (k : Nat) (hk : Heap), (k ≤ n) ∧ (B hk bx (arr (n * 3) (stampTo k f)) 61) ∧ (B hk D (dcells { t with pin := false, na := t.na + 1, far := (some ⟨bx, 0, none⟩, n) }) 35) ∧ (Ext (fun b => b = D ∨ b = bx) h hk) ∧ m = n - k ∧ l = [(0, .pointer (some ⟨D, 0, none⟩)), (6, .int .i64 k)] ∧ hk = h') _ ⟨0, h5, by omega, by rw [stamp_zero]; exact hX5, hS5, hE5, rfl, rfl, rfl⟩ ?_
        rintro m l h' ⟨k, hk, hkn, hXk, hSk, hEk, rfl, rfl, rfl⟩ K20 hK20
        have hcc : cellH hk ⟨D, 9, none⟩ = some (.slice (some ⟨bx, 0, none⟩) n n) := hSk.cell 9
        refine V_seq (fun K21 hK21 => ?_)
        refine V_sr T.mix (by kernel_rfl) (fun K22 hK22 => ?_)
        refine S_mv rfl ?_
        refine S_mv rfl ?_
        refine S_nc rfl ?_
        first | refine S_fa0 T.f35_6 rfl ?_ | refine S_fa T.f35_6 rfl ?_
        refine S_ldK T.ag32 rfl (fun K' hK' => ?_)
        simp (disch := omega) only [hcc, oP_some, Nat.add_zero]
        refine hK' _ ?_; clear hK' K'
        refine S_lenl T.el32 rfl ?_
        refine S_bin rfl rfl rfl ?_
        refine S_nil (hK22 _ _ (V_keep [0, 6, 75] (by simp only [proj, lk, reduceIte, Nat.reduceEqDiff]; rfl) ?_)); clear hK22
        refine V_condp rfl (fun c101 => ?_) (fun c101 => ?_)
        · skip
          refine V_skipk [0, 6] (by simp only [proj, lk, reduceIte, Nat.reduceEqDiff]; rfl) ?_
          refine hK21 _ _ ?_; clear hK21
          refine V_seq (fun K23 hK23 => ?_)
          refine V_block ?_
          refine V_reg T.mix (by kernel_rfl) ?_
          refine S_mv rfl ?_
          refine S_nc rfl ?_
          first | refine S_fa0 T.f35_6 rfl ?_ | refine S_fa T.f35_6 rfl ?_
          refine S_ldK T.ag32 rfl (fun K' hK' => ?_)
          simp (disch := omega) only [hcc, oP_some, Nat.add_zero]
          refine hK' _ ?_; clear hK' K'
          refine S_mv rfl ?_
          refine S_bld rfl (T.bld61_0_1_2 _ _ _) ?_
          first | refine S_ixmn T.el32 rfl rfl (by omega) ?_ | refine S_ixm T.el32 rfl rfl (by omega) (by omega) ?_ | refine S_ix T.el32 rfl rfl (by omega) (by omega) ?_
          refine S_stl T.sz61 rfl rfl rfl rfl (fun j hj => hXk.okA (by omega)) ?_
          generalize hh : putsH _ _ _ _ = h6
          have hX1 : B h6 bx (arr (n * 3) (stampTo (k + 1) f)) 61 := by rw [← hh]; exact stamp_step hXk
          have hE1 : Ext (fun b => b = bx) hk h6 := by rw [← hh]; exact Ext.puts (S := fun b => b = bx) rfl _ _ _
          clear hh
          refine S_nilk [0, 6] (by simp only [proj, lk, reduceIte, Nat.reduceEqDiff]; rfl) ?_
          refine hK23 _ _ ?_; clear hK23
          refine V_reg T.mix (by kernel_rfl) ?_
          refine S_mv rfl ?_
          first | refine S_add rfl rfl (by omega) (by omega) ?_ | refine S_bin rfl rfl rfl ?_
          refine S_as rfl ?_
          refine S_nilk [0, 6] (by simp only [proj, lk, reduceIte, Nat.reduceEqDiff]; rfl) ?_
          exact hK20 _ _ ⟨_, by omega, k + 1, h6, by omega, hX1, hSk.ext hE1 (fun e => hbD e.symm), hEk.trans (hE1.mono fun _ e => .inr e), rfl, rfl, rfl⟩
        · skip
          refine V_exitk [] rfl (by simp only [proj, lk, reduceIte, Nat.reduceEqDiff]; rfl) ?_
          -- end
          refine hR _ _ (ret0 rfl ?_)
          have hkn2 : k = n := by omega
          subst hkn2
          exact ⟨rfl, _, hD0.rebuild hEk hSk hAw rfl rfl (.inr (.inr ⟨bx, k, rfl, stamp_all hXk, hnx, hn256⟩)) (.inl rfl), hEk.mono (fun b e => by rcases e with e | e; exact .inl e; exact .inr (by rw [e]; rfl)), rfl, rfl, by simp, fun b hw hne => ⟨hw.1, hne, hw.2.2⟩⟩
set_option maxHeartbeats 400000 in
theorem again_spec (h : Heap) (D : Nat) (no : Nat → Prop) (t : DS) (hD : Dk h D no t) (ts : List Tok) (hx : Ans h t.x ts) (hm : Ans h t.m ts) (hlen : ts.length ≤ 256) (hno : ∀ b, blkV t.x = some b → ¬ no b ∧ Away t b) (hna : t.na ≤ 1000000000000000000) :
    FC Try.prog 21 (#[.pointer (some ⟨D, 0, none⟩)] : Array Value) h fun v h' => v = .bool true ∧ ∃ t', Dk h' D no t' ∧ Ext (fun b => b = D ∨ blkV t.x = some b) h h' ∧ t'.text = t.text ∧ t'.lid = t.lid ∧ t'.na ≤ t.na + 1 ∧ (∀ b, Away t b → blkV t.x ≠ some b → Away t' b) ∧ t'.x = (none, 0) ∧ t'.m = (none, 0) := by
  refine FC_of [(0, .pointer (some ⟨D, 0, none⟩))] Try.func21 rfl Try.ntmps21 (by simp) rfl (fun R hR => ?_)
  refine V_sr T.mix (by kernel_rfl) (fun K1 hK1 => ?_)
  refine S_as rfl ?_
  refine S_nil (hK1 _ _ (V_keep [0] (by simp only [proj, lk, reduceIte, Nat.reduceEqDiff]; rfl) ?_)); clear hK1
  refine V_sr T.mix (by kernel_rfl) (fun K2 hK2 => ?_)
  refine S_mv rfl ?_
  refine S_call T.hb29 rfl ?_
  refine FC.mono (untouched_spec h D no t hD) ?_
  rintro v h' ⟨rfl, rfl⟩
  refine S_as rfl ?_
  refine S_nil (hK2 _ _ (V_keep [0, 3] (by simp only [proj, lk, reduceIte, Nat.reduceEqDiff]; rfl) ?_)); clear hK2
  refine V_seq (fun K3 hK3 => ?_)
  refine V_sr T.mix (by kernel_rfl) (fun K4 hK4 => ?_)
  refine S_mv rfl ?_
  refine S_notb rfl ?_
  refine S_nil (hK4 _ _ (V_keep [0, 8] (by simp only [proj, lk, reduceIte, Nat.reduceEqDiff]; rfl) ?_)); clear hK4
  refine V_condb rfl (fun c121 => ?_) (fun c121 => ?_)
  · skip
    cases c121
  · skip
    refine V_skipk [0] (by simp only [proj, lk, reduceIte, Nat.reduceEqDiff]; rfl) ?_
    refine hK3 _ _ ?_; clear hK3
    refine V_sr T.mix (by kernel_rfl) (fun K5 hK5 => ?_)
    refine S_mv rfl ?_
    refine S_nc rfl ?_
    first | refine S_fa0 T.f35_2 rfl ?_ | refine S_fa T.f35_2 rfl ?_
    refine S_ldK T.ag32 rfl (fun K' hK' => ?_)
    simp (disch := omega) only [hD.c0, hD.c1, hD.c2, hD.c3, hD.co, hD.c8, hD.c9, hD.c10, hD.c11, hD.c12, oP_some, Nat.add_zero]
    refine hK' _ ?_; clear hK' K'
    refine S_mv rfl ?_
    refine S_nc rfl ?_
    first | refine S_fa0 T.f35_3 rfl ?_ | refine S_fa T.f35_3 rfl ?_
    refine S_ldK T.ag32 rfl (fun K' hK' => ?_)
    simp (disch := omega) only [hD.c0, hD.c1, hD.c2, hD.c3, hD.co, hD.c8, hD.c9, hD.c10, hD.c11, hD.c12, oP_some, Nat.add_zero]
    refine hK' _ ?_; clear hK' K'
    refine S_call T.hb22 rfl ?_
    refine FC.mono (same_spec h ts t.x t.m hx hm hlen) ?_
    rintro v h' ⟨rfl, rfl⟩
    refine S_as rfl ?_
    refine S_nil (hK5 _ _ (V_keep [0, 4] (by simp only [proj, lk, reduceIte, Nat.reduceEqDiff]; rfl) ?_)); clear hK5
    refine V_seq (fun K6 hK6 => ?_)
    refine V_sr T.mix (by kernel_rfl) (fun K7 hK7 => ?_)
    refine S_mv rfl ?_
    refine S_notb rfl ?_
    refine S_nil (hK7 _ _ (V_keep [0, 19] (by simp only [proj, lk, reduceIte, Nat.reduceEqDiff]; rfl) ?_)); clear hK7
    refine V_condb rfl (fun c125 => ?_) (fun c125 => ?_)
    · skip
      cases c125
    · skip
      refine V_skipk [0] (by simp only [proj, lk, reduceIte, Nat.reduceEqDiff]; rfl) ?_
      refine hK6 _ _ ?_; clear hK6
      refine V_sr T.mix (by kernel_rfl) (fun K8 hK8 => ?_)
      refine S_mv rfl ?_
      refine S_mv rfl ?_
      refine S_nc rfl ?_
      first | refine S_fa0 T.f35_2 rfl ?_ | refine S_fa T.f35_2 rfl ?_
      refine S_ldK T.ag32 rfl (fun K' hK' => ?_)
      simp (disch := omega) only [hD.c0, hD.c1, hD.c2, hD.c3, hD.co, hD.c8, hD.c9, hD.c10, hD.c11, hD.c12, oP_some, Nat.add_zero]
      refine hK' _ ?_; clear hK' K'
      refine S_call T.hb30 rfl ?_
      refine FC.mono (hold_spec h D no t hD t.x ts hx hlen hno hna) ?_
      rintro v h1 ⟨rfl, t1, hD1, hE1, a1, a2, a3, a4⟩
      replace hD := hD1
      refine S_nil (hK8 _ _ (V_keep [0] (by simp only [proj, lk, reduceIte, Nat.reduceEqDiff]; rfl) ?_)); clear hK8
      refine V_sr T.mix (by kernel_rfl) (fun K9 hK9 => ?_)
      refine S_mv rfl ?_
      refine S_nc rfl ?_
      first | refine S_fa0 T.f35_2 rfl ?_ | refine S_fa T.f35_2 rfl ?_
      refine S_st T.sz32 rfl rfl rfl rfl (by simp (disch := omega) only [hD.ok]) ?_
      generalize hh : putH _ _ _ = h2
      have hEh2 : Ext (fun b => b = D) h1 h2 := by rw [← hh]; exact Ext.put _ _ rfl
      have hSh2 : B h2 D (dcells { t1 with x := (none, 0) }) 35 := by rw [← hh]; exact hD.s.put 2 _
      clear hh
      replace hD : Dk h2 D no { t1 with x := (none, 0) } := hD.ext hEh2 hSh2 (fun b e => .inl (by subst e; exact hD.noD)) (fun _ _ => rfl) rfl rfl rfl
      refine S_nil (hK9 _ _ (V_keep [0] (by simp only [proj, lk, reduceIte, Nat.reduceEqDiff]; rfl) ?_)); clear hK9
      refine V_sr T.mix (by kernel_rfl) (fun K10 hK10 => ?_)
      refine S_mv rfl ?_
      refine S_nc rfl ?_
      first | refine S_fa0 T.f35_3 rfl ?_ | refine S_fa T.f35_3 rfl ?_
      refine S_st T.sz32 rfl rfl rfl rfl (by simp (disch := omega) only [hD.ok]) ?_
      generalize hh : putH _ _ _ = h3
      have hEh3 : Ext (fun b => b = D) h2 h3 := by rw [← hh]; exact Ext.put _ _ rfl
      have hSh3 : B h3 D (dcells { t1 with x := (none, 0), m := (none, 0) }) 35 := by rw [← hh]; exact hD.s.put 3 _
      clear hh
      replace hD : Dk h3 D no { t1 with x := (none, 0), m := (none, 0) } := hD.ext hEh3 hSh3 (fun b e => .inl (by subst e; exact hD.noD)) (fun _ _ => rfl) rfl rfl rfl
      refine S_nil (hK10 _ _ (V_keep [] (by simp only [proj, lk, reduceIte, Nat.reduceEqDiff]; rfl) ?_)); clear hK10
      refine V_sr T.mix (by kernel_rfl) (fun K11 hK11 => ?_)
      refine S_as rfl ?_
      refine S_nil (hK11 _ _ (V_keep [2] (by simp only [proj, lk, reduceIte, Nat.reduceEqDiff]; rfl) ?_)); clear hK11
      refine V_ret ?_
      refine hR _ _ (ret1 rfl rfl ?_)
      exact ⟨rfl, _, hD, (hE1.trans (hEh2.mono fun _ e => .inl e)).trans (hEh3.mono fun _ e => .inl e), a1, a2, a3, a4, rfl, rfl⟩
end Go.Proofs.Qxb6500408a
