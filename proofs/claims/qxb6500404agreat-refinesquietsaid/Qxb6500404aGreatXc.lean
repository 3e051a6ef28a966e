import Derived.Test.Qxb6500404aGreatXb
set_option linter.unusedVariables false
set_option linter.unusedSimpArgs false
namespace Go.Proofs.Qxb6500404aGreat.HufW
open Go.Eng Go.Huf

/-- the answer of the search as a number -/
def SB (c l : Nat → Nat) (lo hi : Nat) (rare : Bool) (i : Nat) (b : Int) : Prop := (b = -1 ∧ sk c l lo hi rare i = none) ∨ ∃ n : Nat, b = n ∧ n < i ∧ sk c l lo hi rare i = some n
theorem SB.z (c l : Nat → Nat) (lo hi : Nat) (rare : Bool) : SB c l lo hi rare 0 (-1) := .inl ⟨rfl, rfl⟩
section sb
variable {c l : Nat → Nat} {lo hi : Nat} {rare : Bool} {i : Nat} {b : Int}
theorem SB.no (h : SB c l lo hi rare i b) (hn : ¬ (lo ≤ l i ∧ l i ≤ hi)) : SB c l lo hi rare (i + 1) b := by
  rcases h with ⟨h1, h2⟩ | ⟨n, h1, h2, h3⟩
  · exact .inl ⟨h1, by rw [sk, h2]; simp only []; rw [if_neg hn]⟩
  · exact .inr ⟨n, h1, by omega, by rw [sk, h3]; simp only []; rw [if_neg (fun e => hn e.1)]⟩
theorem SB.ge (h : SB c l lo hi rare i b) (h0 : ¬ b < 0) : ∃ n : Nat, b = n ∧ n < i ∧ sk c l lo hi rare i = some n := by
  rcases h with ⟨h1, h2⟩ | q
  · omega
  · exact q
theorem SB.lt (h : SB c l lo hi rare i b) (h0 : b < 0) (hr : lo ≤ l i ∧ l i ≤ hi) : SB c l lo hi rare (i + 1) (i : Nat) := by
  rcases h with ⟨h1, h2⟩ | ⟨n, h1, h2, h3⟩
  · exact .inr ⟨i, rfl, by omega, by rw [sk, h2]; simp only []; rw [if_pos hr]⟩
  · omega
end sb
theorem SB.new {c l : Nat → Nat} {lo hi : Nat} {rare : Bool} {i n : Nat} (h : sk c l lo hi rare i = some n) (hr : lo ≤ l i ∧ l i ≤ hi) (hb : btr c l rare i n) : SB c l lo hi rare (i + 1) (i : Nat) := .inr ⟨i, rfl, by omega, by rw [sk, h]; simp only []; rw [if_pos ⟨hr, hb⟩]⟩
theorem SB.old {c l : Nat → Nat} {lo hi : Nat} {rare : Bool} {i n : Nat} (h : sk c l lo hi rare i = some n) (hn : n < i) (hb : ¬ btr c l rare i n) : SB c l lo hi rare (i + 1) (n : Nat) := .inr ⟨n, rfl, by omega, by rw [sk, h]; simp only []; rw [if_neg (fun e => hb e.2)]⟩
theorem SB.some {c l : Nat → Nat} {lo hi : Nat} {rare : Bool} {i n : Nat} {b : Int} (h : SB c l lo hi rare i b) (e : sk c l lo hi rare i = some n) : b = n := by
  rcases h with ⟨_, h2⟩ | ⟨k, h1, _, h3⟩
  · rw [e] at h2; cases h2
  · rw [e] at h3; cases h3; exact h1
theorem p10 {a : Nat} (h : a ≤ 10) : 2 ^ a ≤ 1024 := Nat.pow_le_pow_right (n := 2) (by omega) h
theorem pp2 (a : Nat) : 0 < 2 ^ a := Nat.pow_pos (by omega)
theorem t64 {a : Nat} (h : a ≤ 1000000) : a < top .i64 := Nat.lt_of_le_of_lt h (by decide)
theorem tu64 {a : Nat} (h : a ≤ 1000000) : a < top .u64 := Nat.lt_of_le_of_lt h (by decide)
theorem kk_succ (L : Nat) (l : Nat → Nat) (n : Nat) : kk L l (n + 1) = kk L l n + if 0 < l n then 2 ^ (L - l n) else 0 := rfl
theorem kk_le {L : Nat} {l : Nat → Nat} (hL : L ≤ 10) : ∀ n, kk L l n ≤ 1024 * n
  | 0 => Nat.le_refl _
  | n + 1 => by
    have := kk_le (l := l) hL n
    have := p10 (show L - l n ≤ 10 by omega)
    rw [kk_succ]; split <;> omega
set_option maxHeartbeats 1600000 in
theorem seek_spec (h : Heap) (N : Nat) (cnt lf : Nat → Nat) (ab ao cap ob : Nat) (hN : N ≤ 265) (hIc : OL h (some ⟨ab, ao, none⟩) cap (il N cnt)) (hob : B h ob (ia N lf) 3) (hcb : ∀ i, i < N → cnt i ≤ 1048576) (lo hi : Nat) (hlo : lo ≤ 1000) (hhi : hi ≤ 1000) (sg : Int) (rare : Bool) (hsg : rare = true ∧ sg = -1 ∨ rare = false ∧ sg = 1) :
    FC Tryz.prog 181 (#[.slice (some ⟨ab, ao, none⟩) N cap, .slice (some ⟨ob, 0, none⟩) N N, .int .i64 (lo : Int), .int .i64 (hi : Int), .int .i64 sg] : Array Value) h fun rv h' => ∃ b : Int, rv = .int .i64 b ∧ SB cnt lf lo hi rare N b ∧ h = h' := by
  have hat := hIc.nat
  have hlt := ia_at hob
  refine FC_of [(0, .slice (some ⟨ab, ao, none⟩) N cap), (1, .slice (some ⟨ob, 0, none⟩) N N), (2, .int .i64 (lo : Int)), (3, .int .i64 (hi : Int)), (4, .int .i64 sg)] Tryz.func181 rfl Tryz.ntmps181 (by simp) rfl (fun R hR => ?_)
  refine V_sr T.mix (by kernel_rfl) (fun K1 hK1 => ?_)
  refine S_as rfl ?_
  refine S_nil (hK1 _ _ (V_keep [0, 1, 2, 3, 4] (by simp only [proj, lk, reduceIte, Nat.reduceEqDiff]; rfl) ?_)); clear hK1
  refine V_sr T.mix (by kernel_rfl) (fun K2 hK2 => ?_)
  refine S_as rfl ?_
  refine S_nil (hK2 _ _ (V_keep [0, 1, 2, 3, 4, 11] (by simp only [proj, lk, reduceIte, Nat.reduceEqDiff]; rfl) ?_)); clear hK2
  refine V_seq (fun K3 hK3 => ?_)
  refine V_sr T.mix (by kernel_rfl) (fun K4 hK4 => ?_)
  refine S_as rfl ?_
  refine S_nil (hK4 _ _ (V_keep [0, 1, 2, 3, 4, 11, 12] (by simp only [proj, lk, reduceIte, Nat.reduceEqDiff]; rfl) ?_)); clear hK4
  refine V_block ?_
  refine V_loop (fun m l h' => ∃ (i : Nat) (b : Int), (i ≤ N) ∧ (SB cnt lf lo hi rare i b) ∧ m = N - i ∧ l = [(0, .slice (some ⟨ab, ao, none⟩) N cap), (1, .slice (some ⟨ob, 0, none⟩) N N), (2, .int .i64 (lo : Int)), (3, .int .i64 (hi : Int)), (4, .int .i64 sg), (11, .int .i64 b), (12, .int .i64 (i : Int))] ∧ h = h') _ ⟨0, -1, by omega, SB.z _ _ _ _ _, rfl, rfl, rfl⟩ ?_
  rintro m l h' ⟨i, b, hi_, hb, rfl, rfl, rfl⟩ K5 hK5
  have hci : i < N → cnt i ≤ 1048576 := fun z => hcb i z
  refine V_seq (fun K6 hK6 => ?_)
  refine V_sr T.mix (by kernel_rfl) (fun K7 hK7 => ?_)
  refine S_mv rfl ?_
  refine S_mv rfl ?_
  refine S_lenl T.el56 rfl ?_
  refine S_bin rfl rfl rfl ?_
  refine S_nil (hK7 _ _ (V_keep [0, 1, 2, 3, 4, 11, 12, 16] (by simp only [proj, lk, reduceIte, Nat.reduceEqDiff]; rfl) ?_)); clear hK7
  refine V_condp rfl (fun c100 => ?_) (fun c100 => ?_)
  · skip
    refine V_skipk [0, 1, 2, 3, 4, 11, 12] (by simp only [proj, lk, reduceIte, Nat.reduceEqDiff]; rfl) ?_
    refine hK6 _ _ ?_; clear hK6
    refine V_seq (fun K8 hK8 => ?_)
    refine V_block ?_
    refine V_seq (fun K9 hK9 => ?_)
    refine V_sr T.mix (by kernel_rfl) (fun K10 hK10 => ?_)
    refine S_mv rfl ?_
    refine S_mv rfl ?_
    first | refine S_ixn T.el56 rfl rfl (by omega) ?_ | refine S_ix1 T.el56 rfl rfl (by omega) (by omega) ?_ | refine S_ix T.el56 rfl rfl (by omega) (by omega) ?_
    refine S_ldK T.ag3 rfl (fun K' hK' => ?_)
    simp (disch := omega) only [hat, Nat.mul_one, Int.toNat_natCast, hlt, oP_some, Nat.add_zero]
    refine hK' _ ?_; clear hK' K'
    refine S_mv rfl ?_
    refine S_bin rfl rfl rfl ?_
    refine S_mv rfl ?_
    refine S_dec (fun g101 => ?_) (fun g101 => ?_)
    · skip
      refine S_gf rfl ?_
      refine S_gf rfl ?_
      refine S_gf rfl ?_
      refine S_gf rfl ?_
      refine S_gf rfl ?_
      refine S_gf rfl ?_
      refine S_pt rfl rfl ?_
      refine S_nil (hK10 _ _ (V_keep [0, 1, 2, 3, 4, 11, 12, 32] (by simp only [proj, lk, reduceIte, Nat.reduceEqDiff]; rfl) ?_)); clear hK10
      refine V_condt rfl ?_
      refine V_exitk [0, 1, 2, 3, 4, 11, 12] rfl (by simp only [proj, lk, reduceIte, Nat.reduceEqDiff]; rfl) ?_
      refine hK8 _ _ ?_; clear hK8
      refine V_reg T.mix (by kernel_rfl) ?_
      refine S_mv rfl ?_
      first | refine S_add rfl rfl (by omega) (by omega) ?_ | refine S_bin rfl rfl rfl ?_
      refine S_as rfl ?_
      refine S_nilk [0, 1, 2, 3, 4, 11, 12] (by simp only [proj, lk, reduceIte, Nat.reduceEqDiff]; rfl) ?_
      exact hK5 _ _ ⟨_, by omega, i + 1, b, by omega, hb.no (by omega), rfl, rfl, rfl⟩
    · skip
      refine S_gt rfl ?_
      refine S_mv rfl ?_
      refine S_gt rfl ?_
      refine S_mv rfl ?_
      refine S_gt rfl ?_
      first | refine S_ixn T.el56 rfl rfl (by omega) ?_ | refine S_ix1 T.el56 rfl rfl (by omega) (by omega) ?_ | refine S_ix T.el56 rfl rfl (by omega) (by omega) ?_
      refine S_gt rfl ?_
      refine S_ldK T.ag3 rfl (fun K' hK' => ?_)
      simp (disch := omega) only [hat, Nat.mul_one, Int.toNat_natCast, hlt, oP_some, Nat.add_zero]
      refine hK' _ ?_; clear hK' K'
      refine S_gt rfl ?_
      refine S_mv rfl ?_
      refine S_gt rfl ?_
      refine S_bin rfl rfl rfl ?_
      refine S_pf rfl rfl ?_
      refine S_nil (hK10 _ _ (V_keep [0, 1, 2, 3, 4, 11, 12, 32] (by simp only [proj, lk, reduceIte, Nat.reduceEqDiff]; rfl) ?_)); clear hK10
      refine V_condp rfl (fun c101 => ?_) (fun c101 => ?_)
      · skip
        refine V_exitk [0, 1, 2, 3, 4, 11, 12] rfl (by simp only [proj, lk, reduceIte, Nat.reduceEqDiff]; rfl) ?_
        refine hK8 _ _ ?_; clear hK8
        refine V_reg T.mix (by kernel_rfl) ?_
        refine S_mv rfl ?_
        first | refine S_add rfl rfl (by omega) (by omega) ?_ | refine S_bin rfl rfl rfl ?_
        refine S_as rfl ?_
        refine S_nilk [0, 1, 2, 3, 4, 11, 12] (by simp only [proj, lk, reduceIte, Nat.reduceEqDiff]; rfl) ?_
        exact hK5 _ _ ⟨_, by omega, i + 1, b, by omega, hb.no (by omega), rfl, rfl, rfl⟩
      · skip
        refine V_skipk [0, 1, 2, 3, 4, 11, 12] (by simp only [proj, lk, reduceIte, Nat.reduceEqDiff]; rfl) ?_
        refine hK9 _ _ ?_; clear hK9
        refine V_sr T.mix (by kernel_rfl) (fun K11 hK11 => ?_)
        refine S_mv rfl ?_
        refine S_bin rfl rfl rfl ?_
        refine S_mv rfl ?_
        refine S_dec (fun g104 => ?_) (fun g104 => ?_)
        · skip
          refine S_gf rfl ?_
          refine S_gf rfl ?_
          refine S_gf rfl ?_
          refine S_gf rfl ?_
          refine S_gf rfl ?_
          refine S_gf rfl ?_
          refine S_gf rfl ?_
          refine S_gf rfl ?_
          refine S_gf rfl ?_
          refine S_pt rfl rfl ?_
          refine S_nil (hK11 _ _ (V_keep [0, 1, 2, 3, 4, 11, 12, 45] (by simp only [proj, lk, reduceIte, Nat.reduceEqDiff]; rfl) ?_)); clear hK11
          refine V_condt rfl ?_
          refine V_reg T.mix (by kernel_rfl) ?_
          refine S_mv rfl ?_
          refine S_as rfl ?_
          refine S_nilk [0, 1, 2, 3, 4, 11, 12] (by simp only [proj, lk, reduceIte, Nat.reduceEqDiff]; rfl) ?_
          refine hK8 _ _ ?_; clear hK8
          refine V_reg T.mix (by kernel_rfl) ?_
          refine S_mv rfl ?_
          first | refine S_add rfl rfl (by omega) (by omega) ?_ | refine S_bin rfl rfl rfl ?_
          refine S_as rfl ?_
          refine S_nilk [0, 1, 2, 3, 4, 11, 12] (by simp only [proj, lk, reduceIte, Nat.reduceEqDiff]; rfl) ?_
          exact hK5 _ _ ⟨_, by omega, i + 1, i, by omega, hb.lt g104 (by omega), rfl, rfl, rfl⟩
        · skip
          obtain ⟨n, hbn, hni, hsk⟩ := hb.ge g104
          subst hbn
          have hcn : cnt n ≤ 1048576 := hcb n (by omega)
          refine S_gt rfl ?_
          refine S_mv rfl ?_
          refine S_gt rfl ?_
          refine S_mv rfl ?_
          refine S_gt rfl ?_
          first | refine S_ixn T.el56 rfl rfl (by omega) ?_ | refine S_ix1 T.el56 rfl rfl (by omega) (by omega) ?_ | refine S_ix T.el56 rfl rfl (by omega) (by omega) ?_
          refine S_gt rfl ?_
          refine S_ldK T.ag3 rfl (fun K' hK' => ?_)
          simp (disch := omega) only [hat, Nat.mul_one, Int.toNat_natCast, hlt, oP_some, Nat.add_zero]
          refine hK' _ ?_; clear hK' K'
          refine S_gt rfl ?_
          refine S_mv rfl ?_
          refine S_gt rfl ?_
          refine S_mv rfl ?_
          refine S_gt rfl ?_
          first | refine S_ixn T.el56 rfl rfl (by omega) ?_ | refine S_ix1 T.el56 rfl rfl (by omega) (by omega) ?_ | refine S_ix T.el56 rfl rfl (by omega) (by omega) ?_
          refine S_gt rfl ?_
          refine S_ldK T.ag3 rfl (fun K' hK' => ?_)
          simp (disch := omega) only [hat, Nat.mul_one, Int.toNat_natCast, hlt, oP_some, Nat.add_zero]
          refine hK' _ ?_; clear hK' K'
          refine S_gt rfl ?_
          refine S_bin rfl rfl rfl ?_
          refine S_pf rfl rfl ?_
          refine S_nil (hK11 _ _ (V_keep [0, 1, 2, 3, 4, 11, 12, 45] (by simp only [proj, lk, reduceIte, Nat.reduceEqDiff]; rfl) ?_)); clear hK11
          refine V_condp rfl (fun c104 => ?_) (fun c104 => ?_)
          · skip
            refine V_reg T.mix (by kernel_rfl) ?_
            refine S_mv rfl ?_
            refine S_as rfl ?_
            refine S_nilk [0, 1, 2, 3, 4, 11, 12] (by simp only [proj, lk, reduceIte, Nat.reduceEqDiff]; rfl) ?_
            refine hK8 _ _ ?_; clear hK8
            refine V_reg T.mix (by kernel_rfl) ?_
            refine S_mv rfl ?_
            first | refine S_add rfl rfl (by omega) (by omega) ?_ | refine S_bin rfl rfl rfl ?_
            refine S_as rfl ?_
            refine S_nilk [0, 1, 2, 3, 4, 11, 12] (by simp only [proj, lk, reduceIte, Nat.reduceEqDiff]; rfl) ?_
            exact hK5 _ _ ⟨_, by omega, i + 1, i, by omega, SB.new hsk (by omega) (by unfold btr; left; omega), rfl, rfl, rfl⟩
          · skip
            refine V_sr T.mix (by kernel_rfl) (fun K12 hK12 => ?_)
            refine S_mv rfl ?_
            refine S_mv rfl ?_
            first | refine S_ixn T.el56 rfl rfl (by omega) ?_ | refine S_ix1 T.el56 rfl rfl (by omega) (by omega) ?_ | refine S_ix T.el56 rfl rfl (by omega) (by omega) ?_
            refine S_ldK T.ag3 rfl (fun K' hK' => ?_)
            simp (disch := omega) only [hat, Nat.mul_one, Int.toNat_natCast, hlt, oP_some, Nat.add_zero]
            refine hK' _ ?_; clear hK' K'
            refine S_mv rfl ?_
            refine S_mv rfl ?_
            first | refine S_ixn T.el56 rfl rfl (by omega) ?_ | refine S_ix1 T.el56 rfl rfl (by omega) (by omega) ?_ | refine S_ix T.el56 rfl rfl (by omega) (by omega) ?_
            refine S_ldK T.ag3 rfl (fun K' hK' => ?_)
            simp (disch := omega) only [hat, Nat.mul_one, Int.toNat_natCast, hlt, oP_some, Nat.add_zero]
            refine hK' _ ?_; clear hK' K'
            refine S_bin rfl rfl rfl ?_
            refine S_mv rfl ?_
            refine S_dec (fun g106 => ?_) (fun g106 => ?_)
            · skip
              refine S_gt rfl ?_
              refine S_mv rfl ?_
              refine S_gt rfl ?_
              refine S_mv rfl ?_
              refine S_gt rfl ?_
              refine S_mv rfl ?_
              refine S_gt rfl ?_
              first | refine S_ixn T.el56 rfl rfl (by omega) ?_ | refine S_ix1 T.el56 rfl rfl (by omega) (by omega) ?_ | refine S_ix T.el56 rfl rfl (by omega) (by omega) ?_
              refine S_gt rfl ?_
              refine S_ldK T.ag3 rfl (fun K' hK' => ?_)
              simp (disch := omega) only [hat, Nat.mul_one, Int.toNat_natCast, hlt, oP_some, Nat.add_zero]
              refine hK' _ ?_; clear hK' K'
              refine S_gt rfl ?_
              refine S_mul rfl rfl (by rcases hsg with q | q <;> rw [q.2] <;> omega) (by rcases hsg with q | q <;> rw [q.2] <;> omega) ?_
              refine S_gt rfl ?_
              refine S_mv rfl ?_
              refine S_gt rfl ?_
              refine S_mv rfl ?_
              refine S_gt rfl ?_
              refine S_mv rfl ?_
              refine S_gt rfl ?_
              first | refine S_ixn T.el56 rfl rfl (by omega) ?_ | refine S_ix1 T.el56 rfl rfl (by omega) (by omega) ?_ | refine S_ix T.el56 rfl rfl (by omega) (by omega) ?_
              refine S_gt rfl ?_
              refine S_ldK T.ag3 rfl (fun K' hK' => ?_)
              simp (disch := omega) only [hat, Nat.mul_one, Int.toNat_natCast, hlt, oP_some, Nat.add_zero]
              refine hK' _ ?_; clear hK' K'
              refine S_gt rfl ?_
              refine S_mul rfl rfl (by rcases hsg with q | q <;> rw [q.2] <;> omega) (by rcases hsg with q | q <;> rw [q.2] <;> omega) ?_
              refine S_gt rfl ?_
              refine S_bin rfl rfl rfl ?_
              refine S_pt rfl rfl ?_
              refine S_nil (hK12 _ _ (V_keep [0, 1, 2, 3, 4, 11, 12, 70] (by simp only [proj, lk, reduceIte, Nat.reduceEqDiff]; rfl) ?_)); clear hK12
              refine V_condp rfl (fun c106 => ?_) (fun c106 => ?_)
              · skip
                have hbt : btr cnt lf rare i n := by
                  unfold btr; right; refine ⟨by omega, ?_⟩
                  rcases hsg with q | q
                  · rw [q.2] at c106; rw [if_pos q.1]; omega
                  · rw [q.2] at c106; rw [if_neg (by rw [q.1]; decide)]; omega
                refine V_reg T.mix (by kernel_rfl) ?_
                refine S_mv rfl ?_
                refine S_as rfl ?_
                refine S_nilk [0, 1, 2, 3, 4, 11, 12] (by simp only [proj, lk, reduceIte, Nat.reduceEqDiff]; rfl) ?_
                refine hK8 _ _ ?_; clear hK8
                refine V_reg T.mix (by kernel_rfl) ?_
                refine S_mv rfl ?_
                first | refine S_add rfl rfl (by omega) (by omega) ?_ | refine S_bin rfl rfl rfl ?_
                refine S_as rfl ?_
                refine S_nilk [0, 1, 2, 3, 4, 11, 12] (by simp only [proj, lk, reduceIte, Nat.reduceEqDiff]; rfl) ?_
                exact hK5 _ _ ⟨_, by omega, i + 1, i, by omega, SB.new hsk (by omega) hbt, rfl, rfl, rfl⟩
              · skip
                have hbt : ¬ btr cnt lf rare i n := by
                  unfold btr; rintro (z | z)
                  · omega
                  · rcases hsg with q | q
                    · rw [q.2] at c106; have z2 := z.2; rw [if_pos q.1] at z2; omega
                    · rw [q.2] at c106; have z2 := z.2; rw [if_neg (by rw [q.1]; decide)] at z2; omega
                refine V_skipk [0, 1, 2, 3, 4, 11, 12] (by simp only [proj, lk, reduceIte, Nat.reduceEqDiff]; rfl) ?_
                refine hK8 _ _ ?_; clear hK8
                refine V_reg T.mix (by kernel_rfl) ?_
                refine S_mv rfl ?_
                first | refine S_add rfl rfl (by omega) (by omega) ?_ | refine S_bin rfl rfl rfl ?_
                refine S_as rfl ?_
                refine S_nilk [0, 1, 2, 3, 4, 11, 12] (by simp only [proj, lk, reduceIte, Nat.reduceEqDiff]; rfl) ?_
                exact hK5 _ _ ⟨_, by omega, i + 1, n, by omega, SB.old hsk hni hbt, rfl, rfl, rfl⟩
            · skip
              refine S_gf rfl ?_
              refine S_gf rfl ?_
              refine S_gf rfl ?_
              refine S_gf rfl ?_
              refine S_gf rfl ?_
              refine S_gf rfl ?_
              refine S_gf rfl ?_
              refine S_gf rfl ?_
              refine S_gf rfl ?_
              refine S_gf rfl ?_
              refine S_gf rfl ?_
              refine S_gf rfl ?_
              refine S_gf rfl ?_
              refine S_pf rfl rfl ?_
              refine S_nil (hK12 _ _ (V_keep [0, 1, 2, 3, 4, 11, 12, 70] (by simp only [proj, lk, reduceIte, Nat.reduceEqDiff]; rfl) ?_)); clear hK12
              refine V_condf rfl ?_
              refine V_skipk [0, 1, 2, 3, 4, 11, 12] (by simp only [proj, lk, reduceIte, Nat.reduceEqDiff]; rfl) ?_
              refine hK8 _ _ ?_; clear hK8
              refine V_reg T.mix (by kernel_rfl) ?_
              refine S_mv rfl ?_
              first | refine S_add rfl rfl (by omega) (by omega) ?_ | refine S_bin rfl rfl rfl ?_
              refine S_as rfl ?_
              refine S_nilk [0, 1, 2, 3, 4, 11, 12] (by simp only [proj, lk, reduceIte, Nat.reduceEqDiff]; rfl) ?_
              exact hK5 _ _ ⟨_, by omega, i + 1, n, by omega, SB.old hsk hni (by unfold btr; omega), rfl, rfl, rfl⟩
  · skip
    refine V_exitk [11] rfl (by simp only [proj, lk, reduceIte, Nat.reduceEqDiff]; rfl) ?_
    refine hK3 _ _ ?_; clear hK3
    refine V_sr T.mix (by kernel_rfl) (fun K13 hK13 => ?_)
    refine S_mv rfl ?_
    refine S_as rfl ?_
    refine S_nil (hK13 _ _ (V_keep [10] (by simp only [proj, lk, reduceIte, Nat.reduceEqDiff]; rfl) ?_)); clear hK13
    refine V_ret ?_
    refine hR _ _ (ret1 rfl rfl ?_)
    exact ⟨b, rfl, by rw [show N = i by omega]; exact hb, rfl⟩
set_option maxHeartbeats 3200000 in
theorem rmend_spec (h : Heap) (N : Nat) (cnt lf : Nat → Nat) (ab ao cap ob : Nat) (hN : N ≤ 265) (hIc : OL h (some ⟨ab, ao, none⟩) cap (il N cnt)) (hob : B h ob (ia N lf) 3) (hcb : ∀ i, i < N → cnt i ≤ 1048576) (L : Nat) (hao : ab ≠ ob) (hL1 : 1 ≤ L) (hL2 : L ≤ 10) (hu : liv cnt N ≤ 2 ^ L) (h2 : 2 ≤ liv cnt N) (hz : ∀ i, i < N → (lf i = 0 ↔ cnt i = 0)) (hle : ∀ i, i < N → lf i ≤ 1000) :
    FC Tryz.prog 157 (#[.slice (some ⟨ab, ao, none⟩) N cap, .slice (some ⟨ob, 0, none⟩) N N, .int .i64 (L : Int)] : Array Value) h fun rv h' => rv = .tuple #[] ∧ ∃ o, B h' ob (ia N o) 3 ∧ (∀ i, i < N → o i = mend N cnt L lf i) ∧ Ext (fun b => b = ob) h h' := by
  have hp := p10 hL2
  have hp0 := pp2 L
  refine FC_of [(0, .slice (some ⟨ab, ao, none⟩) N cap), (1, .slice (some ⟨ob, 0, none⟩) N N), (2, .int .i64 (L : Int))] Tryz.func157 rfl Tryz.ntmps157 (by simp) rfl (fun R hR => ?_)
  refine V_sr T.mix (by kernel_rfl) (fun K1 hK1 => ?_)
  refine S_mv rfl ?_
  refine S_cvN (L) T.us3 T.in105 rfl (by omega) (tu64 (by omega)) ?_
  refine S_nshl 1 (L) (2 ^ (L)) rfl rfl rfl rfl (Nat.one_mul _) (show L ≤ 64 by omega) (t64 (by have h9 := p10 (a := L) (by omega); omega)) ?_
  refine S_as rfl ?_
  refine S_nil (hK1 _ _ (V_keep [0, 1, 2, 6] (by simp only [proj, lk, reduceIte, Nat.reduceEqDiff]; rfl) ?_)); clear hK1
  refine V_sr T.mix (by kernel_rfl) (fun K2 hK2 => ?_)
  refine S_as rfl ?_
  refine S_nil (hK2 _ _ (V_keep [0, 1, 2, 6, 7] (by simp only [proj, lk, reduceIte, Nat.reduceEqDiff]; rfl) ?_)); clear hK2
  refine V_seq (fun K3 hK3 => ?_)
  refine V_sr T.mix (by kernel_rfl) (fun K4 hK4 => ?_)
  refine S_as rfl ?_
  refine S_nil (hK4 _ _ (V_keep [0, 1, 2, 6, 7, 8] (by simp only [proj, lk, reduceIte, Nat.reduceEqDiff]; rfl) ?_)); clear hK4
  refine V_block ?_
  refine V_loop (fun m l h' => ∃ (s kx : Nat) (hk : Heap) (A : Nat → Nat), (s ≤ N) ∧ (B hk ob (ia N A) 3) ∧ (∀ i, i < s → A i = cut L lf i) ∧ (∀ i, s ≤ i → A i = lf i) ∧ (kx = kk L (cut L lf) s) ∧ (Ext (fun b => b = ob) h hk) ∧ m = N - s ∧ l = [(0, .slice (some ⟨ab, ao, none⟩) N cap), (1, .slice (some ⟨ob, 0, none⟩) N N), (2, .int .i64 (L : Int)), (6, .int .i64 ((2 ^ L : Nat) : Int)), (7, .int .i64 (kx : Int)), (8, .int .i64 (s : Int))] ∧ hk = h') _ ⟨0, 0, h, lf, Nat.zero_le _, hob, fun i hi => by omega, fun i _ => rfl, rfl, Ext.refl _ _, rfl, rfl, rfl⟩ ?_
  rintro m l h' ⟨s, kx, hk, A, hs, hA, hA1, hA2, hkx, hE, rfl, rfl, rfl⟩ K5 hK5
  have hlt := ia_at hA
  have hoo := ia_ok hA
  have hAs := hA2 s (Nat.le_refl _)
  have hkl := kk_le (l := cut L lf) hL2 s
  have hls : s < N → lf s ≤ 1000 := fun z => hle s z
  refine V_seq (fun K6 hK6 => ?_)
  refine V_sr T.mix (by kernel_rfl) (fun K7 hK7 => ?_)
  refine S_mv rfl ?_
  refine S_mv rfl ?_
  refine S_lenl T.el56 rfl ?_
  refine S_bin rfl rfl rfl ?_
  refine S_nil (hK7 _ _ (V_keep [0, 1, 2, 6, 7, 8, 17] (by simp only [proj, lk, reduceIte, Nat.reduceEqDiff]; rfl) ?_)); clear hK7
  refine V_condp rfl (fun c118 => ?_) (fun c118 => ?_)
  · skip
    refine V_skipk [0, 1, 2, 6, 7, 8] (by simp only [proj, lk, reduceIte, Nat.reduceEqDiff]; rfl) ?_
    refine hK6 _ _ ?_; clear hK6
    refine V_seq (fun K8 hK8 => ?_)
    refine V_block ?_
    refine V_seqJ (fun l h' => ∃ (hk : Heap) (A : Nat → Nat), (B hk ob (ia N A) 3) ∧ (∀ i, i < s + 1 → A i = cut L lf i) ∧ (∀ i, s + 1 ≤ i → A i = lf i) ∧ (Ext (fun b => b = ob) h hk) ∧ l = [(0, .slice (some ⟨ab, ao, none⟩) N cap), (1, .slice (some ⟨ob, 0, none⟩) N N), (2, .int .i64 (L : Int)), (6, .int .i64 ((2 ^ L : Nat) : Int)), (7, .int .i64 (kx : Int)), (8, .int .i64 (s : Int))] ∧ hk = h') ?_ ?_
    · skip
      refine V_sr T.mix (by kernel_rfl) (fun K10 hK10 => ?_)
      refine S_mv rfl ?_
      refine S_mv rfl ?_
      first | refine S_ixn T.el56 rfl rfl (by omega) ?_ | refine S_ix1 T.el56 rfl rfl (by omega) (by omega) ?_ | refine S_ix T.el56 rfl rfl (by omega) (by omega) ?_
      refine S_ldK T.ag3 rfl (fun K' hK' => ?_)
      simp (disch := omega) only [hlt, oP_some, Nat.add_zero]
      refine hK' _ ?_; clear hK' K'
      refine S_mv rfl ?_
      refine S_bin rfl rfl rfl ?_
      refine S_nil (hK10 _ _ (V_keep [0, 1, 2, 6, 7, 8, 25] (by simp only [proj, lk, reduceIte, Nat.reduceEqDiff]; rfl) ?_)); clear hK10
      refine V_condp rfl (fun c119 => ?_) (fun c119 => ?_)
      · skip
        have hA1_ := hA1
        refine V_reg T.mix (by kernel_rfl) ?_
        refine S_mv rfl ?_
        refine S_mv rfl ?_
        refine S_mv rfl ?_
        first | refine S_ixn T.el56 rfl rfl (by omega) ?_ | refine S_ix1 T.el56 rfl rfl (by omega) (by omega) ?_ | refine S_ix T.el56 rfl rfl (by omega) (by omega) ?_
        refine S_st T.sz3 rfl rfl rfl rfl (by simp (disch := omega) only [hoo]) ?_
        generalize hh : putH _ _ _ = h1
        have hA1 : B h1 ob (ia N (ups A s L)) 3 := by rw [← hh]; exact ia_put hA s L
        have hE1 : Ext (fun b => b = ob) hk h1 := by rw [← hh]; exact Ext.put _ _ rfl
        clear hh
        refine S_nilk [0, 1, 2, 6, 7, 8] (by simp only [proj, lk, reduceIte, Nat.reduceEqDiff]; rfl) ?_
        exact ⟨h1, ups A s L, hA1, fun i hi => by by_cases e : i = s; (rw [e, ups_eq]; unfold cut; rw [if_pos (by omega)]); (rw [ups_ne _ _ e]; exact hA1_ i (by omega)), fun i hi => by rw [ups_ne _ _ (by omega)]; exact hA2 i (by omega), hE.trans hE1, rfl, rfl⟩
      · skip
        refine V_skipk [0, 1, 2, 6, 7, 8] (by simp only [proj, lk, reduceIte, Nat.reduceEqDiff]; rfl) ?_
        exact ⟨hk, A, hA, fun i hi => by by_cases e : i = s; (rw [e, hAs]; unfold cut; rw [if_neg (by omega)]); (exact hA1 i (by omega)), fun i hi => hA2 i (by omega), hE, rfl, rfl⟩
    rintro l h' ⟨hk, A, hA, hA3, hA4, hE, rfl, rfl⟩
    have hlt := ia_at hA
    have hcs := hA3 s (by omega)
    have hcl : A s ≤ L := by rw [hcs]; unfold cut; split <;> omega
    refine V_sr T.mix (by kernel_rfl) (fun K11 hK11 => ?_)
    refine S_mv rfl ?_
    refine S_mv rfl ?_
    first | refine S_ixn T.el56 rfl rfl (by omega) ?_ | refine S_ix1 T.el56 rfl rfl (by omega) (by omega) ?_ | refine S_ix T.el56 rfl rfl (by omega) (by omega) ?_
    refine S_ldK T.ag3 rfl (fun K' hK' => ?_)
    simp (disch := omega) only [hlt, oP_some, Nat.add_zero]
    refine hK' _ ?_; clear hK' K'
    refine S_bin rfl rfl rfl ?_
    refine S_nil (hK11 _ _ (V_keep [0, 1, 2, 6, 7, 8, 34] (by simp only [proj, lk, reduceIte, Nat.reduceEqDiff]; rfl) ?_)); clear hK11
    refine V_condp rfl (fun c122 => ?_) (fun c122 => ?_)
    · skip
      refine V_reg T.mix (by kernel_rfl) ?_
      refine S_mv rfl ?_
      refine S_mv rfl ?_
      refine S_mv rfl ?_
      refine S_mv rfl ?_
      first | refine S_ixn T.el56 rfl rfl (by omega) ?_ | refine S_ix1 T.el56 rfl rfl (by omega) (by omega) ?_ | refine S_ix T.el56 rfl rfl (by omega) (by omega) ?_
      refine S_ldK T.ag3 rfl (fun K' hK' => ?_)
      simp (disch := omega) only [hlt, oP_some, Nat.add_zero]
      refine hK' _ ?_; clear hK' K'
      refine S_subN (L - A s) rfl rfl (by omega) (by omega) ?_
      refine S_cvN (L - A s) T.us3 T.in105 rfl (by omega) (tu64 (by omega)) ?_
      refine S_nshl 1 (L - A s) (2 ^ (L - A s)) rfl rfl rfl rfl (Nat.one_mul _) (show L - A s ≤ 64 by omega) (t64 (by have h9 := p10 (a := L - A s) (by omega); omega)) ?_
      have h9 := p10 (a := L - A s) (by omega)
      refine S_addN (kx + 2 ^ (L - A s)) rfl rfl (by omega) (by omega) ?_
      refine S_as rfl ?_
      refine S_nilk [0, 1, 2, 6, 7, 8] (by simp only [proj, lk, reduceIte, Nat.reduceEqDiff]; rfl) ?_
      refine hK8 _ _ ?_; clear hK8
      refine V_reg T.mix (by kernel_rfl) ?_
      refine S_mv rfl ?_
      refine S_addN (s + 1) rfl rfl (by omega) (by omega) ?_
      refine S_as rfl ?_
      refine S_nilk [0, 1, 2, 6, 7, 8] (by simp only [proj, lk, reduceIte, Nat.reduceEqDiff]; rfl) ?_
      exact hK5 _ _ ⟨_, by omega, s + 1, _, hk, A, by omega, hA, hA3, hA4, by rw [hkx, kk_succ, ← hcs, if_pos (by omega)], hE, rfl, rfl, rfl⟩
    · skip
      refine V_skipk [0, 1, 2, 6, 7, 8] (by simp only [proj, lk, reduceIte, Nat.reduceEqDiff]; rfl) ?_
      refine hK8 _ _ ?_; clear hK8
      refine V_reg T.mix (by kernel_rfl) ?_
      refine S_mv rfl ?_
      refine S_addN (s + 1) rfl rfl (by omega) (by omega) ?_
      refine S_as rfl ?_
      refine S_nilk [0, 1, 2, 6, 7, 8] (by simp only [proj, lk, reduceIte, Nat.reduceEqDiff]; rfl) ?_
      exact hK5 _ _ ⟨_, by omega, s + 1, kx, hk, A, by omega, hA, hA3, hA4, by rw [hkx, kk_succ, ← hcs, if_neg (by omega)]; rfl, hE, rfl, rfl, rfl⟩
  · skip
    have hsN : s = N := by omega
    have hAc : B hk ob (ia N (cut L lf)) 3 := ia_cong hA (fun i hi => hA1 i (by omega))
    rw [hkx, hsN]
    refine V_exitk [0, 1, 2, 6, 7] rfl (by simp only [proj, lk, reduceIte, Nat.reduceEqDiff]; rfl) ?_
    refine hK3 _ _ ?_; clear hK3
    refine V_seq (fun K12 hK12 => ?_)
    refine V_block ?_
    refine V_loop (fun m l h' => ∃ (f : Nat) (A : Nat → Nat) (hk : Heap), (MI N cnt L A) ∧ (m1 N cnt L f A = m1 N cnt L (L * N) (cut L lf)) ∧ (rm L A N ≤ f) ∧ (B hk ob (ia N A) 3) ∧ (Ext (fun b => b = ob) h hk) ∧ m = f + 1 ∧ l = [(0, .slice (some ⟨ab, ao, none⟩) N cap), (1, .slice (some ⟨ob, 0, none⟩) N N), (2, .int .i64 (L : Int)), (6, .int .i64 ((2 ^ L : Nat) : Int)), (7, .int .i64 (kk L A N : Int))] ∧ hk = h') _ ⟨L * N, cut L lf, hk, MI.cut hL1 hz, rfl, rm_le _, hAc, hE, rfl, rfl, rfl⟩ ?_
    rintro m l h' ⟨f, A, hk, mi, hm, hrf, hA, hE, rfl, rfl, rfl⟩ K13 hK13
    have hlt := ia_at hA
    have hoo := ia_ok hA
    have hkl := kk_le (l := A) hL2 N
    refine V_seq (fun K14 hK14 => ?_)
    refine V_sr T.mix (by kernel_rfl) (fun K15 hK15 => ?_)
    refine S_mv rfl ?_
    refine S_mv rfl ?_
    refine S_bin rfl rfl rfl ?_
    refine S_nil (hK15 _ _ (V_keep [0, 1, 2, 6, 7, 47] (by simp only [proj, lk, reduceIte, Nat.reduceEqDiff]; rfl) ?_)); clear hK15
    refine V_condp rfl (fun c126 => ?_) (fun c126 => ?_)
    · skip
      refine V_skipk [0, 1, 2, 6, 7] (by simp only [proj, lk, reduceIte, Nat.reduceEqDiff]; rfl) ?_
      refine hK14 _ _ ?_; clear hK14
      refine V_block ?_
      refine V_sr T.mix (by kernel_rfl) (fun K16 hK16 => ?_)
      refine S_mv rfl ?_
      refine S_mv rfl ?_
      refine S_mv rfl ?_
      refine S_subN (L - 1) rfl rfl (by omega) (by omega) ?_
      refine S_call T.hb181 rfl ?_
      obtain ⟨i, hs⟩ := mi.find1 hu (by omega)
      obtain ⟨s1, s2, s3, s4, s5⟩ := mi.step1 hs hL1
      have hrm := rm_up s1 s3
      refine FC.mono (seek_spec hk N cnt A ab ao cap ob hN (hIc.ext hE (fun b e z => by cases e; exact hao z)) hA hcb 1 (L - 1) (by omega) (by omega) (-1) true (.inl ⟨rfl, rfl⟩)) ?_
      rintro v' h' ⟨b, rfl, hsb, rfl⟩
      obtain rfl := hsb.some hs
      refine S_as rfl ?_
      refine S_nil (hK16 _ _ (V_keep [0, 1, 2, 6, 7, 9] (by simp only [proj, lk, reduceIte, Nat.reduceEqDiff]; rfl) ?_)); clear hK16
      refine V_sr T.mix (by kernel_rfl) (fun K17 hK17 => ?_)
      refine S_mv rfl ?_
      refine S_mv rfl ?_
      first | refine S_ixn T.el56 rfl rfl (by omega) ?_ | refine S_ix1 T.el56 rfl rfl (by omega) (by omega) ?_ | refine S_ix T.el56 rfl rfl (by omega) (by omega) ?_
      refine S_ldK T.ag3 rfl (fun K' hK' => ?_)
      simp (disch := omega) only [hlt, oP_some, Nat.add_zero]
      refine hK' _ ?_; clear hK' K'
      refine S_addN (A i + 1) rfl rfl (by omega) (by omega) ?_
      first | refine S_ixn T.el56 rfl rfl (by omega) ?_ | refine S_ix1 T.el56 rfl rfl (by omega) (by omega) ?_ | refine S_ix T.el56 rfl rfl (by omega) (by omega) ?_
      refine S_st T.sz3 rfl rfl rfl rfl (by simp (disch := omega) only [hoo]) ?_
      generalize hh : putH _ _ _ = h1
      have hA1 : B h1 ob (ia N (ups A i (A i + 1))) 3 := by rw [← hh]; exact ia_put hA i (A i + 1)
      have hE1 : Ext (fun b => b = ob) hk h1 := by rw [← hh]; exact Ext.put _ _ rfl
      clear hh
      have hlt := ia_at hA1
      refine S_nil (hK17 _ _ (V_keep [0, 1, 2, 6, 7, 9] (by simp only [proj, lk, reduceIte, Nat.reduceEqDiff]; rfl) ?_)); clear hK17
      refine V_reg T.mix (by kernel_rfl) ?_
      refine S_mv rfl ?_
      refine S_mv rfl ?_
      refine S_mv rfl ?_
      refine S_mv rfl ?_
      first | refine S_ixn T.el56 rfl rfl (by omega) ?_ | refine S_ix1 T.el56 rfl rfl (by omega) (by omega) ?_ | refine S_ix T.el56 rfl rfl (by omega) (by omega) ?_
      refine S_ldK T.ag3 rfl (fun K' hK' => ?_)
      simp (disch := omega) only [hlt, oP_some, Nat.add_zero]
      refine hK' _ ?_; clear hK' K'
      rw [ups_eq]
      refine S_subN (L - (A i + 1)) rfl rfl (by omega) (by omega) ?_
      refine S_cvN (L - (A i + 1)) T.us3 T.in105 rfl (by omega) (tu64 (by omega)) ?_
      refine S_nshl 1 (L - (A i + 1)) (2 ^ (L - (A i + 1))) rfl rfl rfl rfl (Nat.one_mul _) (show L - (A i + 1) ≤ 64 by omega) (t64 (by have h9 := p10 (a := L - (A i + 1)) (by omega); omega)) ?_
      have h8 := kk_le (l := ups A i (A i + 1)) hL2 N
      refine S_subN (kk L (ups A i (A i + 1)) N) rfl rfl (by omega) (by omega) ?_
      refine S_as rfl ?_
      refine S_nilk [0, 1, 2, 6, 7] (by simp only [proj, lk, reduceIte, Nat.reduceEqDiff]; rfl) ?_
      obtain ⟨f2, rfl⟩ : ∃ f2, f = f2 + 1 := ⟨f - 1, by omega⟩
      exact hK13 _ _ ⟨_, by omega, f2, ups A i (A i + 1), h1, s4, by rw [← hm, m1_go (by omega) hs], by omega, hA1, hE.trans hE1, rfl, rfl, rfl⟩
    · skip
      have hm2 : m2 N cnt L (2 ^ L) A = mend N cnt L lf := by unfold mend; rw [← hm, m1_end (by omega)]
      refine V_exitk [0, 1, 2, 6, 7] rfl (by simp only [proj, lk, reduceIte, Nat.reduceEqDiff]; rfl) ?_
      refine hK12 _ _ ?_; clear hK12
      refine V_block ?_
      refine V_loop (fun m l h' => ∃ (f : Nat) (A : Nat → Nat) (hk : Heap), (MI N cnt L A) ∧ (m2 N cnt L f A = mend N cnt L lf) ∧ (kk L A N ≤ 2 ^ L) ∧ (2 ^ L - kk L A N ≤ f) ∧ (B hk ob (ia N A) 3) ∧ (Ext (fun b => b = ob) h hk) ∧ m = f + 1 ∧ l = [(0, .slice (some ⟨ab, ao, none⟩) N cap), (1, .slice (some ⟨ob, 0, none⟩) N N), (2, .int .i64 (L : Int)), (6, .int .i64 ((2 ^ L : Nat) : Int)), (7, .int .i64 (kk L A N : Int))] ∧ hk = h') _ ⟨2 ^ L, A, hk, mi, hm2, by omega, Nat.sub_le _ _, hA, hE, rfl, rfl, rfl⟩ ?_
      rintro m l h' ⟨f, A, hk, mi, hm, hk1, hkf, hA, hE, rfl, rfl, rfl⟩ K18 hK18
      have hlt := ia_at hA
      have hoo := ia_ok hA
      refine V_seq (fun K19 hK19 => ?_)
      refine V_sr T.mix (by kernel_rfl) (fun K20 hK20 => ?_)
      refine S_mv rfl ?_
      refine S_mv rfl ?_
      refine S_bin rfl rfl rfl ?_
      refine S_nil (hK20 _ _ (V_keep [0, 1, 2, 6, 7, 71] (by simp only [proj, lk, reduceIte, Nat.reduceEqDiff]; rfl) ?_)); clear hK20
      refine V_condp rfl (fun c131 => ?_) (fun c131 => ?_)
      · skip
        refine V_skipk [0, 1, 2, 6, 7] (by simp only [proj, lk, reduceIte, Nat.reduceEqDiff]; rfl) ?_
        refine hK19 _ _ ?_; clear hK19
        refine V_block ?_
        refine V_sr T.mix (by kernel_rfl) (fun K21 hK21 => ?_)
        refine S_mv rfl ?_
        refine S_mv rfl ?_
        refine S_mv rfl ?_
        refine S_call T.hb181 rfl ?_
        obtain ⟨i, hs⟩ := mi.find2 hL1 h2 (by omega)
        obtain ⟨s1, s2, s3, s4, s5, s6⟩ := mi.step2 hs (by omega)
        have hpp := pp2 (L - A i)
        refine FC.mono (seek_spec hk N cnt A ab ao cap ob hN (hIc.ext hE (fun b e z => by cases e; exact hao z)) hA hcb 2 L (by omega) (by omega) 1 false (.inr ⟨rfl, rfl⟩)) ?_
        rintro v' h' ⟨b, rfl, hsb, rfl⟩
        obtain rfl := hsb.some hs
        refine S_as rfl ?_
        refine S_nil (hK21 _ _ (V_keep [0, 1, 2, 6, 7, 10] (by simp only [proj, lk, reduceIte, Nat.reduceEqDiff]; rfl) ?_)); clear hK21
        refine V_sr T.mix (by kernel_rfl) (fun K22 hK22 => ?_)
        refine S_mv rfl ?_
        refine S_mv rfl ?_
        refine S_mv rfl ?_
        refine S_mv rfl ?_
        first | refine S_ixn T.el56 rfl rfl (by omega) ?_ | refine S_ix1 T.el56 rfl rfl (by omega) (by omega) ?_ | refine S_ix T.el56 rfl rfl (by omega) (by omega) ?_
        refine S_ldK T.ag3 rfl (fun K' hK' => ?_)
        simp (disch := omega) only [hlt, oP_some, Nat.add_zero]
        refine hK' _ ?_; clear hK' K'
        refine S_subN (L - A i) rfl rfl (by omega) (by omega) ?_
        refine S_cvN (L - A i) T.us3 T.in105 rfl (by omega) (tu64 (by omega)) ?_
        refine S_nshl 1 (L - A i) (2 ^ (L - A i)) rfl rfl rfl rfl (Nat.one_mul _) (show L - A i ≤ 64 by omega) (t64 (by have h9 := p10 (a := L - A i) (by omega); omega)) ?_
        refine S_addN (kk L (ups A i (A i - 1)) N) rfl rfl (by omega) (by omega) ?_
        refine S_as rfl ?_
        refine S_nil (hK22 _ _ (V_keep [0, 1, 2, 6, 7, 10] (by simp only [proj, lk, reduceIte, Nat.reduceEqDiff]; rfl) ?_)); clear hK22
        refine V_reg T.mix (by kernel_rfl) ?_
        refine S_mv rfl ?_
        refine S_mv rfl ?_
        first | refine S_ixn T.el56 rfl rfl (by omega) ?_ | refine S_ix1 T.el56 rfl rfl (by omega) (by omega) ?_ | refine S_ix T.el56 rfl rfl (by omega) (by omega) ?_
        refine S_ldK T.ag3 rfl (fun K' hK' => ?_)
        simp (disch := omega) only [hlt, oP_some, Nat.add_zero]
        refine hK' _ ?_; clear hK' K'
        refine S_subN (A i - 1) rfl rfl (by omega) (by omega) ?_
        first | refine S_ixn T.el56 rfl rfl (by omega) ?_ | refine S_ix1 T.el56 rfl rfl (by omega) (by omega) ?_ | refine S_ix T.el56 rfl rfl (by omega) (by omega) ?_
        refine S_st T.sz3 rfl rfl rfl rfl (by simp (disch := omega) only [hoo]) ?_
        generalize hh : putH _ _ _ = h1
        have hA1 : B h1 ob (ia N (ups A i (A i - 1))) 3 := by rw [← hh]; exact ia_put hA i (A i - 1)
        have hE1 : Ext (fun b => b = ob) hk h1 := by rw [← hh]; exact Ext.put _ _ rfl
        clear hh
        refine S_nilk [0, 1, 2, 6, 7] (by simp only [proj, lk, reduceIte, Nat.reduceEqDiff]; rfl) ?_
        obtain ⟨f2, rfl⟩ : ∃ f2, f = f2 + 1 := ⟨f - 1, by omega⟩
        exact hK18 _ _ ⟨_, by omega, f2, ups A i (A i - 1), h1, s4, by rw [← hm, m2_go (by omega) hs], s6, by omega, hA1, hE.trans hE1, rfl, rfl, rfl⟩
      · skip
        have hfin : mend N cnt L lf = A := by rw [← hm, m2_end (by omega)]
        refine V_exitk [] rfl (by simp only [proj, lk, reduceIte, Nat.reduceEqDiff]; rfl) ?_
        -- end
        refine hR _ _ (ret0 rfl ?_)
        exact ⟨rfl, A, hA, fun i _ => by rw [hfin], hE⟩
end Go.Proofs.Qxb6500404aGreat.HufW
