import Derived.Test.Qxb6500404aGreatXe
set_option linter.unusedVariables false
set_option linter.unusedSimpArgs false
namespace Go.Proofs.Qxb6500404aGreat.HufW
open Go.Eng Go.Huf

theorem SB.rng {c lf : Nat → Nat} {lo hi : Nat} {rare : Bool} {i : Nat} {b : Int} (h : SB c lf lo hi rare i b) : b < 0 ∨ (0 ≤ b ∧ b < i) := by
  rcases h with ⟨h1, _⟩ | ⟨n, h1, h2, _⟩ <;> omega
theorem SB.step {c lf : Nat → Nat} {lo hi : Nat} {rare : Bool} {i : Nat} {b : Int} (h : SB c lf lo hi rare i b) (hr : lo ≤ lf i ∧ lf i ≤ hi) : SB c lf lo hi rare (i + 1) (if b < 0 ∨ btr c lf rare i b.toNat then (i : Int) else b) := by
  rcases h with ⟨h1, h2⟩ | ⟨n, h1, h2, h3⟩
  · rw [if_pos (.inl (by omega))]; exact SB.lt (.inl ⟨h1, h2⟩) (by omega) hr
  · subst h1
    rw [Int.toNat_natCast]
    by_cases e : btr c lf rare i n
    · rw [if_pos (.inr e)]; exact SB.new h3 hr e
    · rw [if_neg (fun z => by rcases z with z | z; (omega); (exact e z))]; exact SB.old h3 h2 e
/-! ### what Build asks -/
def okL (cl : List Int) : Prop := ∀ j, j < cl.length → 0 ≤ cl.getD j 0 ∧ cl.getD j 0 ≤ 10
def okLD (cl : List Int) : Decidable (okL cl) := by unfold okL; infer_instance
def lensE (cl : List Int) : Nat := if 265 < cl.length then 1 else @ite Nat (¬ okL cl) (@instDecidableNot (okL cl) (okLD cl)) 2 (if 1024 < kk 10 (cf cl) cl.length then 6 else if kk 10 (cf cl) cl.length < 1024 ∧ 0 < liv (cf cl) cl.length ∧ (1 < liv (cf cl) cl.length ∨ kk 10 (cf cl) cl.length ≠ 512) then 7 else 0)
theorem okL_il {cl : List Int} (h : okL cl) : cl = il cl.length (cf cl) := list_ext (by rw [il_len]) fun j hj => by
  rw [il_at hj]; have := h j hj; unfold cf; omega
theorem cs_succ (w l : Nat → Nat) (n : Nat) : cs w l (n + 1) = cs w l n + w n * l n := rfl
theorem cs_bd {w l : Nat → Nat} {n : Nat} (h1 : ∀ i, i < n → w i ≤ 1048576) (h2 : ∀ i, i < n → l i ≤ 1000) : ∀ k, k ≤ n → cs w l k ≤ 1048576000 * k
  | 0, _ => Nat.zero_le _
  | k + 1, hk => by
    have := cs_bd h1 h2 k (by omega)
    have h3 := Nat.mul_le_mul (h1 k (by omega)) (h2 k (by omega))
    rw [cs_succ]; omega
theorem planE_inv {cl : List Int} {lim : Int} (h : planE cl lim = 0) : cl.length ≤ 265 ∧ (1 ≤ lim ∧ lim ≤ 10) ∧ okC cl ∧ liv (cf cl) cl.length ≤ 2 ^ lim.toNat := by
  unfold planE at h
  split at h
  · cases h
  · split at h
    · cases h
    · split at h
      · cases h
      · split at h
        · cases h
        · rename_i h1 h2 h3 h4
          exact ⟨by omega, by omega, Classical.not_not.1 h3, by omega⟩
theorem Gr.nil (N : Nat) (w : Nat → Nat) : Gr N [] w := trivial
set_option maxHeartbeats 1600000 in
theorem pick_spec (h : Heap) (N : Nat) (cnt lf : Nat → Nat) (ab ao cap ob : Nat) (hN : N ≤ 265) (hIc : OL h (some ⟨ab, ao, none⟩) cap (il N cnt)) (hob : B h ob (ia N lf) 3) (hcb : ∀ i, i < N → cnt i ≤ 1048576) (lo hi : Nat) (hlo : lo ≤ 1000) (hhi : hi ≤ 1000) (rare : Bool) :
    FC Tryz.prog 136 (#[.slice (some ⟨ab, ao, none⟩) N cap, .slice (some ⟨ob, 0, none⟩) N N, .int .i64 (lo : Int), .int .i64 (hi : Int), .bool (decide (rare = true))] : Array Value) h fun rv h' => ∃ b : Int, rv = .int .i64 b ∧ SB cnt lf lo hi rare N b ∧ h = h' := by
  have hat := hIc.nat
  have hlt := ia_at hob
  refine FC_of [(0, .slice (some ⟨ab, ao, none⟩) N cap), (1, .slice (some ⟨ob, 0, none⟩) N N), (2, .int .i64 (lo : Int)), (3, .int .i64 (hi : Int)), (4, .bool (decide (rare = true)))] Tryz.func136 rfl Tryz.ntmps136 (by simp) rfl (fun R hR => ?_)
  refine V_sr T.mix (by kernel_rfl) (fun K1 hK1 => ?_)
  refine S_as rfl ?_
  refine S_nil (hK1 _ _ (V_keep [0, 1, 2, 3, 4] (by simp only [proj, lk, reduceIte, Nat.reduceEqDiff]; rfl) ?_)); clear hK1
  refine V_sr T.mix (by kernel_rfl) (fun K2 hK2 => ?_)
  refine S_as rfl ?_
  refine S_nil (hK2 _ _ (V_keep [0, 1, 2, 3, 4, 11] (by simp only [proj, lk, reduceIte, Nat.reduceEqDiff]; rfl) ?_)); clear hK2
  refine V_seq (fun K3 hK3 => ?_)
  refine V_sr T.mix (by kernel_rfl) (fun K4 hK4 => ?_)
  refine S_as rfl ?_
  refine S_nil (hK4 _ _ (V_keep [0, 1, 2, 3, 4, 11, 12] (by simp only [proj, lk, reduceIte, Nat.reduceEqDiff]; rfl) ?_)); clear hK4
  refine V_block ?_
  refine V_loop (fun m l h' => ∃ (i : Nat) (bb : Int), (i ≤ N) ∧ (SB cnt lf lo hi rare i bb) ∧ m = N - i ∧ l = [(0, .slice (some ⟨ab, ao, none⟩) N cap), (1, .slice (some ⟨ob, 0, none⟩) N N), (2, .int .i64 (lo : Int)), (3, .int .i64 (hi : Int)), (4, .bool (decide (rare = true))), (11, .int .i64 bb), (12, .int .i64 (i : Int))] ∧ h = h') _ ⟨0, -1, by omega, SB.z _ _ _ _ _, rfl, rfl, rfl⟩ ?_
  rintro m l h' ⟨i, bb, hi_, hb, rfl, rfl, rfl⟩ K5 hK5
  have hrg := hb.rng
  refine V_seq (fun K6 hK6 => ?_)
  refine V_sr T.mix (by kernel_rfl) (fun K7 hK7 => ?_)
  refine S_mv rfl ?_
  refine S_mv rfl ?_
  refine S_lenl T.el56 rfl ?_
  refine S_bin rfl rfl rfl ?_
  refine S_nil (hK7 _ _ (V_keep [0, 1, 2, 3, 4, 11, 12, 17] (by simp only [proj, lk, reduceIte, Nat.reduceEqDiff]; rfl) ?_)); clear hK7
  refine V_condp rfl (fun c137 => ?_) (fun c137 => ?_)
  · skip
    refine V_skipk [0, 1, 2, 3, 4, 11, 12] (by simp only [proj, lk, reduceIte, Nat.reduceEqDiff]; rfl) ?_
    refine hK6 _ _ ?_; clear hK6
    refine V_seq (fun K8 hK8 => ?_)
    refine V_block ?_
    refine V_sr T.mix (by kernel_rfl) (fun K9 hK9 => ?_)
    refine S_cut (K' := fun l h' => ∃ b : Bool, (b = true ↔ (lo ≤ lf i ∧ lf i ≤ hi)) ∧ l = [(0, .slice (some ⟨ab, ao, none⟩) N cap), (1, .slice (some ⟨ob, 0, none⟩) N N), (2, .int .i64 (lo : Int)), (3, .int .i64 (hi : Int)), (4, .bool (decide (rare = true))), (11, .int .i64 bb), (12, .int .i64 (i : Int)), (33, .bool b)] ∧ h = h') ?_ ?_
    · skip
      refine S_mv rfl ?_
      refine S_mv rfl ?_
      first | refine S_ixn T.el56 rfl rfl (by omega) ?_ | refine S_ix1 T.el56 rfl rfl (by omega) (by omega) ?_ | refine S_ix T.el56 rfl rfl (by omega) (by omega) ?_
      refine S_ldK T.ag3 rfl (fun K' hK' => ?_)
      simp (disch := omega) only [hat, Nat.mul_one, Int.toNat_natCast, hlt, oP_some, Nat.add_zero]
      refine hK' _ ?_; clear hK' K'
      refine S_mv rfl ?_
      refine S_bin rfl rfl rfl ?_
      refine S_mv rfl ?_
      refine S_dec (fun g138 => ?_) (fun g138 => ?_)
      · skip
        refine S_gt rfl ?_
        refine S_mv rfl ?_
        refine S_gt rfl ?_
        refine S_mv rfl ?_
        refine S_gt rfl ?_
        first | refine S_ixn T.el56 rfl rfl (by omega) ?_ | refine S_ix1 T.el56 rfl rfl (by omega) (by omega) ?_ | refine S_ix T.el56 rfl rfl (by omega) (by omega) ?_
        refine S_gt rfl ?_
        refine S_ldK T.ag3 rfl (fun K' hK' => ?_)
        simp (disch := omega) only [hat, Nat.mul_one, Int.toNat_natCast, hlt, oP_some, Nat.add_zero]
        refine hK' _ ?_; clear hK' K'
        refine S_gt rfl ?_
        refine S_mv rfl ?_
        refine S_gt rfl ?_
        refine S_bin rfl rfl rfl ?_
        refine S_pt rfl rfl ?_
        exact S_nilk [0, 1, 2, 3, 4, 11, 12, 33] (by simp only [proj, lk, reduceIte, Nat.reduceEqDiff]; rfl) ⟨_, (by first | (simp only [decide_eq_true_eq]; omega) | (simp; omega)), rfl, rfl⟩
      · skip
        refine S_gf rfl ?_
        refine S_gf rfl ?_
        refine S_gf rfl ?_
        refine S_gf rfl ?_
        refine S_gf rfl ?_
        refine S_gf rfl ?_
        refine S_pf rfl rfl ?_
        exact S_nilk [0, 1, 2, 3, 4, 11, 12, 33] (by simp only [proj, lk, reduceIte, Nat.reduceEqDiff]; rfl) ⟨_, (by first | (simp only [decide_eq_true_eq]; omega) | (simp; omega)), rfl, rfl⟩
    rintro l h' ⟨b, hb138, rfl, rfl⟩
    refine hK9 _ _ ?_; clear hK9
    refine V_condb rfl (fun c138 => ?_) (fun c138 => ?_)
    · replace c138 := hb138.1 c138
      refine V_sr T.mix (by kernel_rfl) (fun K11 hK11 => ?_)
      refine S_cut (K' := fun l h' => ∃ b : Bool, (b = true ↔ (bb < 0 ∨ lf bb.toNat < lf i)) ∧ l = [(0, .slice (some ⟨ab, ao, none⟩) N cap), (1, .slice (some ⟨ob, 0, none⟩) N N), (2, .int .i64 (lo : Int)), (3, .int .i64 (hi : Int)), (4, .bool (decide (rare = true))), (11, .int .i64 bb), (12, .int .i64 (i : Int)), (13, .bool b)] ∧ h = h') ?_ ?_
      · skip
        refine S_mv rfl ?_
        refine S_bin rfl rfl rfl ?_
        refine S_mv rfl ?_
        refine S_dec (fun g139 => ?_) (fun g139 => ?_)
        · skip
          refine S_gf rfl ?_
          refine S_gf rfl ?_
          refine S_gf rfl ?_
          refine S_gf rfl ?_
          refine S_gf rfl ?_
          refine S_gf rfl ?_
          refine S_gf rfl ?_
          refine S_gf rfl ?_
          refine S_gf rfl ?_
          refine S_pt rfl rfl ?_
          refine S_as rfl ?_
          exact S_nilk [0, 1, 2, 3, 4, 11, 12, 13] (by simp only [proj, lk, reduceIte, Nat.reduceEqDiff]; rfl) ⟨_, (by first | (simp only [decide_eq_true_eq]; omega) | (simp; omega)), rfl, rfl⟩
        · skip
          refine S_gt rfl ?_
          refine S_mv rfl ?_
          refine S_gt rfl ?_
          refine S_mv rfl ?_
          refine S_gt rfl ?_
          first | refine S_ixn T.el56 rfl rfl (by omega) ?_ | refine S_ix1 T.el56 rfl rfl (by omega) (by omega) ?_ | refine S_ix T.el56 rfl rfl (by omega) (by omega) ?_
          refine S_gt rfl ?_
          refine S_ldK T.ag3 rfl (fun K' hK' => ?_)
          simp (disch := omega) only [hat, Nat.mul_one, Int.toNat_natCast, hlt, oP_some, Nat.add_zero]
          refine hK' _ ?_; clear hK' K'
          refine S_gt rfl ?_
          refine S_mv rfl ?_
          refine S_gt rfl ?_
          refine S_mv rfl ?_
          refine S_gt rfl ?_
          first | refine S_ixn T.el56 rfl rfl (by omega) ?_ | refine S_ix1 T.el56 rfl rfl (by omega) (by omega) ?_ | refine S_ix T.el56 rfl rfl (by omega) (by omega) ?_
          refine S_gt rfl ?_
          refine S_ldK T.ag3 rfl (fun K' hK' => ?_)
          simp (disch := omega) only [hat, Nat.mul_one, Int.toNat_natCast, hlt, oP_some, Nat.add_zero]
          refine hK' _ ?_; clear hK' K'
          refine S_gt rfl ?_
          refine S_bin rfl rfl rfl ?_
          refine S_pf rfl rfl ?_
          refine S_as rfl ?_
          exact S_nilk [0, 1, 2, 3, 4, 11, 12, 13] (by simp only [proj, lk, reduceIte, Nat.reduceEqDiff]; rfl) ⟨_, (by first | (simp only [decide_eq_true_eq]; omega) | (simp; omega)), rfl, rfl⟩
      rintro l h' ⟨b, hb139, rfl, rfl⟩
      refine hK11 _ _ ?_; clear hK11
      revert hb139
      generalize b = bt
      intro hb139
      refine V_seqJ (fun l h' => ∃ (bt2 : Bool), (bt2 = true ↔ (bb < 0 ∨ btr cnt lf rare i bb.toNat)) ∧ l = [(0, .slice (some ⟨ab, ao, none⟩) N cap), (1, .slice (some ⟨ob, 0, none⟩) N N), (2, .int .i64 (lo : Int)), (3, .int .i64 (hi : Int)), (4, .bool (decide (rare = true))), (11, .int .i64 bb), (12, .int .i64 (i : Int)), (13, .bool bt2)] ∧ h = h') ?_ ?_
      · skip
        refine V_sr T.mix (by kernel_rfl) (fun K14 hK14 => ?_)
        refine S_cut (K' := fun l h' => ∃ b : Bool, (b = true ↔ (¬ bb < 0 ∧ lf i = lf bb.toNat)) ∧ l = [(0, .slice (some ⟨ab, ao, none⟩) N cap), (1, .slice (some ⟨ob, 0, none⟩) N N), (2, .int .i64 (lo : Int)), (3, .int .i64 (hi : Int)), (4, .bool (decide (rare = true))), (11, .int .i64 bb), (12, .int .i64 (i : Int)), (13, .bool bt), (59, .bool b)] ∧ h = h') ?_ ?_
        · skip
          refine S_mv rfl ?_
          refine S_bin rfl rfl rfl ?_
          refine S_mv rfl ?_
          refine S_dec (fun g140 => ?_) (fun g140 => ?_)
          · skip
            refine S_gt rfl ?_
            refine S_mv rfl ?_
            refine S_gt rfl ?_
            refine S_mv rfl ?_
            refine S_gt rfl ?_
            first | refine S_ixn T.el56 rfl rfl (by omega) ?_ | refine S_ix1 T.el56 rfl rfl (by omega) (by omega) ?_ | refine S_ix T.el56 rfl rfl (by omega) (by omega) ?_
            refine S_gt rfl ?_
            refine S_ldK T.ag3 rfl (fun K' hK' => ?_)
            simp (disch := omega) only [hat, Nat.mul_one, Int.toNat_natCast, hlt, oP_some, Nat.add_zero]
            refine hK' _ ?_; clear hK' K'
            refine S_gt rfl ?_
            refine S_mv rfl ?_
            refine S_gt rfl ?_
            refine S_mv rfl ?_
            refine S_gt rfl ?_
            first | refine S_ixn T.el56 rfl rfl (by omega) ?_ | refine S_ix1 T.el56 rfl rfl (by omega) (by omega) ?_ | refine S_ix T.el56 rfl rfl (by omega) (by omega) ?_
            refine S_gt rfl ?_
            refine S_ldK T.ag3 rfl (fun K' hK' => ?_)
            simp (disch := omega) only [hat, Nat.mul_one, Int.toNat_natCast, hlt, oP_some, Nat.add_zero]
            refine hK' _ ?_; clear hK' K'
            refine S_gt rfl ?_
            refine S_bin rfl rfl rfl ?_
            refine S_pt rfl rfl ?_
            exact S_nilk [0, 1, 2, 3, 4, 11, 12, 13, 59] (by simp only [proj, lk, reduceIte, Nat.reduceEqDiff]; rfl) ⟨_, (by first | (simp only [decide_eq_true_eq]; omega) | (simp; omega)), rfl, rfl⟩
          · skip
            refine S_gf rfl ?_
            refine S_gf rfl ?_
            refine S_gf rfl ?_
            refine S_gf rfl ?_
            refine S_gf rfl ?_
            refine S_gf rfl ?_
            refine S_gf rfl ?_
            refine S_gf rfl ?_
            refine S_gf rfl ?_
            refine S_pf rfl rfl ?_
            exact S_nilk [0, 1, 2, 3, 4, 11, 12, 13, 59] (by simp only [proj, lk, reduceIte, Nat.reduceEqDiff]; rfl) ⟨_, (by first | (simp only [decide_eq_true_eq]; omega) | (simp; omega)), rfl, rfl⟩
        rintro l h' ⟨b, hb140, rfl, rfl⟩
        refine hK14 _ _ ?_; clear hK14
        refine V_condb rfl (fun c140 => ?_) (fun c140 => ?_)
        · replace c140 := hb140.1 c140
          refine V_reg T.mix (by kernel_rfl) ?_
          refine S_cut (K' := fun l h' => ∃ b : Bool, (b = true ↔ ((rare = true ∧ cnt i < cnt bb.toNat) ∨ (rare = false ∧ cnt bb.toNat < cnt i))) ∧ l = [(0, .slice (some ⟨ab, ao, none⟩) N cap), (1, .slice (some ⟨ob, 0, none⟩) N N), (2, .int .i64 (lo : Int)), (3, .int .i64 (hi : Int)), (4, .bool (decide (rare = true))), (11, .int .i64 bb), (12, .int .i64 (i : Int)), (13, .bool b)] ∧ h = h') ?_ ?_
          · skip
            refine S_mv rfl ?_
            refine S_mv rfl ?_
            refine S_dec (fun g141 => ?_) (fun g141 => ?_)
            · skip
              refine S_gt rfl ?_
              refine S_mv rfl ?_
              refine S_gt rfl ?_
              refine S_mv rfl ?_
              refine S_gt rfl ?_
              first | refine S_ixn T.el56 rfl rfl (by omega) ?_ | refine S_ix1 T.el56 rfl rfl (by omega) (by omega) ?_ | refine S_ix T.el56 rfl rfl (by omega) (by omega) ?_
              refine S_gt rfl ?_
              refine S_ldK T.ag3 rfl (fun K' hK' => ?_)
              simp (disch := omega) only [hat, Nat.mul_one, Int.toNat_natCast, hlt, oP_some, Nat.add_zero]
              refine hK' _ ?_; clear hK' K'
              refine S_gt rfl ?_
              refine S_mv rfl ?_
              refine S_gt rfl ?_
              refine S_mv rfl ?_
              refine S_gt rfl ?_
              first | refine S_ixn T.el56 rfl rfl (by omega) ?_ | refine S_ix1 T.el56 rfl rfl (by omega) (by omega) ?_ | refine S_ix T.el56 rfl rfl (by omega) (by omega) ?_
              refine S_gt rfl ?_
              refine S_ldK T.ag3 rfl (fun K' hK' => ?_)
              simp (disch := omega) only [hat, Nat.mul_one, Int.toNat_natCast, hlt, oP_some, Nat.add_zero]
              refine hK' _ ?_; clear hK' K'
              refine S_gt rfl ?_
              refine S_bin rfl rfl rfl ?_
              refine S_pt rfl rfl ?_
              refine S_mv rfl ?_
              refine S_dec (fun g141a => ?_) (fun g141a => ?_)
              · skip
                refine S_gf rfl ?_
                refine S_gf rfl ?_
                refine S_gf rfl ?_
                refine S_gf rfl ?_
                refine S_gf rfl ?_
                refine S_gf rfl ?_
                refine S_gf rfl ?_
                refine S_gf rfl ?_
                refine S_gf rfl ?_
                refine S_gf rfl ?_
                refine S_gf rfl ?_
                refine S_gf rfl ?_
                refine S_gf rfl ?_
                refine S_pt rfl rfl ?_
                refine S_as rfl ?_
                exact S_nilk [0, 1, 2, 3, 4, 11, 12, 13] (by simp only [proj, lk, reduceIte, Nat.reduceEqDiff]; rfl) ⟨_, (by first | (cases rare <;> simp_all; done) | (cases rare <;> simp_all <;> omega)), rfl, rfl⟩
              · skip
                refine S_gt rfl ?_
                refine S_mv rfl ?_
                refine S_gt rfl ?_
                refine S_not rfl ?_
                refine S_gt rfl ?_
                refine S_mv rfl ?_
                refine S_dec (fun g141b => ?_) (fun g141b => ?_)
                · skip
                  refine S_gt rfl ?_
                  refine S_mv rfl ?_
                  refine S_gt rfl ?_
                  refine S_mv rfl ?_
                  refine S_gt rfl ?_
                  first | refine S_ixn T.el56 rfl rfl (by omega) ?_ | refine S_ix1 T.el56 rfl rfl (by omega) (by omega) ?_ | refine S_ix T.el56 rfl rfl (by omega) (by omega) ?_
                  refine S_gt rfl ?_
                  refine S_ldK T.ag3 rfl (fun K' hK' => ?_)
                  simp (disch := omega) only [hat, Nat.mul_one, Int.toNat_natCast, hlt, oP_some, Nat.add_zero]
                  refine hK' _ ?_; clear hK' K'
                  refine S_gt rfl ?_
                  refine S_mv rfl ?_
                  refine S_gt rfl ?_
                  refine S_mv rfl ?_
                  refine S_gt rfl ?_
                  first | refine S_ixn T.el56 rfl rfl (by omega) ?_ | refine S_ix1 T.el56 rfl rfl (by omega) (by omega) ?_ | refine S_ix T.el56 rfl rfl (by omega) (by omega) ?_
                  refine S_gt rfl ?_
                  refine S_ldK T.ag3 rfl (fun K' hK' => ?_)
                  simp (disch := omega) only [hat, Nat.mul_one, Int.toNat_natCast, hlt, oP_some, Nat.add_zero]
                  refine hK' _ ?_; clear hK' K'
                  refine S_gt rfl ?_
                  refine S_bin rfl rfl rfl ?_
                  refine S_gt rfl ?_
                  refine S_pt rfl rfl ?_
                  refine S_pf rfl rfl ?_
                  refine S_as rfl ?_
                  exact S_nilk [0, 1, 2, 3, 4, 11, 12, 13] (by simp only [proj, lk, reduceIte, Nat.reduceEqDiff]; rfl) ⟨_, (by first | (cases rare <;> simp_all; done) | (cases rare <;> simp_all <;> omega)), rfl, rfl⟩
                · skip
                  refine S_gf rfl ?_
                  refine S_gf rfl ?_
                  refine S_gf rfl ?_
                  refine S_gf rfl ?_
                  refine S_gf rfl ?_
                  refine S_gf rfl ?_
                  refine S_gf rfl ?_
                  refine S_gf rfl ?_
                  refine S_gf rfl ?_
                  refine S_gt rfl ?_
                  refine S_pf rfl rfl ?_
                  refine S_pf rfl rfl ?_
                  refine S_as rfl ?_
                  exact S_nilk [0, 1, 2, 3, 4, 11, 12, 13] (by simp only [proj, lk, reduceIte, Nat.reduceEqDiff]; rfl) ⟨_, (by first | (cases rare <;> simp_all; done) | (cases rare <;> simp_all <;> omega)), rfl, rfl⟩
            · skip
              refine S_gf rfl ?_
              refine S_gf rfl ?_
              refine S_gf rfl ?_
              refine S_gf rfl ?_
              refine S_gf rfl ?_
              refine S_gf rfl ?_
              refine S_gf rfl ?_
              refine S_gf rfl ?_
              refine S_gf rfl ?_
              refine S_pf rfl rfl ?_
              refine S_mv rfl ?_
              refine S_gt rfl ?_
              refine S_mv rfl ?_
              refine S_gt rfl ?_
              refine S_not rfl ?_
              refine S_gt rfl ?_
              refine S_mv rfl ?_
              refine S_dec (fun g141c => ?_) (fun g141c => ?_)
              · skip
                refine S_gt rfl ?_
                refine S_mv rfl ?_
                refine S_gt rfl ?_
                refine S_mv rfl ?_
                refine S_gt rfl ?_
                first | refine S_ixn T.el56 rfl rfl (by omega) ?_ | refine S_ix1 T.el56 rfl rfl (by omega) (by omega) ?_ | refine S_ix T.el56 rfl rfl (by omega) (by omega) ?_
                refine S_gt rfl ?_
                refine S_ldK T.ag3 rfl (fun K' hK' => ?_)
                simp (disch := omega) only [hat, Nat.mul_one, Int.toNat_natCast, hlt, oP_some, Nat.add_zero]
                refine hK' _ ?_; clear hK' K'
                refine S_gt rfl ?_
                refine S_mv rfl ?_
                refine S_gt rfl ?_
                refine S_mv rfl ?_
                refine S_gt rfl ?_
                first | refine S_ixn T.el56 rfl rfl (by omega) ?_ | refine S_ix1 T.el56 rfl rfl (by omega) (by omega) ?_ | refine S_ix T.el56 rfl rfl (by omega) (by omega) ?_
                refine S_gt rfl ?_
                refine S_ldK T.ag3 rfl (fun K' hK' => ?_)
                simp (disch := omega) only [hat, Nat.mul_one, Int.toNat_natCast, hlt, oP_some, Nat.add_zero]
                refine hK' _ ?_; clear hK' K'
                refine S_gt rfl ?_
                refine S_bin rfl rfl rfl ?_
                refine S_gt rfl ?_
                refine S_pt rfl rfl ?_
                refine S_pf rfl rfl ?_
                refine S_as rfl ?_
                exact S_nilk [0, 1, 2, 3, 4, 11, 12, 13] (by simp only [proj, lk, reduceIte, Nat.reduceEqDiff]; rfl) ⟨_, (by first | (cases rare <;> simp_all; done) | (cases rare <;> simp_all <;> omega)), rfl, rfl⟩
              · skip
                refine S_gf rfl ?_
                refine S_gf rfl ?_
                refine S_gf rfl ?_
                refine S_gf rfl ?_
                refine S_gf rfl ?_
                refine S_gf rfl ?_
                refine S_gf rfl ?_
                refine S_gf rfl ?_
                refine S_gf rfl ?_
                refine S_gt rfl ?_
                refine S_pf rfl rfl ?_
                refine S_pf rfl rfl ?_
                refine S_as rfl ?_
                exact S_nilk [0, 1, 2, 3, 4, 11, 12, 13] (by simp only [proj, lk, reduceIte, Nat.reduceEqDiff]; rfl) ⟨_, (by first | (cases rare <;> simp_all; done) | (cases rare <;> simp_all <;> omega)), rfl, rfl⟩
          rintro l h' ⟨b, hb141, rfl, rfl⟩
          exact ⟨b, by rw [hb141]; unfold btr; cases rare; (simp; omega); (simp; omega), rfl, rfl⟩
        · replace c140 : ¬ _ := fun hp => Bool.false_ne_true (c140.symm.trans (hb140.2 hp))
          refine V_skipk [0, 1, 2, 3, 4, 11, 12, 13] (by simp only [proj, lk, reduceIte, Nat.reduceEqDiff]; rfl) ?_
          exact ⟨bt, by rw [hb139]; unfold btr; constructor; (rintro (z | z); (exact .inl z); (exact .inr (.inl z))); (rintro (z | z | z); (exact .inl z); (exact .inr z); (by_cases q : bb < 0; (exact .inl q); (exact absurd ⟨q, z.1⟩ c140))), rfl, rfl⟩
      rintro l h' ⟨bt2, hbt2, rfl, rfl⟩
      refine V_sr T.mix (by kernel_rfl) (fun K17 hK17 => ?_)
      refine S_mv rfl ?_
      refine S_nil (hK17 _ _ (V_keep [0, 1, 2, 3, 4, 11, 12, 87] (by simp only [proj, lk, reduceIte, Nat.reduceEqDiff]; rfl) ?_)); clear hK17
      refine V_condb rfl (fun c143 => ?_) (fun c143 => ?_)
      · skip
        refine V_reg T.mix (by kernel_rfl) ?_
        refine S_mv rfl ?_
        refine S_as rfl ?_
        refine S_nilk [0, 1, 2, 3, 4, 11, 12] (by simp only [proj, lk, reduceIte, Nat.reduceEqDiff]; rfl) ?_
        refine hK8 _ _ ?_; clear hK8
        refine V_reg T.mix (by kernel_rfl) ?_
        refine S_mv rfl ?_
        first | refine S_add rfl rfl (by omega) (by omega) ?_ | refine S_bin rfl rfl rfl ?_
        refine S_as rfl ?_
        refine S_nilk [0, 1, 2, 3, 4, 11, 12] (by simp only [proj, lk, reduceIte, Nat.reduceEqDiff]; rfl) ?_
        exact hK5 _ _ ⟨_, by omega, i + 1, i, by omega, by have h9 := hb.step c138; rw [if_pos (hbt2.1 c143)] at h9; exact h9, rfl, rfl, rfl⟩
      · skip
        refine V_skipk [0, 1, 2, 3, 4, 11, 12] (by simp only [proj, lk, reduceIte, Nat.reduceEqDiff]; rfl) ?_
        refine hK8 _ _ ?_; clear hK8
        refine V_reg T.mix (by kernel_rfl) ?_
        refine S_mv rfl ?_
        first | refine S_add rfl rfl (by omega) (by omega) ?_ | refine S_bin rfl rfl rfl ?_
        refine S_as rfl ?_
        refine S_nilk [0, 1, 2, 3, 4, 11, 12] (by simp only [proj, lk, reduceIte, Nat.reduceEqDiff]; rfl) ?_
        exact hK5 _ _ ⟨_, by omega, i + 1, bb, by omega, by have h9 := hb.step c138; rw [if_neg (fun z => by have h8 := hbt2.2 z; rw [c143] at h8; cases h8)] at h9; exact h9, rfl, rfl, rfl⟩
    · replace c138 : ¬ _ := fun hp => Bool.false_ne_true (c138.symm.trans (hb138.2 hp))
      refine V_skipk [0, 1, 2, 3, 4, 11, 12] (by simp only [proj, lk, reduceIte, Nat.reduceEqDiff]; rfl) ?_
      refine hK8 _ _ ?_; clear hK8
      refine V_reg T.mix (by kernel_rfl) ?_
      refine S_mv rfl ?_
      first | refine S_add rfl rfl (by omega) (by omega) ?_ | refine S_bin rfl rfl rfl ?_
      refine S_as rfl ?_
      refine S_nilk [0, 1, 2, 3, 4, 11, 12] (by simp only [proj, lk, reduceIte, Nat.reduceEqDiff]; rfl) ?_
      exact hK5 _ _ ⟨_, by omega, i + 1, bb, by omega, hb.no c138, rfl, rfl, rfl⟩
  · skip
    refine V_exitk [11] rfl (by simp only [proj, lk, reduceIte, Nat.reduceEqDiff]; rfl) ?_
    refine hK3 _ _ ?_; clear hK3
    refine V_sr T.mix (by kernel_rfl) (fun K18 hK18 => ?_)
    refine S_mv rfl ?_
    refine S_as rfl ?_
    refine S_nil (hK18 _ _ (V_keep [10] (by simp only [proj, lk, reduceIte, Nat.reduceEqDiff]; rfl) ?_)); clear hK18
    refine V_ret ?_
    refine hR _ _ (ret1 rfl rfl ?_)
    exact ⟨bb, rfl, by rw [show N = i by omega]; exact hb, rfl⟩
set_option maxHeartbeats 3200000 in
theorem repair_spec (h : Heap) (N : Nat) (cnt lf : Nat → Nat) (ab ao cap ob : Nat) (hN : N ≤ 265) (hIc : OL h (some ⟨ab, ao, none⟩) cap (il N cnt)) (hob : B h ob (ia N lf) 3) (hcb : ∀ i, i < N → cnt i ≤ 1048576) (L : Nat) (hao : ab ≠ ob) (hL1 : 1 ≤ L) (hL2 : L ≤ 10) (hu : liv cnt N ≤ 2 ^ L) (h2 : 2 ≤ liv cnt N) (hz : ∀ i, i < N → (lf i = 0 ↔ cnt i = 0)) (hle : ∀ i, i < N → lf i ≤ 1000) :
    FC Tryz.prog 105 (#[.slice (some ⟨ab, ao, none⟩) N cap, .slice (some ⟨ob, 0, none⟩) N N, .int .i64 (L : Int)] : Array Value) h fun rv h' => rv = .tuple #[] ∧ ∃ o, B h' ob (ia N o) 3 ∧ (∀ i, i < N → o i = mend N cnt L lf i) ∧ Ext (fun b => b = ob) h h' := by
  have hp := p10 hL2
  have hp0 := pp2 L
  refine FC_of [(0, .slice (some ⟨ab, ao, none⟩) N cap), (1, .slice (some ⟨ob, 0, none⟩) N N), (2, .int .i64 (L : Int))] Tryz.func105 rfl Tryz.ntmps105 (by simp) rfl (fun R hR => ?_)
  refine V_sr T.mix (by kernel_rfl) (fun K1 hK1 => ?_)
  refine S_mv rfl ?_
  refine S_cvN (L) T.us3 T.in105 rfl (by omega) (tu64 (by omega)) ?_
  refine S_nshl 1 (L) (2 ^ (L)) rfl rfl rfl rfl (Nat.one_mul _) (show L ≤ 64 by omega) (t64 (by have h9 := p10 (a := L) (by omega); omega)) ?_
  refine S_as rfl ?_
  refine S_nil (hK1 _ _ (V_keep [0, 1, 2, 6] (by simp only [proj, lk, reduceIte, Nat.reduceEqDiff]; rfl) ?_)); clear hK1
  refine V_sr T.mix (by kernel_rfl) (fun K2 hK2 => ?_)
  refine S_as rfl ?_
  refine S_nil (hK2 _ _ (V_keep [0, 1, 2, 6, 7] (by simp only [proj, lk, reduceIte, Nat.reduceEqDiff]; rfl) ?_)); clear hK2
  refine V_seq (fun K3 hK3 => ?_)
  refine V_sr T.mix (by kernel_rfl) (fun K4 hK4 => ?_)
  refine S_as rfl ?_
  refine S_nil (hK4 _ _ (V_keep [0, 1, 2, 6, 7, 8] (by simp only [proj, lk, reduceIte, Nat.reduceEqDiff]; rfl) ?_)); clear hK4
  refine V_block ?_
  refine V_loop (fun m l h' => ∃ (s kx : Nat) (hk : Heap) (A : Nat → Nat), (s ≤ N) ∧ (B hk ob (ia N A) 3) ∧ (∀ i, i < s → A i = cut L lf i) ∧ (∀ i, s ≤ i → A i = lf i) ∧ (kx = kk L (cut L lf) s) ∧ (Ext (fun b => b = ob) h hk) ∧ m = N - s ∧ l = [(0, .slice (some ⟨ab, ao, none⟩) N cap), (1, .slice (some ⟨ob, 0, none⟩) N N), (2, .int .i64 (L : Int)), (6, .int .i64 ((2 ^ L : Nat) : Int)), (7, .int .i64 (kx : Int)), (8, .int .i64 (s : Int))] ∧ hk = h') _ ⟨0, 0, h, lf, Nat.zero_le _, hob, fun i hi => by omega, fun i _ => rfl, rfl, Ext.refl _ _, rfl, rfl, rfl⟩ ?_
  rintro m l h' ⟨s, kx, hk, A, hs, hA, hA1, hA2, hkx, hE, rfl, rfl, rfl⟩ K5 hK5
  have hlt := ia_at hA
  have hoo := ia_ok hA
  have hAs := hA2 s (Nat.le_refl _)
  have hkl := kk_le (l := cut L lf) hL2 s
  have hls : s < N → lf s ≤ 1000 := fun z => hle s z
  refine V_seq (fun K6 hK6 => ?_)
  refine V_sr T.mix (by kernel_rfl) (fun K7 hK7 => ?_)
  refine S_mv rfl ?_
  refine S_mv rfl ?_
  refine S_lenl T.el56 rfl ?_
  refine S_bin rfl rfl rfl ?_
  refine S_nil (hK7 _ _ (V_keep [0, 1, 2, 6, 7, 8, 17] (by simp only [proj, lk, reduceIte, Nat.reduceEqDiff]; rfl) ?_)); clear hK7
  refine V_condp rfl (fun c155 => ?_) (fun c155 => ?_)
  · skip
    refine V_skipk [0, 1, 2, 6, 7, 8] (by simp only [proj, lk, reduceIte, Nat.reduceEqDiff]; rfl) ?_
    refine hK6 _ _ ?_; clear hK6
    refine V_seq (fun K8 hK8 => ?_)
    refine V_block ?_
    refine V_seqJ (fun l h' => ∃ (hk : Heap) (A : Nat → Nat), (B hk ob (ia N A) 3) ∧ (∀ i, i < s + 1 → A i = cut L lf i) ∧ (∀ i, s + 1 ≤ i → A i = lf i) ∧ (Ext (fun b => b = ob) h hk) ∧ l = [(0, .slice (some ⟨ab, ao, none⟩) N cap), (1, .slice (some ⟨ob, 0, none⟩) N N), (2, .int .i64 (L : Int)), (6, .int .i64 ((2 ^ L : Nat) : Int)), (7, .int .i64 (kx : Int)), (8, .int .i64 (s : Int))] ∧ hk = h') ?_ ?_
    · skip
      refine V_sr T.mix (by kernel_rfl) (fun K10 hK10 => ?_)
      refine S_mv rfl ?_
      refine S_mv rfl ?_
      first | refine S_ixn T.el56 rfl rfl (by omega) ?_ | refine S_ix1 T.el56 rfl rfl (by omega) (by omega) ?_ | refine S_ix T.el56 rfl rfl (by omega) (by omega) ?_
      refine S_ldK T.ag3 rfl (fun K' hK' => ?_)
      simp (disch := omega) only [hlt, oP_some, Nat.add_zero]
      refine hK' _ ?_; clear hK' K'
      refine S_mv rfl ?_
      refine S_bin rfl rfl rfl ?_
      refine S_nil (hK10 _ _ (V_keep [0, 1, 2, 6, 7, 8, 25] (by simp only [proj, lk, reduceIte, Nat.reduceEqDiff]; rfl) ?_)); clear hK10
      refine V_condp rfl (fun c156 => ?_) (fun c156 => ?_)
      · skip
        have hA1_ := hA1
        refine V_reg T.mix (by kernel_rfl) ?_
        refine S_mv rfl ?_
        refine S_mv rfl ?_
        refine S_mv rfl ?_
        first | refine S_ixn T.el56 rfl rfl (by omega) ?_ | refine S_ix1 T.el56 rfl rfl (by omega) (by omega) ?_ | refine S_ix T.el56 rfl rfl (by omega) (by omega) ?_
        refine S_st T.sz3 rfl rfl rfl rfl (by simp (disch := omega) only [hoo]) ?_
        generalize hh : putH _ _ _ = h1
        have hA1 : B h1 ob (ia N (ups A s L)) 3 := by rw [← hh]; exact ia_put hA s L
        have hE1 : Ext (fun b => b = ob) hk h1 := by rw [← hh]; exact Ext.put _ _ rfl
        clear hh
        refine S_nilk [0, 1, 2, 6, 7, 8] (by simp only [proj, lk, reduceIte, Nat.reduceEqDiff]; rfl) ?_
        exact ⟨h1, ups A s L, hA1, fun i hi => by by_cases e : i = s; (rw [e, ups_eq]; unfold cut; rw [if_pos (by omega)]); (rw [ups_ne _ _ e]; exact hA1_ i (by omega)), fun i hi => by rw [ups_ne _ _ (by omega)]; exact hA2 i (by omega), hE.trans hE1, rfl, rfl⟩
      · skip
        refine V_skipk [0, 1, 2, 6, 7, 8] (by simp only [proj, lk, reduceIte, Nat.reduceEqDiff]; rfl) ?_
        exact ⟨hk, A, hA, fun i hi => by by_cases e : i = s; (rw [e, hAs]; unfold cut; rw [if_neg (by omega)]); (exact hA1 i (by omega)), fun i hi => hA2 i (by omega), hE, rfl, rfl⟩
    rintro l h' ⟨hk, A, hA, hA3, hA4, hE, rfl, rfl⟩
    have hlt := ia_at hA
    have hcs := hA3 s (by omega)
    have hcl : A s ≤ L := by rw [hcs]; unfold cut; split <;> omega
    refine V_sr T.mix (by kernel_rfl) (fun K11 hK11 => ?_)
    refine S_mv rfl ?_
    refine S_mv rfl ?_
    first | refine S_ixn T.el56 rfl rfl (by omega) ?_ | refine S_ix1 T.el56 rfl rfl (by omega) (by omega) ?_ | refine S_ix T.el56 rfl rfl (by omega) (by omega) ?_
    refine S_ldK T.ag3 rfl (fun K' hK' => ?_)
    simp (disch := omega) only [hlt, oP_some, Nat.add_zero]
    refine hK' _ ?_; clear hK' K'
    refine S_bin rfl rfl rfl ?_
    refine S_nil (hK11 _ _ (V_keep [0, 1, 2, 6, 7, 8, 34] (by simp only [proj, lk, reduceIte, Nat.reduceEqDiff]; rfl) ?_)); clear hK11
    refine V_condp rfl (fun c159 => ?_) (fun c159 => ?_)
    · skip
      refine V_reg T.mix (by kernel_rfl) ?_
      refine S_mv rfl ?_
      refine S_mv rfl ?_
      refine S_mv rfl ?_
      refine S_mv rfl ?_
      first | refine S_ixn T.el56 rfl rfl (by omega) ?_ | refine S_ix1 T.el56 rfl rfl (by omega) (by omega) ?_ | refine S_ix T.el56 rfl rfl (by omega) (by omega) ?_
      refine S_ldK T.ag3 rfl (fun K' hK' => ?_)
      simp (disch := omega) only [hlt, oP_some, Nat.add_zero]
      refine hK' _ ?_; clear hK' K'
      refine S_subN (L - A s) rfl rfl (by omega) (by omega) ?_
      refine S_cvN (L - A s) T.us3 T.in105 rfl (by omega) (tu64 (by omega)) ?_
      refine S_nshl 1 (L - A s) (2 ^ (L - A s)) rfl rfl rfl rfl (Nat.one_mul _) (show L - A s ≤ 64 by omega) (t64 (by have h9 := p10 (a := L - A s) (by omega); omega)) ?_
      have h9 := p10 (a := L - A s) (by omega)
      refine S_addN (kx + 2 ^ (L - A s)) rfl rfl (by omega) (by omega) ?_
      refine S_as rfl ?_
      refine S_nilk [0, 1, 2, 6, 7, 8] (by simp only [proj, lk, reduceIte, Nat.reduceEqDiff]; rfl) ?_
      refine hK8 _ _ ?_; clear hK8
      refine V_reg T.mix (by kernel_rfl) ?_
      refine S_mv rfl ?_
      refine S_addN (s + 1) rfl rfl (by omega) (by omega) ?_
      refine S_as rfl ?_
      refine S_nilk [0, 1, 2, 6, 7, 8] (by simp only [proj, lk, reduceIte, Nat.reduceEqDiff]; rfl) ?_
      exact hK5 _ _ ⟨_, by omega, s + 1, _, hk, A, by omega, hA, hA3, hA4, by rw [hkx, kk_succ, ← hcs, if_pos (by omega)], hE, rfl, rfl, rfl⟩
    · skip
      refine V_skipk [0, 1, 2, 6, 7, 8] (by simp only [proj, lk, reduceIte, Nat.reduceEqDiff]; rfl) ?_
      refine hK8 _ _ ?_; clear hK8
      refine V_reg T.mix (by kernel_rfl) ?_
      refine S_mv rfl ?_
      refine S_addN (s + 1) rfl rfl (by omega) (by omega) ?_
      refine S_as rfl ?_
      refine S_nilk [0, 1, 2, 6, 7, 8] (by simp only [proj, lk, reduceIte, Nat.reduceEqDiff]; rfl) ?_
      exact hK5 _ _ ⟨_, by omega, s + 1, kx, hk, A, by omega, hA, hA3, hA4, by rw [hkx, kk_succ, ← hcs, if_neg (by omega)]; rfl, hE, rfl, rfl, rfl⟩
  · skip
    have hsN : s = N := by omega
    have hAc : B hk ob (ia N (cut L lf)) 3 := ia_cong hA (fun i hi => hA1 i (by omega))
    rw [hkx, hsN]
    refine V_exitk [0, 1, 2, 6, 7] rfl (by simp only [proj, lk, reduceIte, Nat.reduceEqDiff]; rfl) ?_
    refine hK3 _ _ ?_; clear hK3
    refine V_seq (fun K12 hK12 => ?_)
    refine V_block ?_
    refine V_loop (fun m l h' => ∃ (f : Nat) (A : Nat → Nat) (hk : Heap), (MI N cnt L A) ∧ (m1 N cnt L f A = m1 N cnt L (L * N) (cut L lf)) ∧ (rm L A N ≤ f) ∧ (B hk ob (ia N A) 3) ∧ (Ext (fun b => b = ob) h hk) ∧ m = f + 1 ∧ l = [(0, .slice (some ⟨ab, ao, none⟩) N cap), (1, .slice (some ⟨ob, 0, none⟩) N N), (2, .int .i64 (L : Int)), (6, .int .i64 ((2 ^ L : Nat) : Int)), (7, .int .i64 (kk L A N : Int))] ∧ hk = h') _ ⟨L * N, cut L lf, hk, MI.cut hL1 hz, rfl, rm_le _, hAc, hE, rfl, rfl, rfl⟩ ?_
    rintro m l h' ⟨f, A, hk, mi, hm, hrf, hA, hE, rfl, rfl, rfl⟩ K13 hK13
    have hlt := ia_at hA
    have hoo := ia_ok hA
    have hkl := kk_le (l := A) hL2 N
    refine V_seq (fun K14 hK14 => ?_)
    refine V_sr T.mix (by kernel_rfl) (fun K15 hK15 => ?_)
    refine S_mv rfl ?_
    refine S_mv rfl ?_
    refine S_bin rfl rfl rfl ?_
    refine S_nil (hK15 _ _ (V_keep [0, 1, 2, 6, 7, 47] (by simp only [proj, lk, reduceIte, Nat.reduceEqDiff]; rfl) ?_)); clear hK15
    refine V_condp rfl (fun c163 => ?_) (fun c163 => ?_)
    · skip
      refine V_skipk [0, 1, 2, 6, 7] (by simp only [proj, lk, reduceIte, Nat.reduceEqDiff]; rfl) ?_
      refine hK14 _ _ ?_; clear hK14
      refine V_block ?_
      refine V_sr T.mix (by kernel_rfl) (fun K16 hK16 => ?_)
      refine S_mv rfl ?_
      refine S_mv rfl ?_
      refine S_mv rfl ?_
      refine S_subN (L - 1) rfl rfl (by omega) (by omega) ?_
      refine S_call T.hb136 rfl ?_
      obtain ⟨i, hs⟩ := mi.find1 hu (by omega)
      obtain ⟨s1, s2, s3, s4, s5⟩ := mi.step1 hs hL1
      have hrm := rm_up s1 s3
      refine FC.mono (pick_spec hk N cnt A ab ao cap ob hN (hIc.ext hE (fun b e z => by cases e; exact hao z)) hA hcb 1 (L - 1) (by omega) (by omega) true) ?_
      rintro v' h' ⟨b, rfl, hsb, rfl⟩
      obtain rfl := hsb.some hs
      refine S_as rfl ?_
      refine S_nil (hK16 _ _ (V_keep [0, 1, 2, 6, 7, 9] (by simp only [proj, lk, reduceIte, Nat.reduceEqDiff]; rfl) ?_)); clear hK16
      refine V_sr T.mix (by kernel_rfl) (fun K17 hK17 => ?_)
      refine S_mv rfl ?_
      refine S_mv rfl ?_
      first | refine S_ixn T.el56 rfl rfl (by omega) ?_ | refine S_ix1 T.el56 rfl rfl (by omega) (by omega) ?_ | refine S_ix T.el56 rfl rfl (by omega) (by omega) ?_
      refine S_ldK T.ag3 rfl (fun K' hK' => ?_)
      simp (disch := omega) only [hlt, oP_some, Nat.add_zero]
      refine hK' _ ?_; clear hK' K'
      refine S_addN (A i + 1) rfl rfl (by omega) (by omega) ?_
      first | refine S_ixn T.el56 rfl rfl (by omega) ?_ | refine S_ix1 T.el56 rfl rfl (by omega) (by omega) ?_ | refine S_ix T.el56 rfl rfl (by omega) (by omega) ?_
      refine S_st T.sz3 rfl rfl rfl rfl (by simp (disch := omega) only [hoo]) ?_
      generalize hh : putH _ _ _ = h1
      have hA1 : B h1 ob (ia N (ups A i (A i + 1))) 3 := by rw [← hh]; exact ia_put hA i (A i + 1)
      have hE1 : Ext (fun b => b = ob) hk h1 := by rw [← hh]; exact Ext.put _ _ rfl
      clear hh
      have hlt := ia_at hA1
      refine S_nil (hK17 _ _ (V_keep [0, 1, 2, 6, 7, 9] (by simp only [proj, lk, reduceIte, Nat.reduceEqDiff]; rfl) ?_)); clear hK17
      refine V_reg T.mix (by kernel_rfl) ?_
      refine S_mv rfl ?_
      refine S_mv rfl ?_
      refine S_mv rfl ?_
      refine S_mv rfl ?_
      first | refine S_ixn T.el56 rfl rfl (by omega) ?_ | refine S_ix1 T.el56 rfl rfl (by omega) (by omega) ?_ | refine S_ix T.el56 rfl rfl (by omega) (by omega) ?_
      refine S_ldK T.ag3 rfl (fun K' hK' => ?_)
      simp (disch := omega) only [hlt, oP_some, Nat.add_zero]
      refine hK' _ ?_; clear hK' K'
      rw [ups_eq]
      refine S_subN (L - (A i + 1)) rfl rfl (by omega) (by omega) ?_
      refine S_cvN (L - (A i + 1)) T.us3 T.in105 rfl (by omega) (tu64 (by omega)) ?_
      refine S_nshl 1 (L - (A i + 1)) (2 ^ (L - (A i + 1))) rfl rfl rfl rfl (Nat.one_mul _) (show L - (A i + 1) ≤ 64 by omega) (t64 (by have h9 := p10 (a := L - (A i + 1)) (by omega); omega)) ?_
      have h8 := kk_le (l := ups A i (A i + 1)) hL2 N
      refine S_subN (kk L (ups A i (A i + 1)) N) rfl rfl (by omega) (by omega) ?_
      refine S_as rfl ?_
      refine S_nilk [0, 1, 2, 6, 7] (by simp only [proj, lk, reduceIte, Nat.reduceEqDiff]; rfl) ?_
      obtain ⟨f2, rfl⟩ : ∃ f2, f = f2 + 1 := ⟨f - 1, by omega⟩
      exact hK13 _ _ ⟨_, by omega, f2, ups A i (A i + 1), h1, s4, by rw [← hm, m1_go (by omega) hs], by omega, hA1, hE.trans hE1, rfl, rfl, rfl⟩
    · skip
      have hm2 : m2 N cnt L (2 ^ L) A = mend N cnt L lf := by unfold mend; rw [← hm, m1_end (by omega)]
      refine V_exitk [0, 1, 2, 6, 7] rfl (by simp only [proj, lk, reduceIte, Nat.reduceEqDiff]; rfl) ?_
      refine hK12 _ _ ?_; clear hK12
      refine V_block ?_
      refine V_loop (fun m l h' => ∃ (f : Nat) (A : Nat → Nat) (hk : Heap), (MI N cnt L A) ∧ (m2 N cnt L f A = mend N cnt L lf) ∧ (kk L A N ≤ 2 ^ L) ∧ (2 ^ L - kk L A N ≤ f) ∧ (B hk ob (ia N A) 3) ∧ (Ext (fun b => b = ob) h hk) ∧ m = f + 1 ∧ l = [(0, .slice (some ⟨ab, ao, none⟩) N cap), (1, .slice (some ⟨ob, 0, none⟩) N N), (2, .int .i64 (L : Int)), (6, .int .i64 ((2 ^ L : Nat) : Int)), (7, .int .i64 (kk L A N : Int))] ∧ hk = h') _ ⟨2 ^ L, A, hk, mi, hm2, by omega, Nat.sub_le _ _, hA, hE, rfl, rfl, rfl⟩ ?_
      rintro m l h' ⟨f, A, hk, mi, hm, hk1, hkf, hA, hE, rfl, rfl, rfl⟩ K18 hK18
      have hlt := ia_at hA
      have hoo := ia_ok hA
      refine V_seq (fun K19 hK19 => ?_)
      refine V_sr T.mix (by kernel_rfl) (fun K20 hK20 => ?_)
      refine S_mv rfl ?_
      refine S_mv rfl ?_
      refine S_bin rfl rfl rfl ?_
      refine S_nil (hK20 _ _ (V_keep [0, 1, 2, 6, 7, 71] (by simp only [proj, lk, reduceIte, Nat.reduceEqDiff]; rfl) ?_)); clear hK20
      refine V_condp rfl (fun c168 => ?_) (fun c168 => ?_)
      · skip
        refine V_skipk [0, 1, 2, 6, 7] (by simp only [proj, lk, reduceIte, Nat.reduceEqDiff]; rfl) ?_
        refine hK19 _ _ ?_; clear hK19
        refine V_block ?_
        refine V_sr T.mix (by kernel_rfl) (fun K21 hK21 => ?_)
        refine S_mv rfl ?_
        refine S_mv rfl ?_
        refine S_mv rfl ?_
        refine S_call T.hb136 rfl ?_
        obtain ⟨i, hs⟩ := mi.find2 hL1 h2 (by omega)
        obtain ⟨s1, s2, s3, s4, s5, s6⟩ := mi.step2 hs (by omega)
        have hpp := pp2 (L - A i)
        refine FC.mono (pick_spec hk N cnt A ab ao cap ob hN (hIc.ext hE (fun b e z => by cases e; exact hao z)) hA hcb 2 L (by omega) (by omega) false) ?_
        rintro v' h' ⟨b, rfl, hsb, rfl⟩
        obtain rfl := hsb.some hs
        refine S_as rfl ?_
        refine S_nil (hK21 _ _ (V_keep [0, 1, 2, 6, 7, 10] (by simp only [proj, lk, reduceIte, Nat.reduceEqDiff]; rfl) ?_)); clear hK21
        refine V_sr T.mix (by kernel_rfl) (fun K22 hK22 => ?_)
        refine S_mv rfl ?_
        refine S_mv rfl ?_
        refine S_mv rfl ?_
        refine S_mv rfl ?_
        first | refine S_ixn T.el56 rfl rfl (by omega) ?_ | refine S_ix1 T.el56 rfl rfl (by omega) (by omega) ?_ | refine S_ix T.el56 rfl rfl (by omega) (by omega) ?_
        refine S_ldK T.ag3 rfl (fun K' hK' => ?_)
        simp (disch := omega) only [hlt, oP_some, Nat.add_zero]
        refine hK' _ ?_; clear hK' K'
        refine S_subN (L - A i) rfl rfl (by omega) (by omega) ?_
        refine S_cvN (L - A i) T.us3 T.in105 rfl (by omega) (tu64 (by omega)) ?_
        refine S_nshl 1 (L - A i) (2 ^ (L - A i)) rfl rfl rfl rfl (Nat.one_mul _) (show L - A i ≤ 64 by omega) (t64 (by have h9 := p10 (a := L - A i) (by omega); omega)) ?_
        refine S_addN (kk L (ups A i (A i - 1)) N) rfl rfl (by omega) (by omega) ?_
        refine S_as rfl ?_
        refine S_nil (hK22 _ _ (V_keep [0, 1, 2, 6, 7, 10] (by simp only [proj, lk, reduceIte, Nat.reduceEqDiff]; rfl) ?_)); clear hK22
        refine V_reg T.mix (by kernel_rfl) ?_
        refine S_mv rfl ?_
        refine S_mv rfl ?_
        first | refine S_ixn T.el56 rfl rfl (by omega) ?_ | refine S_ix1 T.el56 rfl rfl (by omega) (by omega) ?_ | refine S_ix T.el56 rfl rfl (by omega) (by omega) ?_
        refine S_ldK T.ag3 rfl (fun K' hK' => ?_)
        simp (disch := omega) only [hlt, oP_some, Nat.add_zero]
        refine hK' _ ?_; clear hK' K'
        refine S_subN (A i - 1) rfl rfl (by omega) (by omega) ?_
        first | refine S_ixn T.el56 rfl rfl (by omega) ?_ | refine S_ix1 T.el56 rfl rfl (by omega) (by omega) ?_ | refine S_ix T.el56 rfl rfl (by omega) (by omega) ?_
        refine S_st T.sz3 rfl rfl rfl rfl (by simp (disch := omega) only [hoo]) ?_
        generalize hh : putH _ _ _ = h1
        have hA1 : B h1 ob (ia N (ups A i (A i - 1))) 3 := by rw [← hh]; exact ia_put hA i (A i - 1)
        have hE1 : Ext (fun b => b = ob) hk h1 := by rw [← hh]; exact Ext.put _ _ rfl
        clear hh
        refine S_nilk [0, 1, 2, 6, 7] (by simp only [proj, lk, reduceIte, Nat.reduceEqDiff]; rfl) ?_
        obtain ⟨f2, rfl⟩ : ∃ f2, f = f2 + 1 := ⟨f - 1, by omega⟩
        exact hK18 _ _ ⟨_, by omega, f2, ups A i (A i - 1), h1, s4, by rw [← hm, m2_go (by omega) hs], s6, by omega, hA1, hE.trans hE1, rfl, rfl, rfl⟩
      · skip
        have hfin : mend N cnt L lf = A := by rw [← hm, m2_end (by omega)]
        refine V_exitk [] rfl (by simp only [proj, lk, reduceIte, Nat.reduceEqDiff]; rfl) ?_
        -- end
        refine hR _ _ (ret0 rfl ?_)
        exact ⟨rfl, A, hA, fun i _ => by rw [hfin], hE⟩
set_option maxHeartbeats 400000 in
theorem kraft_spec (h : Heap) (a : Option Addr) (cap : Nat) (xs : List Int) (ho : OL h a cap xs) (hl : xs.length ≤ 1000) (hok : okL xs) :
    FC Tryz.prog 165 (#[.slice a xs.length cap] : Array Value) h fun v h' => v = .int .i64 (kk 10 (cf xs) xs.length : Int) ∧ h = h' := by
  refine FC_of [(0, .slice a xs.length cap)] Tryz.func165 rfl Tryz.ntmps165 (by simp) rfl (fun R hR => ?_)
  refine V_sr T.mix (by kernel_rfl) (fun K1 hK1 => ?_)
  refine S_as rfl ?_
  refine S_nil (hK1 _ _ (V_keep [0] (by simp only [proj, lk, reduceIte, Nat.reduceEqDiff]; rfl) ?_)); clear hK1
  refine V_sr T.mix (by kernel_rfl) (fun K2 hK2 => ?_)
  refine S_as rfl ?_
  refine S_nil (hK2 _ _ (V_keep [0, 3] (by simp only [proj, lk, reduceIte, Nat.reduceEqDiff]; rfl) ?_)); clear hK2
  refine V_seq (fun K3 hK3 => ?_)
  refine V_sr T.mix (by kernel_rfl) (fun K4 hK4 => ?_)
  refine S_as rfl ?_
  refine S_nil (hK4 _ _ (V_keep [0, 3, 4] (by simp only [proj, lk, reduceIte, Nat.reduceEqDiff]; rfl) ?_)); clear hK4
  refine V_block ?_
  refine V_loop (fun m l h' => ∃ (i kx : Nat), (i ≤ xs.length) ∧ (kx = kk 10 (cf xs) i) ∧ m = xs.length - i ∧ l = [(0, .slice a xs.length cap), (3, .int .i64 (kx : Int)), (4, .int .i64 (i : Int))] ∧ h = h') _ ⟨0, 0, Nat.zero_le _, rfl, rfl, rfl, rfl⟩ ?_
  rintro m l h' ⟨i, kx, hi, hkx, rfl, rfl, rfl⟩ K5 hK5
  have hkl := kk_le (L := 10) (l := cf xs) (Nat.le_refl _) i
  have hoki := hok i
  refine V_seq (fun K6 hK6 => ?_)
  refine V_sr T.mix (by kernel_rfl) (fun K7 hK7 => ?_)
  refine S_mv rfl ?_
  refine S_mv rfl ?_
  refine S_lenl T.el56 rfl ?_
  refine S_bin rfl rfl rfl ?_
  refine S_nil (hK7 _ _ (V_keep [0, 3, 4, 8] (by simp only [proj, lk, reduceIte, Nat.reduceEqDiff]; rfl) ?_)); clear hK7
  refine V_condp rfl (fun c27 => ?_) (fun c27 => ?_)
  · skip
    obtain ⟨ab, ao, habe, _, hat⟩ := ho.get (by omega)
    subst habe
    have hcf := cf_at (hoki (by omega)).1
    refine V_skipk [0, 3, 4] (by simp only [proj, lk, reduceIte, Nat.reduceEqDiff]; rfl) ?_
    refine hK6 _ _ ?_; clear hK6
    refine V_seq (fun K8 hK8 => ?_)
    refine V_block ?_
    refine V_sr T.mix (by kernel_rfl) (fun K9 hK9 => ?_)
    refine S_mv rfl ?_
    refine S_mv rfl ?_
    first | refine S_ixn T.el56 rfl rfl (by omega) ?_ | refine S_ix1 T.el56 rfl rfl (by omega) (by omega) ?_ | refine S_ix T.el56 rfl rfl (by omega) (by omega) ?_
    refine S_ldK T.ag3 rfl (fun K' hK' => ?_)
    simp (disch := omega) only [hat, Nat.mul_one, Int.toNat_natCast, oP_some, Nat.add_zero]
    refine hK' _ ?_; clear hK' K'
    refine S_bin rfl rfl rfl ?_
    refine S_nil (hK9 _ _ (V_keep [0, 3, 4, 15] (by simp only [proj, lk, reduceIte, Nat.reduceEqDiff]; rfl) ?_)); clear hK9
    refine V_condp rfl (fun c28 => ?_) (fun c28 => ?_)
    · skip
      refine V_reg T.mix (by kernel_rfl) ?_
      refine S_mv rfl ?_
      refine S_mv rfl ?_
      refine S_mv rfl ?_
      first | refine S_ixn T.el56 rfl rfl (by omega) ?_ | refine S_ix1 T.el56 rfl rfl (by omega) (by omega) ?_ | refine S_ix T.el56 rfl rfl (by omega) (by omega) ?_
      refine S_ldK T.ag3 rfl (fun K' hK' => ?_)
      simp (disch := omega) only [hat, Nat.mul_one, Int.toNat_natCast, oP_some, Nat.add_zero]
      refine hK' _ ?_; clear hK' K'
      refine S_subN (10 - cf xs i) rfl rfl (by omega) (by omega) ?_
      refine S_cvN (10 - cf xs i) T.us3 T.in105 rfl rfl (tu64 (by omega)) ?_
      have h9 := p10 (a := 10 - cf xs i) (by omega)
      refine S_nshl 1 (10 - cf xs i) (2 ^ (10 - cf xs i)) rfl rfl rfl rfl (Nat.one_mul _) (show 10 - cf xs i ≤ 64 by omega) (t64 (by omega)) ?_
      refine S_addN (kx + 2 ^ (10 - cf xs i)) rfl rfl (by omega) (by omega) ?_
      refine S_as rfl ?_
      refine S_nilk [0, 3, 4] (by simp only [proj, lk, reduceIte, Nat.reduceEqDiff]; rfl) ?_
      refine hK8 _ _ ?_; clear hK8
      refine V_reg T.mix (by kernel_rfl) ?_
      refine S_mv rfl ?_
      first | refine S_add rfl rfl (by omega) (by omega) ?_ | refine S_bin rfl rfl rfl ?_
      refine S_as rfl ?_
      refine S_nilk [0, 3, 4] (by simp only [proj, lk, reduceIte, Nat.reduceEqDiff]; rfl) ?_
      exact hK5 _ _ ⟨_, by omega, i + 1, _, by omega, by rw [hkx, kk_succ, if_pos (by omega)], rfl, rfl, rfl⟩
    · skip
      refine V_skipk [0, 3, 4] (by simp only [proj, lk, reduceIte, Nat.reduceEqDiff]; rfl) ?_
      refine hK8 _ _ ?_; clear hK8
      refine V_reg T.mix (by kernel_rfl) ?_
      refine S_mv rfl ?_
      first | refine S_add rfl rfl (by omega) (by omega) ?_ | refine S_bin rfl rfl rfl ?_
      refine S_as rfl ?_
      refine S_nilk [0, 3, 4] (by simp only [proj, lk, reduceIte, Nat.reduceEqDiff]; rfl) ?_
      exact hK5 _ _ ⟨_, by omega, i + 1, kx, by omega, by rw [hkx, kk_succ, if_neg (by omega)]; rfl, rfl, rfl, rfl⟩
  · skip
    refine V_exitk [3] rfl (by simp only [proj, lk, reduceIte, Nat.reduceEqDiff]; rfl) ?_
    refine hK3 _ _ ?_; clear hK3
    refine V_sr T.mix (by kernel_rfl) (fun K10 hK10 => ?_)
    refine S_mv rfl ?_
    refine S_as rfl ?_
    refine S_nil (hK10 _ _ (V_keep [2] (by simp only [proj, lk, reduceIte, Nat.reduceEqDiff]; rfl) ?_)); clear hK10
    refine V_ret ?_
    refine hR _ _ (ret1 rfl rfl ?_)
    exact ⟨by rw [hkx, show i = xs.length by omega], rfl⟩
set_option maxHeartbeats 1600000 in
theorem checklens_spec (h : Heap) (a : Option Addr) (cap : Nat) (xs : List Int) (ho : OL h a cap xs) :
    FC Tryz.prog 137 (#[.slice a xs.length cap] : Array Value) h fun v h' => v = .int .i64 ((lensE xs : Nat) : Int) ∧ h = h' := by
  refine FC_of [(0, .slice a xs.length cap)] Tryz.func137 rfl Tryz.ntmps137 (by simp) rfl (fun R hR => ?_)
  refine V_sr T.mix (by kernel_rfl) (fun K1 hK1 => ?_)
  refine S_as rfl ?_
  refine S_nil (hK1 _ _ (V_keep [0] (by simp only [proj, lk, reduceIte, Nat.reduceEqDiff]; rfl) ?_)); clear hK1
  refine V_seq (fun K2 hK2 => ?_)
  refine V_sr T.mix (by kernel_rfl) (fun K3 hK3 => ?_)
  refine S_mv rfl ?_
  refine S_lenl T.el56 rfl ?_
  refine S_bin rfl rfl rfl ?_
  refine S_nil (hK3 _ _ (V_keep [0, 8] (by simp only [proj, lk, reduceIte, Nat.reduceEqDiff]; rfl) ?_)); clear hK3
  refine V_condp rfl (fun c197 => ?_) (fun c197 => ?_)
  · skip
    refine V_sr T.mix (by kernel_rfl) (fun K4 hK4 => ?_)
    refine S_as rfl ?_
    refine S_nil (hK4 _ _ (V_keep [2] (by simp only [proj, lk, reduceIte, Nat.reduceEqDiff]; rfl) ?_)); clear hK4
    refine V_ret ?_
    refine hR _ _ (ret1 rfl rfl ?_)
    exact ⟨by unfold lensE; rw [if_pos (by omega)]; rfl, rfl⟩
  · skip
    refine V_skipk [0] (by simp only [proj, lk, reduceIte, Nat.reduceEqDiff]; rfl) ?_
    refine hK2 _ _ ?_; clear hK2
    refine V_seq (fun K5 hK5 => ?_)
    refine V_sr T.mix (by kernel_rfl) (fun K6 hK6 => ?_)
    refine S_as rfl ?_
    refine S_nil (hK6 _ _ (V_keep [0, 3] (by simp only [proj, lk, reduceIte, Nat.reduceEqDiff]; rfl) ?_)); clear hK6
    refine V_block ?_
    refine V_loop (fun m l h' => ∃ (i : Nat), (i ≤ xs.length) ∧ (∀ j, j < i → 0 ≤ xs.getD j 0 ∧ xs.getD j 0 ≤ 10) ∧ m = xs.length - i ∧ l = [(0, .slice a xs.length cap), (3, .int .i64 (i : Int))] ∧ h = h') _ ⟨0, Nat.zero_le _, fun j hj => by omega, rfl, rfl, rfl⟩ ?_
    rintro m l h' ⟨i, hi, hokp, rfl, rfl, rfl⟩ K7 hK7
    refine V_seq (fun K8 hK8 => ?_)
    refine V_sr T.mix (by kernel_rfl) (fun K9 hK9 => ?_)
    refine S_mv rfl ?_
    refine S_mv rfl ?_
    refine S_lenl T.el56 rfl ?_
    refine S_bin rfl rfl rfl ?_
    refine S_nil (hK9 _ _ (V_keep [0, 3, 12] (by simp only [proj, lk, reduceIte, Nat.reduceEqDiff]; rfl) ?_)); clear hK9
    refine V_condp rfl (fun c200 => ?_) (fun c200 => ?_)
    · skip
      obtain ⟨ab, ao, habe, _, hat⟩ := ho.get (by omega)
      subst habe
      refine V_skipk [0, 3] (by simp only [proj, lk, reduceIte, Nat.reduceEqDiff]; rfl) ?_
      refine hK8 _ _ ?_; clear hK8
      refine V_seq (fun K10 hK10 => ?_)
      refine V_block ?_
      refine V_sr T.mix (by kernel_rfl) (fun K11 hK11 => ?_)
      refine S_mv rfl ?_
      refine S_mv rfl ?_
      first | refine S_ixn T.el56 rfl rfl (by omega) ?_ | refine S_ix1 T.el56 rfl rfl (by omega) (by omega) ?_ | refine S_ix T.el56 rfl rfl (by omega) (by omega) ?_
      refine S_ldK T.ag3 rfl (fun K' hK' => ?_)
      simp (disch := omega) only [hat, Nat.mul_one, Int.toNat_natCast, oP_some, Nat.add_zero]
      refine hK' _ ?_; clear hK' K'
      refine S_bin rfl rfl rfl ?_
      refine S_mv rfl ?_
      refine S_dec (fun g201 => ?_) (fun g201 => ?_)
      · skip
        refine S_gf rfl ?_
        refine S_gf rfl ?_
        refine S_gf rfl ?_
        refine S_gf rfl ?_
        refine S_gf rfl ?_
        refine S_pt rfl rfl ?_
        refine S_nil (hK11 _ _ (V_keep [0, 3, 26] (by simp only [proj, lk, reduceIte, Nat.reduceEqDiff]; rfl) ?_)); clear hK11
        refine V_condt rfl ?_
        refine V_sr T.mix (by kernel_rfl) (fun K12 hK12 => ?_)
        refine S_as rfl ?_
        refine S_nil (hK12 _ _ (V_keep [2] (by simp only [proj, lk, reduceIte, Nat.reduceEqDiff]; rfl) ?_)); clear hK12
        refine V_ret ?_
        refine hR _ _ (ret1 rfl rfl ?_)
        exact ⟨by unfold lensE; rw [if_neg (by omega), if_pos (fun e => by have h9 := e i (by omega); omega)]; rfl, rfl⟩
      · skip
        refine S_gt rfl ?_
        refine S_mv rfl ?_
        refine S_gt rfl ?_
        refine S_mv rfl ?_
        refine S_gt rfl ?_
        first | refine S_ixn T.el56 rfl rfl (by omega) ?_ | refine S_ix1 T.el56 rfl rfl (by omega) (by omega) ?_ | refine S_ix T.el56 rfl rfl (by omega) (by omega) ?_
        refine S_gt rfl ?_
        refine S_ldK T.ag3 rfl (fun K' hK' => ?_)
        simp (disch := omega) only [hat, Nat.mul_one, Int.toNat_natCast, oP_some, Nat.add_zero]
        refine hK' _ ?_; clear hK' K'
        refine S_gt rfl ?_
        refine S_bin rfl rfl rfl ?_
        refine S_pf rfl rfl ?_
        refine S_nil (hK11 _ _ (V_keep [0, 3, 26] (by simp only [proj, lk, reduceIte, Nat.reduceEqDiff]; rfl) ?_)); clear hK11
        refine V_condp rfl (fun c201 => ?_) (fun c201 => ?_)
        · skip
          refine V_sr T.mix (by kernel_rfl) (fun K13 hK13 => ?_)
          refine S_as rfl ?_
          refine S_nil (hK13 _ _ (V_keep [2] (by simp only [proj, lk, reduceIte, Nat.reduceEqDiff]; rfl) ?_)); clear hK13
          refine V_ret ?_
          refine hR _ _ (ret1 rfl rfl ?_)
          exact ⟨by unfold lensE; rw [if_neg (by omega), if_pos (fun e => by have h9 := e i (by omega); omega)]; rfl, rfl⟩
        · skip
          refine V_skipk [0, 3] (by simp only [proj, lk, reduceIte, Nat.reduceEqDiff]; rfl) ?_
          refine hK10 _ _ ?_; clear hK10
          refine V_reg T.mix (by kernel_rfl) ?_
          refine S_mv rfl ?_
          first | refine S_add rfl rfl (by omega) (by omega) ?_ | refine S_bin rfl rfl rfl ?_
          refine S_as rfl ?_
          refine S_nilk [0, 3] (by simp only [proj, lk, reduceIte, Nat.reduceEqDiff]; rfl) ?_
          exact hK7 _ _ ⟨_, by omega, i + 1, by omega, fun j hj => by by_cases e : j = i; (rw [e]; omega); (exact hokp j (by omega)), rfl, rfl, rfl⟩
    · skip
      have hiN : i = xs.length := by omega
      rw [hiN] at hokp
      have hok : okL xs := hokp
      refine V_exitk [0] rfl (by simp only [proj, lk, reduceIte, Nat.reduceEqDiff]; rfl) ?_
      refine hK5 _ _ ?_; clear hK5
      refine V_sr T.mix (by kernel_rfl) (fun K14 hK14 => ?_)
      refine S_mv rfl ?_
      refine S_call T.hb165 rfl ?_
      refine FC.mono (kraft_spec h a cap xs ho (by omega) hok) ?_
      rintro v' h' ⟨rfl, rfl⟩
      refine S_as rfl ?_
      refine S_nil (hK14 _ _ (V_keep [0, 4] (by simp only [proj, lk, reduceIte, Nat.reduceEqDiff]; rfl) ?_)); clear hK14
      refine V_seq (fun K15 hK15 => ?_)
      refine V_sr T.mix (by kernel_rfl) (fun K16 hK16 => ?_)
      refine S_mv rfl ?_
      refine S_bin rfl rfl rfl ?_
      refine S_nil (hK16 _ _ (V_keep [0, 4, 30] (by simp only [proj, lk, reduceIte, Nat.reduceEqDiff]; rfl) ?_)); clear hK16
      refine V_condp rfl (fun c206 => ?_) (fun c206 => ?_)
      · skip
        refine V_sr T.mix (by kernel_rfl) (fun K17 hK17 => ?_)
        refine S_as rfl ?_
        refine S_nil (hK17 _ _ (V_keep [2] (by simp only [proj, lk, reduceIte, Nat.reduceEqDiff]; rfl) ?_)); clear hK17
        refine V_ret ?_
        refine hR _ _ (ret1 rfl rfl ?_)
        exact ⟨by unfold lensE; rw [if_neg (by omega), if_neg (fun e => e hok), if_pos (by omega)]; rfl, rfl⟩
      · skip
        refine V_skipk [0, 4] (by simp only [proj, lk, reduceIte, Nat.reduceEqDiff]; rfl) ?_
        refine hK15 _ _ ?_; clear hK15
        refine V_sr T.mix (by kernel_rfl) (fun K18 hK18 => ?_)
        refine S_mv rfl ?_
        refine S_call T.hb103 rfl ?_
        refine FC.mono (used_spec h a cap xs ho (by omega)) ?_
        rintro v' h' ⟨rfl, rfl⟩
        refine S_as rfl ?_
        refine S_nil (hK18 _ _ (V_keep [4, 5] (by simp only [proj, lk, reduceIte, Nat.reduceEqDiff]; rfl) ?_)); clear hK18
        refine V_seq (fun K19 hK19 => ?_)
        refine V_sr T.mix (by kernel_rfl) (fun K20 hK20 => ?_)
        refine S_mv rfl ?_
        refine S_bin rfl rfl rfl ?_
        refine S_mv rfl ?_
        refine S_dec (fun g210 => ?_) (fun g210 => ?_)
        · skip
          refine S_gt rfl ?_
          refine S_mv rfl ?_
          refine S_gt rfl ?_
          refine S_bin rfl rfl rfl ?_
          refine S_pt rfl rfl ?_
          refine S_nil (hK20 _ _ (V_keep [4, 5, 38] (by simp only [proj, lk, reduceIte, Nat.reduceEqDiff]; rfl) ?_)); clear hK20
          refine V_condp rfl (fun c210 => ?_) (fun c210 => ?_)
          · skip
            refine V_sr T.mix (by kernel_rfl) (fun K21 hK21 => ?_)
            refine S_mv rfl ?_
            refine S_bin rfl rfl rfl ?_
            refine S_mv rfl ?_
            refine S_dec (fun g211 => ?_) (fun g211 => ?_)
            · skip
              refine S_gf rfl ?_
              refine S_gf rfl ?_
              refine S_pt rfl rfl ?_
              refine S_nil (hK21 _ _ (V_keep [44] (by simp only [proj, lk, reduceIte, Nat.reduceEqDiff]; rfl) ?_)); clear hK21
              refine V_condt rfl ?_
              refine V_sr T.mix (by kernel_rfl) (fun K22 hK22 => ?_)
              refine S_as rfl ?_
              refine S_nil (hK22 _ _ (V_keep [2] (by simp only [proj, lk, reduceIte, Nat.reduceEqDiff]; rfl) ?_)); clear hK22
              refine V_ret ?_
              refine hR _ _ (ret1 rfl rfl ?_)
              exact ⟨by unfold lensE; rw [if_neg (by omega), if_neg (fun e => e hok), if_neg (by omega), if_pos (by omega)]; rfl, rfl⟩
            · skip
              refine S_gt rfl ?_
              refine S_mv rfl ?_
              refine S_gt rfl ?_
              refine S_bin rfl rfl rfl ?_
              refine S_pf rfl rfl ?_
              refine S_nil (hK21 _ _ (V_keep [44] (by simp only [proj, lk, reduceIte, Nat.reduceEqDiff]; rfl) ?_)); clear hK21
              refine V_condp rfl (fun c211 => ?_) (fun c211 => ?_)
              · skip
                refine V_sr T.mix (by kernel_rfl) (fun K23 hK23 => ?_)
                refine S_as rfl ?_
                refine S_nil (hK23 _ _ (V_keep [2] (by simp only [proj, lk, reduceIte, Nat.reduceEqDiff]; rfl) ?_)); clear hK23
                refine V_ret ?_
                refine hR _ _ (ret1 rfl rfl ?_)
                exact ⟨by unfold lensE; rw [if_neg (by omega), if_neg (fun e => e hok), if_neg (by omega), if_pos (by omega)]; rfl, rfl⟩
              · skip
                refine V_skipk [] (by simp only [proj, lk, reduceIte, Nat.reduceEqDiff]; rfl) ?_
                refine hK19 _ _ ?_; clear hK19
                refine V_sr T.mix (by kernel_rfl) (fun K24 hK24 => ?_)
                refine S_as rfl ?_
                refine S_nil (hK24 _ _ (V_keep [2] (by simp only [proj, lk, reduceIte, Nat.reduceEqDiff]; rfl) ?_)); clear hK24
                refine V_ret ?_
                refine hR _ _ (ret1 rfl rfl ?_)
                exact ⟨by unfold lensE; rw [if_neg (by omega), if_neg (fun e => e hok), if_neg (by omega), if_neg (by omega)]; rfl, rfl⟩
          · skip
            refine V_skipk [] (by simp only [proj, lk, reduceIte, Nat.reduceEqDiff]; rfl) ?_
            refine hK19 _ _ ?_; clear hK19
            refine V_sr T.mix (by kernel_rfl) (fun K25 hK25 => ?_)
            refine S_as rfl ?_
            refine S_nil (hK25 _ _ (V_keep [2] (by simp only [proj, lk, reduceIte, Nat.reduceEqDiff]; rfl) ?_)); clear hK25
            refine V_ret ?_
            refine hR _ _ (ret1 rfl rfl ?_)
            exact ⟨by unfold lensE; rw [if_neg (by omega), if_neg (fun e => e hok), if_neg (by omega), if_neg (by omega)]; rfl, rfl⟩
        · skip
          refine S_gf rfl ?_
          refine S_gf rfl ?_
          refine S_pf rfl rfl ?_
          refine S_nil (hK20 _ _ (V_keep [4, 5, 38] (by simp only [proj, lk, reduceIte, Nat.reduceEqDiff]; rfl) ?_)); clear hK20
          refine V_condf rfl ?_
          refine V_skipk [] (by simp only [proj, lk, reduceIte, Nat.reduceEqDiff]; rfl) ?_
          refine hK19 _ _ ?_; clear hK19
          refine V_sr T.mix (by kernel_rfl) (fun K26 hK26 => ?_)
          refine S_as rfl ?_
          refine S_nil (hK26 _ _ (V_keep [2] (by simp only [proj, lk, reduceIte, Nat.reduceEqDiff]; rfl) ?_)); clear hK26
          refine V_ret ?_
          refine hR _ _ (ret1 rfl rfl ?_)
          exact ⟨by unfold lensE; rw [if_neg (by omega), if_neg (fun e => e hok), if_neg (by omega), if_neg (by omega)]; rfl, rfl⟩
set_option maxHeartbeats 3200000 in
theorem mplan_spec (h : Heap) (M : Nat) (ca : Option Addr) (cap : Nat) (cl : List Int) (hIc : OL h ca cap cl) (lim : Int) :
    FC Tryz.prog 71 (#[.pointer (some ⟨M, 0, none⟩), .slice ca cl.length cap, .int .i64 lim] : Array Value) h fun rv h' => ∃ (xa : Option Addr), rv = .tuple #[.slice xa (planR cl lim).length (planR cl lim).length, .int .i64 ((planE cl lim : Nat) : Int)] ∧ IL h' xa (planR cl lim).length (planR cl lim) ∧ (∀ b, blkA xa = some b → h.size ≤ b) ∧ Ext (fun _ => False) h h' := by
  refine FC_of [(0, .pointer (some ⟨M, 0, none⟩)), (1, .slice ca cl.length cap), (2, .int .i64 lim)] Tryz.func71 rfl Tryz.ntmps71 (by simp) rfl (fun R hR => ?_)
  refine V_keep [1, 2] (by simp only [proj, lk, reduceIte, Nat.reduceEqDiff]; rfl) ?_
  refine V_sr T.mix (by kernel_rfl) (fun K1 hK1 => ?_)
  refine S_as rfl ?_
  refine S_as rfl ?_
  refine S_nil (hK1 _ _ (V_keep [1, 2] (by simp only [proj, lk, reduceIte, Nat.reduceEqDiff]; rfl) ?_)); clear hK1
  refine V_sr T.mix (by kernel_rfl) (fun K2 hK2 => ?_)
  refine S_mv rfl ?_
  refine S_mv rfl ?_
  refine S_call T.hb102 rfl ?_
  refine FC.mono (checkplan_spec h ca cap cl hIc lim) ?_
  rintro v' h' ⟨rfl, rfl⟩
  refine S_as rfl ?_
  refine S_nil (hK2 _ _ (V_keep [1, 2, 8] (by simp only [proj, lk, reduceIte, Nat.reduceEqDiff]; rfl) ?_)); clear hK2
  refine V_seq (fun K3 hK3 => ?_)
  refine V_sr T.mix (by kernel_rfl) (fun K4 hK4 => ?_)
  refine S_mv rfl ?_
  refine S_bin rfl rfl rfl ?_
  refine S_nil (hK4 _ _ (V_keep [1, 2, 8, 17] (by simp only [proj, lk, reduceIte, Nat.reduceEqDiff]; rfl) ?_)); clear hK4
  refine V_condp rfl (fun c177 => ?_) (fun c177 => ?_)
  · skip
    refine V_sr T.mix (by kernel_rfl) (fun K5 hK5 => ?_)
    refine S_mv rfl ?_
    refine S_as rfl ?_
    refine S_as rfl ?_
    refine S_nil (hK5 _ _ (V_keep [6, 7] (by simp only [proj, lk, reduceIte, Nat.reduceEqDiff]; rfl) ?_)); clear hK5
    refine V_ret ?_
    refine hR _ _ (ret2 rfl rfl rfl ?_)
    obtain ⟨e, he⟩ : ∃ e, planE cl lim = e + 1 := ⟨planE cl lim - 1, by omega⟩
    have hpr := planR_no he
    exact ⟨none, by rw [hpr]; rfl, by rw [hpr]; exact IL.nil _, by simp [blkA], Ext.refl _ _⟩
  · skip
    have hpe : planE cl lim = 0 := by omega
    obtain ⟨g1, g2, g3, g4⟩ := planE_inv hpe
    obtain ⟨L, hL⟩ : ∃ L : Nat, lim = L := ⟨lim.toNat, by omega⟩
    subst hL
    rw [Int.toNat_natCast] at g4
    have hL1 : 1 ≤ L := by omega
    have hL2 : L ≤ 10 := by omega
    have hp10 := p10 hL2
    have hpr := planR_ok hpe
    have hil := okC_il g3
    have hcb : ∀ i, i < cl.length → cf cl i ≤ 1048576 := fun i hi => by have h9 := g3 i hi; unfold cf; omega
    have hul2 := liv_le (cf cl) cl.length
    refine V_skipk [1, 2] (by simp only [proj, lk, reduceIte, Nat.reduceEqDiff]; rfl) ?_
    refine hK3 _ _ ?_; clear hK3
    refine V_sr T.mix (by kernel_rfl) (fun K6 hK6 => ?_)
    refine S_mv rfl ?_
    refine S_call T.hb103 rfl ?_
    refine FC.mono (used_spec h ca cap cl hIc (by omega)) ?_
    rintro v' h' ⟨rfl, rfl⟩
    refine S_as rfl ?_
    refine S_nil (hK6 _ _ (V_keep [1, 2, 9] (by simp only [proj, lk, reduceIte, Nat.reduceEqDiff]; rfl) ?_)); clear hK6
    refine V_seq (fun K7 hK7 => ?_)
    refine V_sr T.mix (by kernel_rfl) (fun K8 hK8 => ?_)
    refine S_mv rfl ?_
    refine S_bin rfl rfl rfl ?_
    refine S_nil (hK8 _ _ (V_keep [1, 2, 22] (by simp only [proj, lk, reduceIte, Nat.reduceEqDiff]; rfl) ?_)); clear hK8
    refine V_condp rfl (fun c181 => ?_) (fun c181 => ?_)
    · skip
      refine V_sr T.mix (by kernel_rfl) (fun K9 hK9 => ?_)
      refine S_mv rfl ?_
      refine S_lenl T.el56 rfl ?_
      refine S_mk T.ei56 rfl rfl (by omega) (by omega) (by omega) (by omega) ?_
      simp only [Int.toNat_natCast, Nat.mul_one, mkZ_one]
      generalize hh : Array.push h _ = h1
      have hob : B h1 h.size (ia cl.length (fun _ => 0)) 3 := by rw [← hh]; exact B.new _ _ _
      have hEh1 : Ext (fun _ => False) h h1 := by rw [← hh]; exact Ext.push _ _ _
      clear hh
      have hIc1 := hIc.ext hEh1 (fun _ _ f => f)
      refine S_as rfl ?_
      refine S_nil (hK9 _ _ (V_keep [1, 10] (by simp only [proj, lk, reduceIte, Nat.reduceEqDiff]; rfl) ?_)); clear hK9
      refine V_seq (fun K10 hK10 => ?_)
      refine V_sr T.mix (by kernel_rfl) (fun K11 hK11 => ?_)
      refine S_as rfl ?_
      refine S_nil (hK11 _ _ (V_keep [1, 10, 11] (by simp only [proj, lk, reduceIte, Nat.reduceEqDiff]; rfl) ?_)); clear hK11
      refine V_block ?_
      refine V_loop (fun m l h' => ∃ (i : Nat) (hk : Heap) (A : Nat → Nat), (i ≤ cl.length) ∧ (B hk h.size (ia cl.length A) 3) ∧ (∀ j, j < i → A j = if 0 < cf cl j then 1 else 0) ∧ (∀ j, i ≤ j → A j = 0) ∧ (Ext (fun b => b = h.size) h1 hk) ∧ m = cl.length - i ∧ l = [(1, .slice ca cl.length cap), (10, .slice (some ⟨h.size, 0, none⟩) cl.length cl.length), (11, .int .i64 (i : Int))] ∧ hk = h') _ ⟨0, h1, fun _ => 0, Nat.zero_le _, hob, fun j hj => by omega, fun _ _ => rfl, Ext.refl _ _, rfl, rfl, rfl⟩ ?_
      rintro m l h' ⟨i, hk, A, hi, hA, hA1, hA2, hEk, rfl, rfl, rfl⟩ K12 hK12
      have hoo := ia_ok hA
      have hIk := hIc1.ext hEk (fun b e z => by have h9 := hIc.lt e; omega)
      refine V_seq (fun K13 hK13 => ?_)
      refine V_sr T.mix (by kernel_rfl) (fun K14 hK14 => ?_)
      refine S_mv rfl ?_
      refine S_mv rfl ?_
      refine S_lenl T.el56 rfl ?_
      refine S_bin rfl rfl rfl ?_
      refine S_nil (hK14 _ _ (V_keep [1, 10, 11, 29] (by simp only [proj, lk, reduceIte, Nat.reduceEqDiff]; rfl) ?_)); clear hK14
      refine V_condp rfl (fun c183 => ?_) (fun c183 => ?_)
      · skip
        obtain ⟨ab, ao, habe, _, hat⟩ := hIk.get (by omega)
        subst habe
        refine V_skipk [1, 10, 11] (by simp only [proj, lk, reduceIte, Nat.reduceEqDiff]; rfl) ?_
        refine hK13 _ _ ?_; clear hK13
        refine V_seq (fun K15 hK15 => ?_)
        refine V_block ?_
        refine V_sr T.mix (by kernel_rfl) (fun K16 hK16 => ?_)
        refine S_mv rfl ?_
        refine S_mv rfl ?_
        first | refine S_ixn T.el56 rfl rfl (by omega) ?_ | refine S_ix1 T.el56 rfl rfl (by omega) (by omega) ?_ | refine S_ix T.el56 rfl rfl (by omega) (by omega) ?_
        refine S_ldK T.ag3 rfl (fun K' hK' => ?_)
        simp (disch := omega) only [hat, Nat.mul_one, Int.toNat_natCast, oP_some, Nat.add_zero]
        refine hK' _ ?_; clear hK' K'
        refine S_bin rfl rfl rfl ?_
        refine S_nil (hK16 _ _ (V_keep [1, 10, 11, 36] (by simp only [proj, lk, reduceIte, Nat.reduceEqDiff]; rfl) ?_)); clear hK16
        refine V_condp rfl (fun c184 => ?_) (fun c184 => ?_)
        · skip
          refine V_reg T.mix (by kernel_rfl) ?_
          refine S_mv rfl ?_
          refine S_mv rfl ?_
          first | refine S_ixn T.el56 rfl rfl (by omega) ?_ | refine S_ix1 T.el56 rfl rfl (by omega) (by omega) ?_ | refine S_ix T.el56 rfl rfl (by omega) (by omega) ?_
          refine S_st T.sz3 rfl rfl rfl rfl (by simp (disch := omega) only [hoo]) ?_
          generalize hh : putH _ _ _ = h2
          have hB2 : B h2 h.size (ia cl.length (ups A i 1)) 3 := by rw [← hh]; exact ia_put hA i 1
          have hE2 : Ext (fun b => b = h.size) hk h2 := by rw [← hh]; exact Ext.put _ _ rfl
          clear hh
          refine S_nilk [1, 10, 11] (by simp only [proj, lk, reduceIte, Nat.reduceEqDiff]; rfl) ?_
          refine hK15 _ _ ?_; clear hK15
          refine V_reg T.mix (by kernel_rfl) ?_
          refine S_mv rfl ?_
          first | refine S_add rfl rfl (by omega) (by omega) ?_ | refine S_bin rfl rfl rfl ?_
          refine S_as rfl ?_
          refine S_nilk [1, 10, 11] (by simp only [proj, lk, reduceIte, Nat.reduceEqDiff]; rfl) ?_
          exact hK12 _ _ ⟨_, by omega, i + 1, h2, ups A i 1, by omega, hB2, fun j hj => by by_cases e : j = i; (rw [e, ups_eq, if_pos (by unfold cf; omega)]); (rw [ups_ne _ _ e]; exact hA1 j (by omega)), fun j hj => by rw [ups_ne _ _ (by omega)]; exact hA2 j (by omega), hEk.trans hE2, rfl, rfl, rfl⟩
        · skip
          refine V_skipk [1, 10, 11] (by simp only [proj, lk, reduceIte, Nat.reduceEqDiff]; rfl) ?_
          refine hK15 _ _ ?_; clear hK15
          refine V_reg T.mix (by kernel_rfl) ?_
          refine S_mv rfl ?_
          first | refine S_add rfl rfl (by omega) (by omega) ?_ | refine S_bin rfl rfl rfl ?_
          refine S_as rfl ?_
          refine S_nilk [1, 10, 11] (by simp only [proj, lk, reduceIte, Nat.reduceEqDiff]; rfl) ?_
          exact hK12 _ _ ⟨_, by omega, i + 1, hk, A, by omega, hA, fun j hj => by by_cases e : j = i; (rw [e, hA2 i (Nat.le_refl _), if_neg (by unfold cf; omega)]); (exact hA1 j (by omega)), fun j hj => hA2 j (by omega), hEk, rfl, rfl, rfl⟩
      · skip
        refine V_exitk [10] rfl (by simp only [proj, lk, reduceIte, Nat.reduceEqDiff]; rfl) ?_
        refine hK10 _ _ ?_; clear hK10
        refine V_sr T.mix (by kernel_rfl) (fun K17 hK17 => ?_)
        refine S_mv rfl ?_
        refine S_as rfl ?_
        refine S_as rfl ?_
        refine S_nil (hK17 _ _ (V_keep [6, 7] (by simp only [proj, lk, reduceIte, Nat.reduceEqDiff]; rfl) ?_)); clear hK17
        refine V_ret ?_
        refine hR _ _ (ret2 rfl rfl rfl ?_)
        have hA3 : B hk h.size (ia cl.length (planL cl L)) 3 := ia_cong hA (fun j hj => by rw [hA1 j (by omega), planL_1 (by omega)])
        exact ⟨some ⟨h.size, 0, none⟩, by rw [hpr, hpe, il_len]; rfl, by rw [hpr, il_len]; exact IL.of hA3, fun b e => by cases e; exact Nat.le_refl _, hEh1.step hEk (fun b hb e => by omega)⟩
    · skip
      have hlv2 : ¬ liv (cf cl) cl.length < 2 := by omega
      refine V_skipk [1, 2] (by simp only [proj, lk, reduceIte, Nat.reduceEqDiff]; rfl) ?_
      refine hK7 _ _ ?_; clear hK7
      refine V_sr T.mix (by kernel_rfl) (fun K18 hK18 => ?_)
      refine S_mv rfl ?_
      refine S_call T.hb104 rfl ?_
      obtain ⟨ab, ao, habe, _, hat⟩ := hIc.get (by omega)
      subst habe
      have habl := hIc.lt rfl
      have hpc := plain_spec h cl.length (cf cl) ab ao cap (by omega) (by rw [← hil]; exact hIc) hcb (by omega)
      refine FC.mono hpc ?_
      rintro v' h1 ⟨rfl, bl, hE1⟩
      have hpl := pln_ok (N := cl.length) (c := cf cl) (by omega) (by omega)
      have hIc1 := hIc.ext hE1 (fun _ _ f => f)
      refine S_as rfl ?_
      refine S_nil (hK18 _ _ (V_keep [1, 2, 12] (by simp only [proj, lk, reduceIte, Nat.reduceEqDiff]; rfl) ?_)); clear hK18
      refine V_sr T.mix (by kernel_rfl) (fun K19 hK19 => ?_)
      refine S_mv rfl ?_
      refine S_mv rfl ?_
      refine S_mv rfl ?_
      refine S_call T.hb105 rfl ?_
      refine FC.mono (repair_spec h1 cl.length (cf cl) (pln cl.length (cf cl)) ab ao cap h.size (by omega) (by rw [← hil]; exact hIc1) bl hcb L (by omega) hL1 hL2 (by omega) (by omega) hpl.z (fun i hi => by have h9 := hpl.le i; omega)) ?_
      rintro v' h3 ⟨rfl, o3, hob3, ho3, hE3⟩
      refine S_nil (hK19 _ _ (V_keep [12] (by simp only [proj, lk, reduceIte, Nat.reduceEqDiff]; rfl) ?_)); clear hK19
      refine V_sr T.mix (by kernel_rfl) (fun K20 hK20 => ?_)
      refine S_mv rfl ?_
      refine S_as rfl ?_
      refine S_as rfl ?_
      refine S_nil (hK20 _ _ (V_keep [6, 7] (by simp only [proj, lk, reduceIte, Nat.reduceEqDiff]; rfl) ?_)); clear hK20
      refine V_ret ?_
      refine hR _ _ (ret2 rfl rfl rfl ?_)
      have hA3 : B h3 h.size (ia cl.length (planL cl L)) 3 := ia_cong hob3 (fun i hi => by rw [ho3 i hi, planL_2 hlv2])
      exact ⟨some ⟨h.size, 0, none⟩, by rw [hpr, hpe, il_len]; rfl, by rw [hpr, il_len]; exact IL.of hA3, fun b e => by cases e; exact Nat.le_refl _, hE1.step hE3 (fun b hb e => by omega)⟩
end Go.Proofs.Qxb6500404aGreat.HufW
