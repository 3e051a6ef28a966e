import Derived.Test.Qxb6500404aGreatXf
import Derived.Test.Qxb6500404aGreatHi
set_option linter.unusedVariables false
set_option linter.unusedSimpArgs false
namespace Go.Proofs.Qxb6500404aGreat.HufW
open Go.Eng Go.Huf

theorem t64b {a : Nat} (h : a ≤ 100000000) : a < top .i64 := Nat.lt_of_le_of_lt h (by decide)
theorem rv_bd (v : Nat) {n : Nat} (h : n ≤ 10) : Huf.rv v n ≤ 1024 := Nat.le_trans (Nat.le_of_lt (rv_lt v n)) (p10 h)
theorem div_le' (v n : Nat) : v / 2 ^ n ≤ v := Nat.div_le_self _ _
theorem cd10 {lf : Nat → Nat} {N : Nat} (h : Ln lf N) {s : Nat} (hs : s < N) : cd lf N s < 1024 := Nat.lt_of_lt_of_le (Ln.cd_lt s) (p10 (h.le s hs))
theorem mx10 {lf : Nat → Nat} {N : Nat} (h : Ln lf N) (p : Nat) {s : Nat} (hs : s ≤ N) : mx lf N p s ≤ 4 := Nat.le_trans (mx_mono hs) (h.mx4 p)
set_option maxHeartbeats 400000 in
theorem flip_spec (h : Heap) (v n : Nat) (hn : n ≤ 10) (hv : v ≤ 100000) :
    FC Tryz.prog 161 (#[.int .i64 (v : Int), .int .i64 (n : Int)] : Array Value) h fun q h' => q = .int .i64 ((Huf.rv v n : Nat) : Int) ∧ h = h' := by
  refine FC_of [(0, .int .i64 (v : Int)), (1, .int .i64 (n : Int))] Tryz.func161 rfl Tryz.ntmps161 (by simp) rfl (fun R hR => ?_)
  refine V_sr T.mix (by kernel_rfl) (fun K1 hK1 => ?_)
  refine S_as rfl ?_
  refine S_nil (hK1 _ _ (V_keep [0, 1] (by simp only [proj, lk, reduceIte, Nat.reduceEqDiff]; rfl) ?_)); clear hK1
  refine V_sr T.mix (by kernel_rfl) (fun K2 hK2 => ?_)
  refine S_as rfl ?_
  refine S_nil (hK2 _ _ (V_keep [0, 1, 5] (by simp only [proj, lk, reduceIte, Nat.reduceEqDiff]; rfl) ?_)); clear hK2
  refine V_seq (fun K3 hK3 => ?_)
  refine V_block ?_
  refine V_loop (fun m l h' => ∃ (t w k r_ : Nat), (t ≤ n) ∧ (w = v / 2 ^ t) ∧ (k = n - t) ∧ (r_ = Huf.rv v t) ∧ m = n - t ∧ l = [(0, .int .i64 (w : Int)), (1, .int .i64 (k : Int)), (5, .int .i64 (r_ : Int))] ∧ h = h') _ ⟨0, v, n, 0, Nat.zero_le _, by simp, rfl, rfl, rfl, rfl, rfl⟩ ?_
  rintro m l h' ⟨t, w, k, r_, ht, hw, hk_, hr, rfl, rfl, rfl⟩ K4 hK4
  have h9 := rv_bd v (show t ≤ 10 by omega)
  have h8 := div_le' v t
  refine V_seq (fun K5 hK5 => ?_)
  refine V_sr T.mix (by kernel_rfl) (fun K6 hK6 => ?_)
  refine S_mv rfl ?_
  refine S_bin rfl rfl rfl ?_
  refine S_nil (hK6 _ _ (V_keep [0, 1, 5, 7] (by simp only [proj, lk, reduceIte, Nat.reduceEqDiff]; rfl) ?_)); clear hK6
  refine V_condp rfl (fun c10 => ?_) (fun c10 => ?_)
  · skip
    refine V_skipk [0, 1, 5] (by simp only [proj, lk, reduceIte, Nat.reduceEqDiff]; rfl) ?_
    refine hK5 _ _ ?_; clear hK5
    refine V_block ?_
    refine V_sr T.mix (by kernel_rfl) (fun K7 hK7 => ?_)
    refine S_mv rfl ?_
    refine S_nshl r_ 1 (r_ * 2) rfl rfl rfl rfl (by rw [Nat.pow_one]) (by decide) (t64b (by omega)) ?_
    refine S_mv rfl ?_
    refine S_nand w 1 (w % 2) rfl rfl rfl rfl (Nat.and_one_is_mod _) (t64b (by omega)) (by decide) ?_
    refine S_nor (r_ * 2) (w % 2) (2 * r_ + w % 2) rfl rfl rfl rfl (or2 _ _) (t64b (by omega)) (t64b (by omega)) ?_
    refine S_as rfl ?_
    refine S_nil (hK7 _ _ (V_keep [0, 1, 5] (by simp only [proj, lk, reduceIte, Nat.reduceEqDiff]; rfl) ?_)); clear hK7
    refine V_sr T.mix (by kernel_rfl) (fun K8 hK8 => ?_)
    refine S_mv rfl ?_
    refine S_nshr w 1 (w / 2) rfl rfl rfl rfl (by rw [Nat.pow_one]) (by decide) ?_
    refine S_as rfl ?_
    refine S_nil (hK8 _ _ (V_keep [0, 1, 5] (by simp only [proj, lk, reduceIte, Nat.reduceEqDiff]; rfl) ?_)); clear hK8
    refine V_reg T.mix (by kernel_rfl) ?_
    refine S_mv rfl ?_
    refine S_subN (k - 1) rfl rfl (by omega) (by omega) ?_
    refine S_as rfl ?_
    refine S_nilk [0, 1, 5] (by simp only [proj, lk, reduceIte, Nat.reduceEqDiff]; rfl) ?_
    exact hK4 _ _ ⟨_, by omega, t + 1, w / 2, k - 1, 2 * r_ + w % 2, by omega, by rw [hw, Nat.div_div_eq_div_mul, ← Nat.pow_succ], by omega, by rw [hr, hw]; rfl, rfl, rfl, rfl⟩
  · skip
    refine V_exitk [5] rfl (by simp only [proj, lk, reduceIte, Nat.reduceEqDiff]; rfl) ?_
    refine hK3 _ _ ?_; clear hK3
    refine V_sr T.mix (by kernel_rfl) (fun K9 hK9 => ?_)
    refine S_mv rfl ?_
    refine S_as rfl ?_
    refine S_nil (hK9 _ _ (V_keep [4] (by simp only [proj, lk, reduceIte, Nat.reduceEqDiff]; rfl) ?_)); clear hK9
    refine V_ret ?_
    refine hR _ _ (ret1 rfl rfl ?_)
    exact ⟨by rw [hr, show n = t by omega], rfl⟩
set_option maxHeartbeats 6400000 in
theorem lay_spec (h : Heap) (X : Nat) (u : HC) (c : CB h X u) (lf : Nat → Nat) (hL : Ln lf u.n) (hn : u.n ≤ 265) (hle : ∀ j, j < u.n → u.lens j = lf j) (hcd : ∀ j, j < u.n → u.code j = cd lf u.n j) :
    FC Tryz.prog 162 (#[.pointer (some ⟨X, 0, none⟩)] : Array Value) h fun rv h' => rv = .tuple #[] ∧ ∃ root sub top, CB h' X { u with root := root, sub := sub, top := top } ∧ TB lf u.n root sub top ∧ Ext (CT X) h h' := by
  try clear q0 q1 q2 q3 q4 q5 q6 q7 q8 q9 q10 q11 q12 alens acode aroot asub awt aht anum apar adep aheap
  obtain ⟨q0, q1, q2, q3, q4, q5, q6, q7, q8, q9, q10, q11, q12⟩ := cq (c)
  obtain ⟨alens, acode, aroot, asub, awt, aht, anum, apar, adep, aheap⟩ := ca (c)
  have hcok := cok c
  have hor := c.oroot
  refine FC_of [(0, .pointer (some ⟨X, 0, none⟩))] Tryz.func162 rfl Tryz.ntmps162 (by simp) rfl (fun R hR => ?_)
  refine V_seq (fun K1 hK1 => ?_)
  refine V_sr T.mix (by kernel_rfl) (fun K2 hK2 => ?_)
  refine S_as rfl ?_
  refine S_nil (hK2 _ _ (V_keep [0, 2] (by simp only [proj, lk, reduceIte, Nat.reduceEqDiff]; rfl) ?_)); clear hK2
  refine V_block ?_
  refine V_loop (fun m l h' => ∃ (i : Nat) (hk : Heap) (rt : Nat → Int), (i ≤ 64) ∧ (CB hk X { u with root := rt }) ∧ (∀ p, p < i → rt p = 0) ∧ (Ext (CT X) h hk) ∧ m = 64 - i ∧ l = [(0, .pointer (some ⟨X, 0, none⟩)), (2, .int .i64 (i : Int))] ∧ hk = h') _ ⟨0, h, u.root, Nat.zero_le _, c, fun p hp => by omega, Ext.refl _ _, rfl, rfl, rfl⟩ ?_
  rintro m l h' ⟨i, hk, rt, hi, ck, hz, hE, rfl, rfl, rfl⟩ K3 hK3
  try clear q0 q1 q2 q3 q4 q5 q6 q7 q8 q9 q10 q11 q12 alens acode aroot asub awt aht anum apar adep aheap
  obtain ⟨q0, q1, q2, q3, q4, q5, q6, q7, q8, q9, q10, q11, q12⟩ := cq ((show CB hk X { u with root := rt } from ck))
  obtain ⟨alens, acode, aroot, asub, awt, aht, anum, apar, adep, aheap⟩ := ca ((show CB hk X { u with root := rt } from ck))
  have hor := ck.oroot
  refine V_seq (fun K4 hK4 => ?_)
  refine V_sr T.mix (by kernel_rfl) (fun K5 hK5 => ?_)
  refine S_mv rfl ?_
  refine S_bin rfl rfl rfl ?_
  refine S_nil (hK5 _ _ (V_keep [0, 2, 16] (by simp only [proj, lk, reduceIte, Nat.reduceEqDiff]; rfl) ?_)); clear hK5
  refine V_condp rfl (fun c21 => ?_) (fun c21 => ?_)
  · skip
    refine V_skipk [0, 2] (by simp only [proj, lk, reduceIte, Nat.reduceEqDiff]; rfl) ?_
    refine hK4 _ _ ?_; clear hK4
    refine V_seq (fun K6 hK6 => ?_)
    refine V_block ?_
    refine V_reg T.mix (by kernel_rfl) ?_
    refine S_mv rfl ?_
    refine S_nc rfl ?_
    first | refine S_fa0 T.f70_3 rfl ?_ | refine S_fa T.f70_3 rfl ?_
    refine S_ldK T.ag56 rfl (fun K' hK' => ?_)
    simp (disch := omega) only [q0, q1, q2, q3, q4, q5, q6, q7, q8, q9, q10, q11, q12, alens, acode, aroot, asub, awt, aht, anum, apar, adep, aheap, oP_some, Nat.add_zero]
    refine hK' _ ?_; clear hK' K'
    refine S_mv rfl ?_
    first | refine S_ixn T.el56 rfl rfl (by omega) ?_ | refine S_ix1 T.el56 rfl rfl (by omega) (by omega) ?_ | refine S_ix T.el56 rfl rfl (by omega) (by omega) ?_
    refine S_st T.sz3 rfl rfl rfl rfl (by simp (disch := omega) only [hor]) ?_
    generalize hh : putH _ _ _ = h1
    have c1 : CB h1 X { u with root := ups rt i 0 } := by rw [← hh]; exact ck.proot i 0
    have hE1 : Ext (CT X) hk h1 := by rw [← hh]; exact CB.pute (by omega)
    clear hh
    refine S_nilk [0, 2] (by simp only [proj, lk, reduceIte, Nat.reduceEqDiff]; rfl) ?_
    refine hK6 _ _ ?_; clear hK6
    refine V_reg T.mix (by kernel_rfl) ?_
    refine S_mv rfl ?_
    first | refine S_add rfl rfl (by omega) (by omega) ?_ | refine S_bin rfl rfl rfl ?_
    refine S_as rfl ?_
    refine S_nilk [0, 2] (by simp only [proj, lk, reduceIte, Nat.reduceEqDiff]; rfl) ?_
    exact hK3 _ _ ⟨_, by omega, i + 1, h1, ups rt i 0, by omega, c1, fun p hp => by by_cases e : p = i; (rw [e, ups_eq]); (rw [ups_ne _ _ e]; exact hz p (by omega)), hE.trans hE1, rfl, rfl, rfl⟩
  · skip
    refine V_exitk [0] rfl (by simp only [proj, lk, reduceIte, Nat.reduceEqDiff]; rfl) ?_
    refine hK1 _ _ ?_; clear hK1
    refine V_seq (fun K7 hK7 => ?_)
    refine V_sr T.mix (by kernel_rfl) (fun K8 hK8 => ?_)
    refine S_as rfl ?_
    refine S_nil (hK8 _ _ (V_keep [0, 3] (by simp only [proj, lk, reduceIte, Nat.reduceEqDiff]; rfl) ?_)); clear hK8
    refine V_block ?_
    refine V_loop (fun m l h' => ∃ (s : Nat) (hk : Heap) (rt : Nat → Int), (s ≤ u.n) ∧ (CB hk X { u with root := rt }) ∧ (R1 lf u.n s rt) ∧ (Ext (CT X) h hk) ∧ m = u.n - s ∧ l = [(0, .pointer (some ⟨X, 0, none⟩)), (3, .int .i64 (s : Int))] ∧ hk = h') _ ⟨0, hk, rt, Nat.zero_le _, ck, R1.z _ _ (fun p hp => hz p (by omega)), hE, rfl, rfl, rfl⟩ ?_
    rintro m l h' ⟨s, hk, rt, hs, ck, r1, hE, rfl, rfl, rfl⟩ K9 hK9
    try clear q0 q1 q2 q3 q4 q5 q6 q7 q8 q9 q10 q11 q12 alens acode aroot asub awt aht anum apar adep aheap
    obtain ⟨q0, q1, q2, q3, q4, q5, q6, q7, q8, q9, q10, q11, q12⟩ := cq ((show CB hk X { u with root := rt } from ck))
    obtain ⟨alens, acode, aroot, asub, awt, aht, anum, apar, adep, aheap⟩ := ca ((show CB hk X { u with root := rt } from ck))
    have hor := ck.oroot
    refine V_seq (fun K10 hK10 => ?_)
    refine V_sr T.mix (by kernel_rfl) (fun K11 hK11 => ?_)
    refine S_mv rfl ?_
    refine S_mv rfl ?_
    refine S_nc rfl ?_
    first | refine S_fa0 T.f70_0 rfl ?_ | refine S_fa T.f70_0 rfl ?_
    refine S_ldK T.ag3 rfl (fun K' hK' => ?_)
    simp (disch := omega) only [q0, q1, q2, q3, q4, q5, q6, q7, q8, q9, q10, q11, q12, alens, acode, aroot, asub, awt, aht, anum, apar, adep, aheap, oP_some, Nat.add_zero]
    refine hK' _ ?_; clear hK' K'
    refine S_bin rfl rfl rfl ?_
    refine S_nil (hK11 _ _ (V_keep [0, 3, 30] (by simp only [proj, lk, reduceIte, Nat.reduceEqDiff]; rfl) ?_)); clear hK11
    refine V_condp rfl (fun c24 => ?_) (fun c24 => ?_)
    · skip
      have hls : u.lens s = lf s := hle s (by omega)
      have hcs : u.code s = cd lf u.n s := hcd s (by omega)
      have hl10 := hL.le s (by omega)
      have hc10 := cd10 hL (show s < u.n by omega)
      have hcp := Ln.cd_lt (l := lf) (N := u.n) s
      refine V_skipk [0, 3] (by simp only [proj, lk, reduceIte, Nat.reduceEqDiff]; rfl) ?_
      refine hK10 _ _ ?_; clear hK10
      refine V_seq (fun K12 hK12 => ?_)
      refine V_block ?_
      refine V_sr T.mix (by kernel_rfl) (fun K13 hK13 => ?_)
      refine S_mv rfl ?_
      refine S_nc rfl ?_
      first | refine S_fa0 T.f70_1 rfl ?_ | refine S_fa T.f70_1 rfl ?_
      refine S_ldK T.ag56 rfl (fun K' hK' => ?_)
      simp (disch := omega) only [q0, q1, q2, q3, q4, q5, q6, q7, q8, q9, q10, q11, q12, alens, acode, aroot, asub, awt, aht, anum, apar, adep, aheap, oP_some, Nat.add_zero]
      refine hK' _ ?_; clear hK' K'
      refine S_mv rfl ?_
      first | refine S_ixn T.el56 rfl rfl (by omega) ?_ | refine S_ix1 T.el56 rfl rfl (by omega) (by omega) ?_ | refine S_ix T.el56 rfl rfl (by omega) (by omega) ?_
      refine S_ldK T.ag3 rfl (fun K' hK' => ?_)
      simp (disch := omega) only [q0, q1, q2, q3, q4, q5, q6, q7, q8, q9, q10, q11, q12, alens, acode, aroot, asub, awt, aht, anum, apar, adep, aheap, oP_some, Nat.add_zero]
      refine hK' _ ?_; clear hK' K'
      refine S_as rfl ?_
      refine S_nil (hK13 _ _ (V_keep [0, 3, 4] (by simp only [proj, lk, reduceIte, Nat.reduceEqDiff]; rfl) ?_)); clear hK13
      rw [hls]
      refine V_sr T.mix (by kernel_rfl) (fun K14 hK14 => ?_)
      refine S_mv rfl ?_
      refine S_bin rfl rfl rfl ?_
      refine S_nil (hK14 _ _ (V_keep [0, 3, 4, 41] (by simp only [proj, lk, reduceIte, Nat.reduceEqDiff]; rfl) ?_)); clear hK14
      refine V_condp rfl (fun c26 => ?_) (fun c26 => ?_)
      · skip
        have hns : ∀ t, t < u.n → lf t ≤ 6 → ¬ hd lf u.n t ((cd lf u.n s) % 64) := fun t ht h1 h2 => by have h9 := hL.excl ht h1 h2; have h8 := mx_le (l := lf) (N := u.n) (n := u.n) (t := s) (by omega) (by omega) rfl; omega
        have hrp := r1.b ((cd lf u.n s) % 64) (by omega) (fun t ht => hns t (by omega))
        have hm4 := mx10 hL ((cd lf u.n s) % 64) (show s ≤ u.n by omega)
        refine V_sr T.mix (by kernel_rfl) (fun K15 hK15 => ?_)
        refine S_mv rfl ?_
        refine S_nc rfl ?_
        first | refine S_fa0 T.f70_2 rfl ?_ | refine S_fa T.f70_2 rfl ?_
        refine S_ldK T.ag56 rfl (fun K' hK' => ?_)
        simp (disch := omega) only [q0, q1, q2, q3, q4, q5, q6, q7, q8, q9, q10, q11, q12, alens, acode, aroot, asub, awt, aht, anum, apar, adep, aheap, oP_some, Nat.add_zero]
        refine hK' _ ?_; clear hK' K'
        refine S_mv rfl ?_
        first | refine S_ixn T.el56 rfl rfl (by omega) ?_ | refine S_ix1 T.el56 rfl rfl (by omega) (by omega) ?_ | refine S_ix T.el56 rfl rfl (by omega) (by omega) ?_
        refine S_ldK T.ag3 rfl (fun K' hK' => ?_)
        simp (disch := omega) only [q0, q1, q2, q3, q4, q5, q6, q7, q8, q9, q10, q11, q12, alens, acode, aroot, asub, awt, aht, anum, apar, adep, aheap, oP_some, Nat.add_zero]
        refine hK' _ ?_; clear hK' K'
        rw [hcs]
        refine S_andm 63 6 64 rfl rfl rfl (by decide) (by decide) (by omega) (by omega) ?_
        rw [show (((cd lf u.n s) : Nat) : Int) % 64 = ((((cd lf u.n s) % 64) : Nat) : Int) by omega]
        refine S_as rfl ?_
        refine S_nil (hK15 _ _ (V_keep [0, 3, 4, 5] (by simp only [proj, lk, reduceIte, Nat.reduceEqDiff]; rfl) ?_)); clear hK15
        refine V_sr T.mix (by kernel_rfl) (fun K16 hK16 => ?_)
        refine S_mv rfl ?_
        refine S_nc rfl ?_
        first | refine S_fa0 T.f70_3 rfl ?_ | refine S_fa T.f70_3 rfl ?_
        refine S_ldK T.ag56 rfl (fun K' hK' => ?_)
        simp (disch := omega) only [q0, q1, q2, q3, q4, q5, q6, q7, q8, q9, q10, q11, q12, alens, acode, aroot, asub, awt, aht, anum, apar, adep, aheap, oP_some, Nat.add_zero]
        refine hK' _ ?_; clear hK' K'
        refine S_mv rfl ?_
        first | refine S_ixn T.el56 rfl rfl (by omega) ?_ | refine S_ix1 T.el56 rfl rfl (by omega) (by omega) ?_ | refine S_ix T.el56 rfl rfl (by omega) (by omega) ?_
        refine S_ldK T.ag3 rfl (fun K' hK' => ?_)
        simp (disch := omega) only [q0, q1, q2, q3, q4, q5, q6, q7, q8, q9, q10, q11, q12, alens, acode, aroot, asub, awt, aht, anum, apar, adep, aheap, oP_some, Nat.add_zero]
        refine hK' _ ?_; clear hK' K'
        first | refine S_neg rfl (by omega) (by omega) ?_ | refine S_un rfl rfl ?_
        refine S_mv rfl ?_
        first | refine S_sub rfl rfl (by omega) (by omega) ?_ | refine S_bin rfl rfl rfl ?_
        refine S_bin rfl rfl rfl ?_
        refine S_nil (hK16 _ _ (V_keep [0, 3, 4, 5, 60] (by simp only [proj, lk, reduceIte, Nat.reduceEqDiff]; rfl) ?_)); clear hK16
        refine V_condp rfl (fun c28 => ?_) (fun c28 => ?_)
        · skip
          refine V_reg T.mix (by kernel_rfl) ?_
          refine S_mv rfl ?_
          refine S_nc rfl ?_
          first | refine S_fa0 T.f70_3 rfl ?_ | refine S_fa T.f70_3 rfl ?_
          refine S_ldK T.ag56 rfl (fun K' hK' => ?_)
          simp (disch := omega) only [q0, q1, q2, q3, q4, q5, q6, q7, q8, q9, q10, q11, q12, alens, acode, aroot, asub, awt, aht, anum, apar, adep, aheap, oP_some, Nat.add_zero]
          refine hK' _ ?_; clear hK' K'
          refine S_mv rfl ?_
          refine S_mv rfl ?_
          first | refine S_sub rfl rfl (by omega) (by omega) ?_ | refine S_bin rfl rfl rfl ?_
          first | refine S_ixn T.el56 rfl rfl (by omega) ?_ | refine S_ix1 T.el56 rfl rfl (by omega) (by omega) ?_ | refine S_ix T.el56 rfl rfl (by omega) (by omega) ?_
          refine S_st T.sz3 rfl rfl rfl rfl (by simp (disch := omega) only [hor]) ?_
          generalize hh : putH _ _ _ = h1
          have c1 : CB h1 X { u with root := ups rt ((cd lf u.n s) % 64) (6 - (lf s : Int)) } := by rw [← hh]; exact ck.proot ((cd lf u.n s) % 64) (6 - (lf s : Int))
          have hE1 : Ext (CT X) hk h1 := by rw [← hh]; exact CB.pute (by omega)
          clear hh
          refine S_nilk [0, 3] (by simp only [proj, lk, reduceIte, Nat.reduceEqDiff]; rfl) ?_
          refine hK12 _ _ ?_; clear hK12
          refine V_reg T.mix (by kernel_rfl) ?_
          refine S_mv rfl ?_
          first | refine S_add rfl rfl (by omega) (by omega) ?_ | refine S_bin rfl rfl rfl ?_
          refine S_as rfl ?_
          refine S_nilk [0, 3] (by simp only [proj, lk, reduceIte, Nat.reduceEqDiff]; rfl) ?_
          exact hK9 _ _ ⟨_, by omega, s + 1, h1, _, by omega, c1, by have h9 := r1.long hL (by omega) (by omega); rw [if_pos (by omega)] at h9; exact h9, hE.trans hE1, rfl, rfl, rfl⟩
        · skip
          refine V_skipk [0, 3] (by simp only [proj, lk, reduceIte, Nat.reduceEqDiff]; rfl) ?_
          refine hK12 _ _ ?_; clear hK12
          refine V_reg T.mix (by kernel_rfl) ?_
          refine S_mv rfl ?_
          first | refine S_add rfl rfl (by omega) (by omega) ?_ | refine S_bin rfl rfl rfl ?_
          refine S_as rfl ?_
          refine S_nilk [0, 3] (by simp only [proj, lk, reduceIte, Nat.reduceEqDiff]; rfl) ?_
          exact hK9 _ _ ⟨_, by omega, s + 1, hk, rt, by omega, ck, by have h9 := r1.long hL (by omega) (by omega); rw [if_neg (by omega)] at h9; exact h9, hE, rfl, rfl, rfl⟩
      · skip
        refine V_sr T.mix (by kernel_rfl) (fun K17 hK17 => ?_)
        refine S_mv rfl ?_
        refine S_bin rfl rfl rfl ?_
        refine S_nil (hK17 _ _ (V_keep [0, 3, 4, 70] (by simp only [proj, lk, reduceIte, Nat.reduceEqDiff]; rfl) ?_)); clear hK17
        refine V_condp rfl (fun c31 => ?_) (fun c31 => ?_)
        · skip
          refine V_sr T.mix (by kernel_rfl) (fun K18 hK18 => ?_)
          refine S_mv rfl ?_
          refine S_nc rfl ?_
          first | refine S_fa0 T.f70_2 rfl ?_ | refine S_fa T.f70_2 rfl ?_
          refine S_ldK T.ag56 rfl (fun K' hK' => ?_)
          simp (disch := omega) only [q0, q1, q2, q3, q4, q5, q6, q7, q8, q9, q10, q11, q12, alens, acode, aroot, asub, awt, aht, anum, apar, adep, aheap, oP_some, Nat.add_zero]
          refine hK' _ ?_; clear hK' K'
          refine S_mv rfl ?_
          first | refine S_ixn T.el56 rfl rfl (by omega) ?_ | refine S_ix1 T.el56 rfl rfl (by omega) (by omega) ?_ | refine S_ix T.el56 rfl rfl (by omega) (by omega) ?_
          refine S_ldK T.ag3 rfl (fun K' hK' => ?_)
          simp (disch := omega) only [q0, q1, q2, q3, q4, q5, q6, q7, q8, q9, q10, q11, q12, alens, acode, aroot, asub, awt, aht, anum, apar, adep, aheap, oP_some, Nat.add_zero]
          refine hK' _ ?_; clear hK' K'
          refine S_as rfl ?_
          refine S_nil (hK18 _ _ (V_keep [0, 3, 4, 6] (by simp only [proj, lk, reduceIte, Nat.reduceEqDiff]; rfl) ?_)); clear hK18
          try rw [hcs]
          refine V_block ?_
          refine V_loop (fun m l h' => ∃ (i : Nat) (hk2 : Heap) (r2 : Nat → Int), (i ≤ 2000) ∧ (i % 2 ^ lf s = cd lf u.n s) ∧ (CB hk2 X { u with root := r2 }) ∧ (∀ p, p < 64 → r2 p = if p < i ∧ p % 2 ^ lf s = cd lf u.n s then ((s * 16 + lf s : Nat) : Int) else rt p) ∧ (Ext (CT X) h hk2) ∧ m = 64 - i ∧ l = [(0, .pointer (some ⟨X, 0, none⟩)), (3, .int .i64 (s : Int)), (4, .int .i64 (lf s : Int)), (6, .int .i64 (i : Int))] ∧ hk2 = h') _ ⟨(cd lf u.n s), hk, rt, by omega, Nat.mod_eq_of_lt hcp, ck, fun p hp => by rw [if_neg (fun z => by have h9 := prog_first z.2; omega)], hE, rfl, rfl, rfl⟩ ?_
          rintro m l h' ⟨i, hk2, r2, hi1, him, ck, hr2, hE2, rfl, rfl, rfl⟩ K19 hK19
          try clear q0 q1 q2 q3 q4 q5 q6 q7 q8 q9 q10 q11 q12 alens acode aroot asub awt aht anum apar adep aheap
          obtain ⟨q0, q1, q2, q3, q4, q5, q6, q7, q8, q9, q10, q11, q12⟩ := cq ((show CB hk2 X { u with root := r2 } from ck))
          obtain ⟨alens, acode, aroot, asub, awt, aht, anum, apar, adep, aheap⟩ := ca ((show CB hk2 X { u with root := r2 } from ck))
          have hor := ck.oroot
          have hpw := pp2 (lf s)
          refine V_seq (fun K20 hK20 => ?_)
          refine V_sr T.mix (by kernel_rfl) (fun K21 hK21 => ?_)
          refine S_mv rfl ?_
          refine S_bin rfl rfl rfl ?_
          refine S_nil (hK21 _ _ (V_keep [0, 3, 4, 6, 79] (by simp only [proj, lk, reduceIte, Nat.reduceEqDiff]; rfl) ?_)); clear hK21
          try rw [hcs]
          refine V_condp rfl (fun c32 => ?_) (fun c32 => ?_)
          · skip
            refine V_skipk [0, 3, 4, 6] (by simp only [proj, lk, reduceIte, Nat.reduceEqDiff]; rfl) ?_
            refine hK20 _ _ ?_; clear hK20
            refine V_seq (fun K22 hK22 => ?_)
            refine V_block ?_
            refine V_reg T.mix (by kernel_rfl) ?_
            refine S_mv rfl ?_
            refine S_nc rfl ?_
            first | refine S_fa0 T.f70_3 rfl ?_ | refine S_fa T.f70_3 rfl ?_
            refine S_ldK T.ag56 rfl (fun K' hK' => ?_)
            simp (disch := omega) only [q0, q1, q2, q3, q4, q5, q6, q7, q8, q9, q10, q11, q12, alens, acode, aroot, asub, awt, aht, anum, apar, adep, aheap, oP_some, Nat.add_zero]
            refine hK' _ ?_; clear hK' K'
            refine S_mv rfl ?_
            refine S_mv rfl ?_
            refine S_nshl s 4 (s * 16) rfl rfl rfl rfl rfl (by decide) (t64b (by omega)) ?_
            refine S_mv rfl ?_
            refine S_nor (s * 16) (lf s) (s * 16 + lf s) rfl rfl rfl rfl (or16 (by omega)) (t64b (by omega)) (t64b (by omega)) ?_
            first | refine S_ixn T.el56 rfl rfl (by omega) ?_ | refine S_ix1 T.el56 rfl rfl (by omega) (by omega) ?_ | refine S_ix T.el56 rfl rfl (by omega) (by omega) ?_
            refine S_st T.sz3 rfl rfl rfl rfl (by simp (disch := omega) only [hor]) ?_
            generalize hh : putH _ _ _ = h1
            have c1 : CB h1 X { u with root := ups r2 i ((s * 16 + lf s : Nat) : Int) } := by rw [← hh]; exact ck.proot i ((s * 16 + lf s : Nat) : Int)
            have hE1 : Ext (CT X) hk2 h1 := by rw [← hh]; exact CB.pute (by omega)
            clear hh
            refine S_nilk [0, 3, 4, 6] (by simp only [proj, lk, reduceIte, Nat.reduceEqDiff]; rfl) ?_
            refine hK22 _ _ ?_; clear hK22
            refine V_reg T.mix (by kernel_rfl) ?_
            refine S_mv rfl ?_
            refine S_mv rfl ?_
            refine S_cvN (lf s) T.us3 T.in105 rfl rfl (tu64 (by omega)) ?_
            have hpl := p10 hl10
            refine S_nshl 1 (lf s) (2 ^ lf s) rfl rfl rfl rfl (Nat.one_mul _) (show lf s ≤ 64 by omega) (t64b (by omega)) ?_
            refine S_addN (i + 2 ^ lf s) rfl rfl (by omega) (by omega) ?_
            refine S_as rfl ?_
            refine S_nilk [0, 3, 4, 6] (by simp only [proj, lk, reduceIte, Nat.reduceEqDiff]; rfl) ?_
            try rw [hcs]
            exact hK19 _ _ ⟨_, by omega, i + 2 ^ lf s, h1, ups r2 i ((s * 16 + lf s : Nat) : Int), by have h9 := p10 hl10; omega, by rw [Nat.add_mod_right]; exact him, c1, fun p hp => by
              by_cases e : p = i
              · rw [e, ups_eq, if_pos ⟨by omega, him⟩]
              · rw [ups_ne _ _ e, hr2 p hp]
                by_cases q : p < i ∧ p % 2 ^ lf s = cd lf u.n s
                · rw [if_pos q, if_pos ⟨by omega, q.2⟩]
                · rw [if_neg q, if_neg (fun z => ?_)]
                  rcases Nat.lt_or_ge p i with t | t
                  · exact q ⟨t, z.2⟩
                  · exact e ((prog hpw him t z.1).1 z.2), hE2.trans hE1, rfl, rfl, rfl⟩
          · skip
            refine V_exitk [0, 3] rfl (by simp only [proj, lk, reduceIte, Nat.reduceEqDiff]; rfl) ?_
            refine hK12 _ _ ?_; clear hK12
            refine V_reg T.mix (by kernel_rfl) ?_
            refine S_mv rfl ?_
            first | refine S_add rfl rfl (by omega) (by omega) ?_ | refine S_bin rfl rfl rfl ?_
            refine S_as rfl ?_
            refine S_nilk [0, 3] (by simp only [proj, lk, reduceIte, Nat.reduceEqDiff]; rfl) ?_
            exact hK9 _ _ ⟨_, by omega, s + 1, hk2, r2, by omega, ck, r1.short hL (by omega) (by omega) (by omega) (fun p hp => by rw [hr2 p hp]; by_cases e : p % 2 ^ lf s = cd lf u.n s; (rw [if_pos ⟨by omega, e⟩, if_pos e]); (rw [if_neg (fun z => e z.2), if_neg e])), hE2, rfl, rfl, rfl⟩
        · skip
          refine V_skipk [0, 3] (by simp only [proj, lk, reduceIte, Nat.reduceEqDiff]; rfl) ?_
          refine hK12 _ _ ?_; clear hK12
          refine V_reg T.mix (by kernel_rfl) ?_
          refine S_mv rfl ?_
          first | refine S_add rfl rfl (by omega) (by omega) ?_ | refine S_bin rfl rfl rfl ?_
          refine S_as rfl ?_
          refine S_nilk [0, 3] (by simp only [proj, lk, reduceIte, Nat.reduceEqDiff]; rfl) ?_
          exact hK9 _ _ ⟨_, by omega, s + 1, hk, rt, by omega, ck, r1.idle (by omega), hE, rfl, rfl, rfl⟩
    · skip
      have r1n : R1 lf u.n u.n rt := by rw [show u.n = s by omega]; rw [show u.n = s by omega] at r1; exact r1
      have hcok := cok ck
      refine V_exitk [0] rfl (by simp only [proj, lk, reduceIte, Nat.reduceEqDiff]; rfl) ?_
      refine hK7 _ _ ?_; clear hK7
      refine V_sr T.mix (by kernel_rfl) (fun K23 hK23 => ?_)
      refine S_mv rfl ?_
      refine S_nc rfl ?_
      first | refine S_fa0 T.f70_5 rfl ?_ | refine S_fa T.f70_5 rfl ?_
      refine S_st T.sz3 rfl rfl rfl rfl (by simp (disch := omega) only [hcok]) ?_
      generalize hh : putH _ _ _ = h1
      have c1 : CB h1 X { u with root := rt, sub := u.sub, top := 0 } := by rw [← hh]; exact ck.ptop 0
      have hE1 : Ext (CT X) hk h1 := by rw [← hh]; exact CB.putx
      clear hh
      refine S_nil (hK23 _ _ (V_keep [0] (by simp only [proj, lk, reduceIte, Nat.reduceEqDiff]; rfl) ?_)); clear hK23
      refine V_seq (fun K24 hK24 => ?_)
      refine V_sr T.mix (by kernel_rfl) (fun K25 hK25 => ?_)
      refine S_as rfl ?_
      refine S_nil (hK25 _ _ (V_keep [0, 7] (by simp only [proj, lk, reduceIte, Nat.reduceEqDiff]; rfl) ?_)); clear hK25
      refine V_block ?_
      refine V_loop (fun m l h' => ∃ (p : Nat) (hk : Heap) (rt sb : Nat → Int) (tv : Nat), (p ≤ 64) ∧ (CB hk X { u with root := rt, sub := sb, top := tv }) ∧ (R3 lf u.n p rt sb tv) ∧ (Ext (CT X) h hk) ∧ m = 64 - p ∧ l = [(0, .pointer (some ⟨X, 0, none⟩)), (7, .int .i64 (p : Int))] ∧ hk = h') _ ⟨0, h1, rt, u.sub, 0, Nat.zero_le _, c1, R3.z0 r1n, hE.trans hE1, rfl, rfl, rfl⟩ ?_
      rintro m l h' ⟨p, hk, rt, sb, tv, hp, ck, r3, hE, rfl, rfl, rfl⟩ K26 hK26
      try clear q0 q1 q2 q3 q4 q5 q6 q7 q8 q9 q10 q11 q12 alens acode aroot asub awt aht anum apar adep aheap
      obtain ⟨q0, q1, q2, q3, q4, q5, q6, q7, q8, q9, q10, q11, q12⟩ := cq ((show CB hk X { u with root := rt, sub := sb, top := tv } from ck))
      obtain ⟨alens, acode, aroot, asub, awt, aht, anum, apar, adep, aheap⟩ := ca ((show CB hk X { u with root := rt, sub := sb, top := tv } from ck))
      have hor := ck.oroot
      have hos := ck.osub
      have htl := hL.tp_le p
      have htv := r3.t
      have hm4 := hL.mx4 p
      refine V_seq (fun K27 hK27 => ?_)
      refine V_sr T.mix (by kernel_rfl) (fun K28 hK28 => ?_)
      refine S_mv rfl ?_
      refine S_bin rfl rfl rfl ?_
      refine S_nil (hK28 _ _ (V_keep [0, 7, 99] (by simp only [proj, lk, reduceIte, Nat.reduceEqDiff]; rfl) ?_)); clear hK28
      refine V_condp rfl (fun c38 => ?_) (fun c38 => ?_)
      · skip
        have hng := r3.neg hL (show p < 64 by omega)
        have htl64 := hL.tp_le 64
        refine V_skipk [0, 7] (by simp only [proj, lk, reduceIte, Nat.reduceEqDiff]; rfl) ?_
        refine hK27 _ _ ?_; clear hK27
        refine V_seq (fun K29 hK29 => ?_)
        refine V_block ?_
        refine V_sr T.mix (by kernel_rfl) (fun K30 hK30 => ?_)
        refine S_mv rfl ?_
        refine S_nc rfl ?_
        first | refine S_fa0 T.f70_3 rfl ?_ | refine S_fa T.f70_3 rfl ?_
        refine S_ldK T.ag56 rfl (fun K' hK' => ?_)
        simp (disch := omega) only [q0, q1, q2, q3, q4, q5, q6, q7, q8, q9, q10, q11, q12, alens, acode, aroot, asub, awt, aht, anum, apar, adep, aheap, oP_some, Nat.add_zero]
        refine hK' _ ?_; clear hK' K'
        refine S_mv rfl ?_
        first | refine S_ixn T.el56 rfl rfl (by omega) ?_ | refine S_ix1 T.el56 rfl rfl (by omega) (by omega) ?_ | refine S_ix T.el56 rfl rfl (by omega) (by omega) ?_
        refine S_ldK T.ag3 rfl (fun K' hK' => ?_)
        simp (disch := omega) only [q0, q1, q2, q3, q4, q5, q6, q7, q8, q9, q10, q11, q12, alens, acode, aroot, asub, awt, aht, anum, apar, adep, aheap, oP_some, Nat.add_zero]
        refine hK' _ ?_; clear hK' K'
        refine S_bin rfl rfl rfl ?_
        refine S_nil (hK30 _ _ (V_keep [0, 7, 109] (by simp only [proj, lk, reduceIte, Nat.reduceEqDiff]; rfl) ?_)); clear hK30
        refine V_condp rfl (fun c39 => ?_) (fun c39 => ?_)
        · skip
          have hp2 : 2 ^ (mx lf u.n p u.n) ≤ 16 := Nat.pow_le_pow_right (n := 2) (by omega) hm4
          have hpos := hng.1.1 c39
          refine V_sr T.mix (by kernel_rfl) (fun K31 hK31 => ?_)
          refine S_mv rfl ?_
          refine S_nc rfl ?_
          first | refine S_fa0 T.f70_3 rfl ?_ | refine S_fa T.f70_3 rfl ?_
          refine S_ldK T.ag56 rfl (fun K' hK' => ?_)
          simp (disch := omega) only [q0, q1, q2, q3, q4, q5, q6, q7, q8, q9, q10, q11, q12, alens, acode, aroot, asub, awt, aht, anum, apar, adep, aheap, oP_some, Nat.add_zero]
          refine hK' _ ?_; clear hK' K'
          refine S_mv rfl ?_
          first | refine S_ixn T.el56 rfl rfl (by omega) ?_ | refine S_ix1 T.el56 rfl rfl (by omega) (by omega) ?_ | refine S_ix T.el56 rfl rfl (by omega) (by omega) ?_
          refine S_ldK T.ag3 rfl (fun K' hK' => ?_)
          simp (disch := omega) only [q0, q1, q2, q3, q4, q5, q6, q7, q8, q9, q10, q11, q12, alens, acode, aroot, asub, awt, aht, anum, apar, adep, aheap, oP_some, Nat.add_zero]
          refine hK' _ ?_; clear hK' K'
          rw [hng.2 c39]
          refine S_neg rfl (by omega) (by omega) ?_
          rw [show -(-(((mx lf u.n p u.n) : Nat) : Int)) = (((mx lf u.n p u.n) : Nat) : Int) by omega]
          refine S_as rfl ?_
          refine S_nil (hK31 _ _ (V_keep [0, 7, 8] (by simp only [proj, lk, reduceIte, Nat.reduceEqDiff]; rfl) ?_)); clear hK31
          refine V_sr T.mix (by kernel_rfl) (fun K32 hK32 => ?_)
          refine S_mv rfl ?_
          refine S_nc rfl ?_
          first | refine S_fa0 T.f70_3 rfl ?_ | refine S_fa T.f70_3 rfl ?_
          refine S_ldK T.ag56 rfl (fun K' hK' => ?_)
          simp (disch := omega) only [q0, q1, q2, q3, q4, q5, q6, q7, q8, q9, q10, q11, q12, alens, acode, aroot, asub, awt, aht, anum, apar, adep, aheap, oP_some, Nat.add_zero]
          refine hK' _ ?_; clear hK' K'
          refine S_mv rfl ?_
          refine S_mv rfl ?_
          refine S_nc rfl ?_
          first | refine S_fa0 T.f70_5 rfl ?_ | refine S_fa T.f70_5 rfl ?_
          refine S_ldK T.ag3 rfl (fun K' hK' => ?_)
          simp (disch := omega) only [q0, q1, q2, q3, q4, q5, q6, q7, q8, q9, q10, q11, q12, alens, acode, aroot, asub, awt, aht, anum, apar, adep, aheap, oP_some, Nat.add_zero]
          refine hK' _ ?_; clear hK' K'
          refine S_nshl tv 4 (tv * 16) rfl rfl rfl rfl rfl (by decide) (t64b (by omega)) ?_
          refine S_mv rfl ?_
          refine S_nor (tv * 16) (mx lf u.n p u.n) (tv * 16 + (mx lf u.n p u.n)) rfl rfl rfl rfl (or16 (by omega)) (t64b (by omega)) (t64b (by omega)) ?_
          first | refine S_neg rfl (by omega) (by omega) ?_ | refine S_un rfl rfl ?_
          first | refine S_ixn T.el56 rfl rfl (by omega) ?_ | refine S_ix1 T.el56 rfl rfl (by omega) (by omega) ?_ | refine S_ix T.el56 rfl rfl (by omega) (by omega) ?_
          refine S_st T.sz3 rfl rfl rfl rfl (by simp (disch := omega) only [hor]) ?_
          generalize hh : putH _ _ _ = h1
          have c1 : CB h1 X { u with root := ups rt p (-((tv * 16 + (mx lf u.n p u.n) : Nat) : Int)), sub := sb, top := tv } := by rw [← hh]; exact ck.proot p (-((tv * 16 + (mx lf u.n p u.n) : Nat) : Int))
          have hE1 : Ext (CT X) hk h1 := by rw [← hh]; exact CB.pute (by omega)
          clear hh
          refine S_nil (hK32 _ _ (V_keep [0, 7, 8] (by simp only [proj, lk, reduceIte, Nat.reduceEqDiff]; rfl) ?_)); clear hK32
          refine V_sr T.mix (by kernel_rfl) (fun K33 hK33 => ?_)
          refine S_as rfl ?_
          refine S_nil (hK33 _ _ (V_keep [0, 7, 8, 9] (by simp only [proj, lk, reduceIte, Nat.reduceEqDiff]; rfl) ?_)); clear hK33
          refine V_block ?_
          refine V_loop (fun m l h' => ∃ (j : Nat) (hk2 : Heap) (r2 s2 : Nat → Int), (j ≤ 2 ^ (mx lf u.n p u.n)) ∧ (CB hk2 X { u with root := r2, sub := s2, top := (tv + j) }) ∧ (r2 = ups rt p (-((tv * 16 + (mx lf u.n p u.n) : Nat) : Int))) ∧ (∀ i, i < tv + j → s2 i = 0) ∧ (Ext (CT X) h hk2) ∧ m = 2 ^ (mx lf u.n p u.n) - j ∧ l = [(0, .pointer (some ⟨X, 0, none⟩)), (7, .int .i64 (p : Int)), (8, .int .i64 ((mx lf u.n p u.n) : Int)), (9, .int .i64 (j : Int))] ∧ hk2 = h') _ ⟨0, h1, _, sb, Nat.zero_le _, c1, rfl, r3.s, hE.trans hE1, rfl, rfl, rfl⟩ ?_
          rintro m l h' ⟨j, hk2, r2, s2, hj, ck, hr2, hz2, hE2, rfl, rfl, rfl⟩ K34 hK34
          try clear q0 q1 q2 q3 q4 q5 q6 q7 q8 q9 q10 q11 q12 alens acode aroot asub awt aht anum apar adep aheap
          obtain ⟨q0, q1, q2, q3, q4, q5, q6, q7, q8, q9, q10, q11, q12⟩ := cq ((show CB hk2 X { u with root := r2, sub := s2, top := (tv + j) } from ck))
          obtain ⟨alens, acode, aroot, asub, awt, aht, anum, apar, adep, aheap⟩ := ca ((show CB hk2 X { u with root := r2, sub := s2, top := (tv + j) } from ck))
          have hos := ck.osub
          have hcok := cok ck
          refine V_seq (fun K35 hK35 => ?_)
          refine V_sr T.mix (by kernel_rfl) (fun K36 hK36 => ?_)
          refine S_mv rfl ?_
          refine S_mv rfl ?_
          refine S_cvN (mx lf u.n p u.n) T.us3 T.in105 rfl rfl (tu64 (by omega)) ?_
          refine S_nshl 1 (mx lf u.n p u.n) (2 ^ (mx lf u.n p u.n)) rfl rfl rfl rfl (Nat.one_mul _) (show (mx lf u.n p u.n) ≤ 64 by omega) (t64b (by omega)) ?_
          refine S_bin rfl rfl rfl ?_
          refine S_nil (hK36 _ _ (V_keep [0, 7, 8, 9, 136] (by simp only [proj, lk, reduceIte, Nat.reduceEqDiff]; rfl) ?_)); clear hK36
          refine V_condp rfl (fun c42 => ?_) (fun c42 => ?_)
          · skip
            refine V_skipk [0, 7, 8, 9] (by simp only [proj, lk, reduceIte, Nat.reduceEqDiff]; rfl) ?_
            refine hK35 _ _ ?_; clear hK35
            refine V_seq (fun K37 hK37 => ?_)
            refine V_block ?_
            refine V_sr T.mix (by kernel_rfl) (fun K38 hK38 => ?_)
            refine S_mv rfl ?_
            refine S_nc rfl ?_
            first | refine S_fa0 T.f70_4 rfl ?_ | refine S_fa T.f70_4 rfl ?_
            refine S_ldK T.ag56 rfl (fun K' hK' => ?_)
            simp (disch := omega) only [q0, q1, q2, q3, q4, q5, q6, q7, q8, q9, q10, q11, q12, alens, acode, aroot, asub, awt, aht, anum, apar, adep, aheap, oP_some, Nat.add_zero]
            refine hK' _ ?_; clear hK' K'
            refine S_mv rfl ?_
            refine S_nc rfl ?_
            first | refine S_fa0 T.f70_5 rfl ?_ | refine S_fa T.f70_5 rfl ?_
            refine S_ldK T.ag3 rfl (fun K' hK' => ?_)
            simp (disch := omega) only [q0, q1, q2, q3, q4, q5, q6, q7, q8, q9, q10, q11, q12, alens, acode, aroot, asub, awt, aht, anum, apar, adep, aheap, oP_some, Nat.add_zero]
            refine hK' _ ?_; clear hK' K'
            first | refine S_ixn T.el56 rfl rfl (by omega) ?_ | refine S_ix1 T.el56 rfl rfl (by omega) (by omega) ?_ | refine S_ix T.el56 rfl rfl (by omega) (by omega) ?_
            refine S_st T.sz3 rfl rfl rfl rfl (by simp (disch := omega) only [hos]) ?_
            generalize hh : putH _ _ _ = h2
            have c5 : CB h2 X { u with root := r2, sub := ups s2 (tv + j) 0, top := (tv + j) } := by rw [← hh]; exact ck.psub (tv + j) 0
            have hE5 : Ext (CT X) hk2 h2 := by rw [← hh]; exact CB.pute (by omega)
            clear hh
            try clear q0 q1 q2 q3 q4 q5 q6 q7 q8 q9 q10 q11 q12 alens acode aroot asub awt aht anum apar adep aheap
            obtain ⟨q0, q1, q2, q3, q4, q5, q6, q7, q8, q9, q10, q11, q12⟩ := cq (c5)
            obtain ⟨alens, acode, aroot, asub, awt, aht, anum, apar, adep, aheap⟩ := ca (c5)
            have hcok := cok c5
            refine S_nil (hK38 _ _ (V_keep [0, 7, 8, 9] (by simp only [proj, lk, reduceIte, Nat.reduceEqDiff]; rfl) ?_)); clear hK38
            refine V_reg T.mix (by kernel_rfl) ?_
            refine S_mv rfl ?_
            refine S_nc rfl ?_
            first | refine S_fa0 T.f70_5 rfl ?_ | refine S_fa T.f70_5 rfl ?_
            refine S_ldK T.ag3 rfl (fun K' hK' => ?_)
            simp (disch := omega) only [q0, q1, q2, q3, q4, q5, q6, q7, q8, q9, q10, q11, q12, alens, acode, aroot, asub, awt, aht, anum, apar, adep, aheap, oP_some, Nat.add_zero]
            refine hK' _ ?_; clear hK' K'
            refine S_addN (tv + (j + 1)) rfl rfl (by omega) (by omega) ?_
            refine S_nc rfl ?_
            first | refine S_fa0 T.f70_5 rfl ?_ | refine S_fa T.f70_5 rfl ?_
            refine S_st T.sz3 rfl rfl rfl rfl (by simp (disch := omega) only [hcok]) ?_
            generalize hh : putH _ _ _ = h3
            have c3 : CB h3 X { u with root := r2, sub := ups s2 (tv + j) 0, top := (tv + (j + 1)) } := by rw [← hh]; exact c5.ptop (tv + (j + 1))
            have hE3 : Ext (CT X) h2 h3 := by rw [← hh]; exact CB.putx
            clear hh
            refine S_nilk [0, 7, 8, 9] (by simp only [proj, lk, reduceIte, Nat.reduceEqDiff]; rfl) ?_
            refine hK37 _ _ ?_; clear hK37
            refine V_reg T.mix (by kernel_rfl) ?_
            refine S_mv rfl ?_
            refine S_addN (j + 1) rfl rfl (by omega) (by omega) ?_
            refine S_as rfl ?_
            refine S_nilk [0, 7, 8, 9] (by simp only [proj, lk, reduceIte, Nat.reduceEqDiff]; rfl) ?_
            exact hK34 _ _ ⟨_, by omega, j + 1, h3, r2, ups s2 (tv + j) 0, by omega, c3, hr2, fun i hi => by by_cases e : i = tv + j; (rw [e, ups_eq]); (rw [ups_ne _ _ e]; exact hz2 i (by omega)), (hE2.trans hE5).trans hE3, rfl, rfl, rfl⟩
          · skip
            have hj2e : tv + j = tv + 2 ^ (mx lf u.n p u.n) := by omega
            rw [hj2e] at hz2
            refine V_exitk [0, 7] rfl (by simp only [proj, lk, reduceIte, Nat.reduceEqDiff]; rfl) ?_
            refine hK29 _ _ ?_; clear hK29
            refine V_reg T.mix (by kernel_rfl) ?_
            refine S_mv rfl ?_
            first | refine S_add rfl rfl (by omega) (by omega) ?_ | refine S_bin rfl rfl rfl ?_
            refine S_as rfl ?_
            refine S_nilk [0, 7] (by simp only [proj, lk, reduceIte, Nat.reduceEqDiff]; rfl) ?_
            exact hK26 _ _ ⟨_, by omega, p + 1, hk2, r2, s2, tv + 2 ^ (mx lf u.n p u.n), by omega, by rw [← hj2e]; exact ck, by rw [hr2]; exact r3.add hL (by omega) c39 (fun i hi => hz2 i (by omega)), hE2, rfl, rfl, rfl⟩
        · skip
          refine V_skipk [0, 7] (by simp only [proj, lk, reduceIte, Nat.reduceEqDiff]; rfl) ?_
          refine hK29 _ _ ?_; clear hK29
          refine V_reg T.mix (by kernel_rfl) ?_
          refine S_mv rfl ?_
          first | refine S_add rfl rfl (by omega) (by omega) ?_ | refine S_bin rfl rfl rfl ?_
          refine S_as rfl ?_
          refine S_nilk [0, 7] (by simp only [proj, lk, reduceIte, Nat.reduceEqDiff]; rfl) ?_
          exact hK26 _ _ ⟨_, by omega, p + 1, hk, rt, sb, tv, by omega, ck, r3.skip hL (by omega) (by omega), hE, rfl, rfl, rfl⟩
      · skip
        have r3n : R3 lf u.n 64 rt sb tv := by rw [show (64 : Nat) = p by omega]; exact r3
        generalize tv = tt at *
        replace r3 := r3n
        refine V_exitk [0] rfl (by simp only [proj, lk, reduceIte, Nat.reduceEqDiff]; rfl) ?_
        refine hK24 _ _ ?_; clear hK24
        refine V_sr T.mix (by kernel_rfl) (fun K39 hK39 => ?_)
        refine S_as rfl ?_
        refine S_nil (hK39 _ _ (V_keep [0, 10] (by simp only [proj, lk, reduceIte, Nat.reduceEqDiff]; rfl) ?_)); clear hK39
        refine V_block ?_
        refine V_loop (fun m l h' => ∃ (s : Nat) (hk : Heap) (sb : Nat → Int), (s ≤ u.n) ∧ (CB hk X { u with root := rt, sub := sb, top := tt }) ∧ (R4 lf u.n s sb) ∧ (Ext (CT X) h hk) ∧ m = u.n - s ∧ l = [(0, .pointer (some ⟨X, 0, none⟩)), (10, .int .i64 (s : Int))] ∧ hk = h') _ ⟨0, hk, sb, Nat.zero_le _, ck, R4.z0 (by rw [← r3.t]; exact r3.s), hE, rfl, rfl, rfl⟩ ?_
        rintro m l h' ⟨s, hk, sb, hs, ck, r4, hE, rfl, rfl, rfl⟩ K40 hK40
        try clear q0 q1 q2 q3 q4 q5 q6 q7 q8 q9 q10 q11 q12 alens acode aroot asub awt aht anum apar adep aheap
        obtain ⟨q0, q1, q2, q3, q4, q5, q6, q7, q8, q9, q10, q11, q12⟩ := cq ((show CB hk X { u with root := rt, sub := sb, top := tt } from ck))
        obtain ⟨alens, acode, aroot, asub, awt, aht, anum, apar, adep, aheap⟩ := ca ((show CB hk X { u with root := rt, sub := sb, top := tt } from ck))
        have hos := ck.osub
        refine V_seq (fun K41 hK41 => ?_)
        refine V_sr T.mix (by kernel_rfl) (fun K42 hK42 => ?_)
        refine S_mv rfl ?_
        refine S_mv rfl ?_
        refine S_nc rfl ?_
        first | refine S_fa0 T.f70_0 rfl ?_ | refine S_fa T.f70_0 rfl ?_
        refine S_ldK T.ag3 rfl (fun K' hK' => ?_)
        simp (disch := omega) only [q0, q1, q2, q3, q4, q5, q6, q7, q8, q9, q10, q11, q12, alens, acode, aroot, asub, awt, aht, anum, apar, adep, aheap, oP_some, Nat.add_zero]
        refine hK' _ ?_; clear hK' K'
        refine S_bin rfl rfl rfl ?_
        refine S_nil (hK42 _ _ (V_keep [0, 10, 160] (by simp only [proj, lk, reduceIte, Nat.reduceEqDiff]; rfl) ?_)); clear hK42
        refine V_condp rfl (fun c48 => ?_) (fun c48 => ?_)
        · skip
          have hls : u.lens s = lf s := hle s (by omega)
          have hcs : u.code s = cd lf u.n s := hcd s (by omega)
          have hl10 := hL.le s (by omega)
          have hc10 := cd10 hL (show s < u.n by omega)
          have hcp := Ln.cd_lt (l := lf) (N := u.n) s
          refine V_skipk [0, 10] (by simp only [proj, lk, reduceIte, Nat.reduceEqDiff]; rfl) ?_
          refine hK41 _ _ ?_; clear hK41
          refine V_seq (fun K43 hK43 => ?_)
          refine V_block ?_
          refine V_sr T.mix (by kernel_rfl) (fun K44 hK44 => ?_)
          refine S_mv rfl ?_
          refine S_nc rfl ?_
          first | refine S_fa0 T.f70_1 rfl ?_ | refine S_fa T.f70_1 rfl ?_
          refine S_ldK T.ag56 rfl (fun K' hK' => ?_)
          simp (disch := omega) only [q0, q1, q2, q3, q4, q5, q6, q7, q8, q9, q10, q11, q12, alens, acode, aroot, asub, awt, aht, anum, apar, adep, aheap, oP_some, Nat.add_zero]
          refine hK' _ ?_; clear hK' K'
          refine S_mv rfl ?_
          first | refine S_ixn T.el56 rfl rfl (by omega) ?_ | refine S_ix1 T.el56 rfl rfl (by omega) (by omega) ?_ | refine S_ix T.el56 rfl rfl (by omega) (by omega) ?_
          refine S_ldK T.ag3 rfl (fun K' hK' => ?_)
          simp (disch := omega) only [q0, q1, q2, q3, q4, q5, q6, q7, q8, q9, q10, q11, q12, alens, acode, aroot, asub, awt, aht, anum, apar, adep, aheap, oP_some, Nat.add_zero]
          refine hK' _ ?_; clear hK' K'
          refine S_as rfl ?_
          refine S_nil (hK44 _ _ (V_keep [0, 10, 11] (by simp only [proj, lk, reduceIte, Nat.reduceEqDiff]; rfl) ?_)); clear hK44
          rw [hls]
          refine V_sr T.mix (by kernel_rfl) (fun K45 hK45 => ?_)
          refine S_mv rfl ?_
          refine S_bin rfl rfl rfl ?_
          refine S_nil (hK45 _ _ (V_keep [0, 10, 11, 171] (by simp only [proj, lk, reduceIte, Nat.reduceEqDiff]; rfl) ?_)); clear hK45
          refine V_condp rfl (fun c50 => ?_) (fun c50 => ?_)
          · skip
            obtain ⟨wd, hwd⟩ : ∃ w, w = mx lf u.n ((cd lf u.n s) % 64) u.n := ⟨_, rfl⟩
            obtain ⟨st_, hst⟩ : ∃ w, w = tp lf u.n ((cd lf u.n s) % 64) := ⟨_, rfl⟩
            have hwpos : 0 < mx lf u.n ((cd lf u.n s) % 64) u.n := by have h9 := mx_le (l := lf) (N := u.n) (n := u.n) (t := s) (by omega) (by omega) rfl; omega
            have hw4 := hL.mx4 ((cd lf u.n s) % 64)
            obtain ⟨lk_, hlkv⟩ : ∃ w, w = st_ * 16 + wd := ⟨_, rfl⟩
            have hlk : rt ((cd lf u.n s) % 64) = -((lk_ : Nat) : Int) := by rw [r3.b ((cd lf u.n s) % 64) (by omega) hwpos, hlkv, hst, hwd]
            have htp := hL.tp_le (((cd lf u.n s) % 64) + 1)
            rw [tp_next hwpos] at htp
            rw [← hwd] at htp hw4 hwpos
            rw [← hst] at htp
            have hp2 : 2 ^ wd ≤ 16 := Nat.pow_le_pow_right (n := 2) (by omega) hw4
            have hpwd := pp2 wd
            have hcq : (cd lf u.n s) / 64 < 2 ^ (lf s - 6) := by rw [Nat.div_lt_iff_lt_mul (by omega), show (64 : Nat) = 2 ^ 6 from rfl, ← Nat.pow_add, show lf s - 6 + 6 = lf s by omega]; exact hcp
            refine V_sr T.mix (by kernel_rfl) (fun K46 hK46 => ?_)
            refine S_mv rfl ?_
            refine S_nc rfl ?_
            first | refine S_fa0 T.f70_3 rfl ?_ | refine S_fa T.f70_3 rfl ?_
            refine S_ldK T.ag56 rfl (fun K' hK' => ?_)
            simp (disch := omega) only [q0, q1, q2, q3, q4, q5, q6, q7, q8, q9, q10, q11, q12, alens, acode, aroot, asub, awt, aht, anum, apar, adep, aheap, oP_some, Nat.add_zero]
            refine hK' _ ?_; clear hK' K'
            refine S_mv rfl ?_
            refine S_nc rfl ?_
            first | refine S_fa0 T.f70_2 rfl ?_ | refine S_fa T.f70_2 rfl ?_
            refine S_ldK T.ag56 rfl (fun K' hK' => ?_)
            simp (disch := omega) only [q0, q1, q2, q3, q4, q5, q6, q7, q8, q9, q10, q11, q12, alens, acode, aroot, asub, awt, aht, anum, apar, adep, aheap, oP_some, Nat.add_zero]
            refine hK' _ ?_; clear hK' K'
            refine S_mv rfl ?_
            first | refine S_ixn T.el56 rfl rfl (by omega) ?_ | refine S_ix1 T.el56 rfl rfl (by omega) (by omega) ?_ | refine S_ix T.el56 rfl rfl (by omega) (by omega) ?_
            refine S_ldK T.ag3 rfl (fun K' hK' => ?_)
            simp (disch := omega) only [q0, q1, q2, q3, q4, q5, q6, q7, q8, q9, q10, q11, q12, alens, acode, aroot, asub, awt, aht, anum, apar, adep, aheap, oP_some, Nat.add_zero]
            refine hK' _ ?_; clear hK' K'
            rw [hcs]
            refine S_andm 63 6 64 rfl rfl rfl (by decide) (by decide) (by omega) (by omega) ?_
            rw [show (((cd lf u.n s) : Nat) : Int) % 64 = ((((cd lf u.n s) % 64) : Nat) : Int) by omega]
            first | refine S_ixn T.el56 rfl rfl (by omega) ?_ | refine S_ix1 T.el56 rfl rfl (by omega) (by omega) ?_ | refine S_ix T.el56 rfl rfl (by omega) (by omega) ?_
            refine S_ldK T.ag3 rfl (fun K' hK' => ?_)
            simp (disch := omega) only [q0, q1, q2, q3, q4, q5, q6, q7, q8, q9, q10, q11, q12, alens, acode, aroot, asub, awt, aht, anum, apar, adep, aheap, oP_some, Nat.add_zero]
            refine hK' _ ?_; clear hK' K'
            rw [hlk]
            refine S_neg rfl (by omega) (by omega) ?_
            rw [show -(-((lk_ : Nat) : Int)) = ((lk_ : Nat) : Int) by omega]
            refine S_as rfl ?_
            refine S_nil (hK46 _ _ (V_keep [0, 10, 11, 12] (by simp only [proj, lk, reduceIte, Nat.reduceEqDiff]; rfl) ?_)); clear hK46
            refine V_sr T.mix (by kernel_rfl) (fun K47 hK47 => ?_)
            refine S_mv rfl ?_
            refine S_nshr lk_ 4 st_ rfl rfl rfl rfl (by rw [hlkv]; omega) (by decide) ?_
            refine S_as rfl ?_
            refine S_nil (hK47 _ _ (V_keep [0, 10, 11, 12, 13] (by simp only [proj, lk, reduceIte, Nat.reduceEqDiff]; rfl) ?_)); clear hK47
            refine V_sr T.mix (by kernel_rfl) (fun K48 hK48 => ?_)
            refine S_mv rfl ?_
            refine S_nc rfl ?_
            first | refine S_fa0 T.f70_2 rfl ?_ | refine S_fa T.f70_2 rfl ?_
            refine S_ldK T.ag56 rfl (fun K' hK' => ?_)
            simp (disch := omega) only [q0, q1, q2, q3, q4, q5, q6, q7, q8, q9, q10, q11, q12, alens, acode, aroot, asub, awt, aht, anum, apar, adep, aheap, oP_some, Nat.add_zero]
            refine hK' _ ?_; clear hK' K'
            refine S_mv rfl ?_
            first | refine S_ixn T.el56 rfl rfl (by omega) ?_ | refine S_ix1 T.el56 rfl rfl (by omega) (by omega) ?_ | refine S_ix T.el56 rfl rfl (by omega) (by omega) ?_
            refine S_ldK T.ag3 rfl (fun K' hK' => ?_)
            simp (disch := omega) only [q0, q1, q2, q3, q4, q5, q6, q7, q8, q9, q10, q11, q12, alens, acode, aroot, asub, awt, aht, anum, apar, adep, aheap, oP_some, Nat.add_zero]
            refine hK' _ ?_; clear hK' K'
            rw [hcs]
            refine S_nshr (cd lf u.n s) 6 ((cd lf u.n s) / 64) rfl rfl rfl rfl rfl (by decide) ?_
            refine S_as rfl ?_
            refine S_nil (hK48 _ _ (V_keep [0, 10, 11, 12, 13, 14] (by simp only [proj, lk, reduceIte, Nat.reduceEqDiff]; rfl) ?_)); clear hK48
            try rw [hcs]
            refine V_block ?_
            refine V_loop (fun m l h' => ∃ (j : Nat) (hk2 : Heap) (s2 : Nat → Int), (j ≤ 2000) ∧ (j % 2 ^ (lf s - 6) = cd lf u.n s / 64) ∧ (CB hk2 X { u with root := rt, sub := s2, top := tt }) ∧ (∀ i, i < 2 ^ wd → s2 (st_ + i) = if i < j ∧ i % 2 ^ (lf s - 6) = cd lf u.n s / 64 then ((s * 16 + lf s : Nat) : Int) else sb (st_ + i)) ∧ (∀ i, i < st_ ∨ st_ + 2 ^ wd ≤ i → s2 i = sb i) ∧ (Ext (CT X) h hk2) ∧ m = 2 ^ wd - j ∧ l = [(0, .pointer (some ⟨X, 0, none⟩)), (10, .int .i64 (s : Int)), (11, .int .i64 (lf s : Int)), (12, .int .i64 (lk_ : Int)), (13, .int .i64 (st_ : Int)), (14, .int .i64 (j : Int))] ∧ hk2 = h') _ ⟨(cd lf u.n s) / 64, hk, sb, by omega, Nat.mod_eq_of_lt hcq, ck, fun i hi => by rw [if_neg (fun z => by have h9 := prog_first z.2; omega)], fun i _ => rfl, hE, rfl, rfl, rfl⟩ ?_
            rintro m l h' ⟨j, hk2, s2, hj1, hjm, ck, h21, h22, hE2, rfl, rfl, rfl⟩ K49 hK49
            try clear q0 q1 q2 q3 q4 q5 q6 q7 q8 q9 q10 q11 q12 alens acode aroot asub awt aht anum apar adep aheap
            obtain ⟨q0, q1, q2, q3, q4, q5, q6, q7, q8, q9, q10, q11, q12⟩ := cq ((show CB hk2 X { u with root := rt, sub := s2, top := tt } from ck))
            obtain ⟨alens, acode, aroot, asub, awt, aht, anum, apar, adep, aheap⟩ := ca ((show CB hk2 X { u with root := rt, sub := s2, top := tt } from ck))
            have hos := ck.osub
            have hpw := pp2 (lf s - 6)
            refine V_seq (fun K50 hK50 => ?_)
            refine V_sr T.mix (by kernel_rfl) (fun K51 hK51 => ?_)
            refine S_mv rfl ?_
            refine S_mv rfl ?_
            refine S_andm 15 4 16 rfl rfl rfl (by decide) (by decide) (by omega) (by omega) ?_
            rw [show ((lk_ : Nat) : Int) % 16 = ((wd : Nat) : Int) by omega]
            refine S_cvN wd T.us3 T.in105 rfl rfl (tu64 (by omega)) ?_
            refine S_nshl 1 wd (2 ^ wd) rfl rfl rfl rfl (Nat.one_mul _) (show wd ≤ 64 by omega) (t64b (by omega)) ?_
            refine S_bin rfl rfl rfl ?_
            refine S_nil (hK51 _ _ (V_keep [0, 10, 11, 12, 13, 14, 202] (by simp only [proj, lk, reduceIte, Nat.reduceEqDiff]; rfl) ?_)); clear hK51
            try rw [hcs]
            refine V_condp rfl (fun c53 => ?_) (fun c53 => ?_)
            · skip
              refine V_skipk [0, 10, 11, 12, 13, 14] (by simp only [proj, lk, reduceIte, Nat.reduceEqDiff]; rfl) ?_
              refine hK50 _ _ ?_; clear hK50
              refine V_seq (fun K52 hK52 => ?_)
              refine V_block ?_
              refine V_reg T.mix (by kernel_rfl) ?_
              refine S_mv rfl ?_
              refine S_nc rfl ?_
              first | refine S_fa0 T.f70_4 rfl ?_ | refine S_fa T.f70_4 rfl ?_
              refine S_ldK T.ag56 rfl (fun K' hK' => ?_)
              simp (disch := omega) only [q0, q1, q2, q3, q4, q5, q6, q7, q8, q9, q10, q11, q12, alens, acode, aroot, asub, awt, aht, anum, apar, adep, aheap, oP_some, Nat.add_zero]
              refine hK' _ ?_; clear hK' K'
              refine S_mv rfl ?_
              refine S_mv rfl ?_
              refine S_addN (st_ + j) rfl rfl (by omega) (by omega) ?_
              refine S_mv rfl ?_
              refine S_nshl s 4 (s * 16) rfl rfl rfl rfl rfl (by decide) (t64b (by omega)) ?_
              refine S_mv rfl ?_
              refine S_nor (s * 16) (lf s) (s * 16 + lf s) rfl rfl rfl rfl (or16 (by omega)) (t64b (by omega)) (t64b (by omega)) ?_
              first | refine S_ixn T.el56 rfl rfl (by omega) ?_ | refine S_ix1 T.el56 rfl rfl (by omega) (by omega) ?_ | refine S_ix T.el56 rfl rfl (by omega) (by omega) ?_
              refine S_st T.sz3 rfl rfl rfl rfl (by simp (disch := omega) only [hos]) ?_
              generalize hh : putH _ _ _ = h1
              have c1 : CB h1 X { u with root := rt, sub := ups s2 (st_ + j) ((s * 16 + lf s : Nat) : Int), top := tt } := by rw [← hh]; exact ck.psub (st_ + j) ((s * 16 + lf s : Nat) : Int)
              have hE1 : Ext (CT X) hk2 h1 := by rw [← hh]; exact CB.pute (by omega)
              clear hh
              refine S_nilk [0, 10, 11, 12, 13, 14] (by simp only [proj, lk, reduceIte, Nat.reduceEqDiff]; rfl) ?_
              refine hK52 _ _ ?_; clear hK52
              refine V_reg T.mix (by kernel_rfl) ?_
              refine S_mv rfl ?_
              refine S_mv rfl ?_
              refine S_subN (lf s - 6) rfl rfl (by omega) (by omega) ?_
              refine S_cvN (lf s - 6) T.us3 T.in105 rfl rfl (tu64 (by omega)) ?_
              have hpm := p10 (show lf s - 6 ≤ 10 by omega)
              refine S_nshl 1 (lf s - 6) (2 ^ (lf s - 6)) rfl rfl rfl rfl (Nat.one_mul _) (show lf s - 6 ≤ 64 by omega) (t64b (by omega)) ?_
              refine S_addN (j + 2 ^ (lf s - 6)) rfl rfl (by omega) (by omega) ?_
              refine S_as rfl ?_
              refine S_nilk [0, 10, 11, 12, 13, 14] (by simp only [proj, lk, reduceIte, Nat.reduceEqDiff]; rfl) ?_
              try rw [hcs]
              exact hK49 _ _ ⟨_, by omega, j + 2 ^ (lf s - 6), h1, ups s2 (st_ + j) ((s * 16 + lf s : Nat) : Int), by have h9 := p10 (show lf s - 6 ≤ 10 by omega); omega, by rw [Nat.add_mod_right]; exact hjm, c1, fun i hi => by
                by_cases e : i = j
                · rw [e, ups_eq, if_pos ⟨by omega, hjm⟩]
                · rw [ups_ne _ _ (by omega), h21 i hi]
                  by_cases q : i < j ∧ i % 2 ^ (lf s - 6) = cd lf u.n s / 64
                  · rw [if_pos q, if_pos ⟨by omega, q.2⟩]
                  · rw [if_neg q, if_neg (fun z => ?_)]
                    rcases Nat.lt_or_ge i j with t | t
                    · exact q ⟨t, z.2⟩
                    · exact e ((prog hpw hjm t z.1).1 z.2), fun i hi => by rw [ups_ne _ _ (by omega)]; exact h22 i hi, hE2.trans hE1, rfl, rfl, rfl⟩
            · skip
              refine V_exitk [0, 10] rfl (by simp only [proj, lk, reduceIte, Nat.reduceEqDiff]; rfl) ?_
              refine hK43 _ _ ?_; clear hK43
              refine V_reg T.mix (by kernel_rfl) ?_
              refine S_mv rfl ?_
              first | refine S_add rfl rfl (by omega) (by omega) ?_ | refine S_bin rfl rfl rfl ?_
              refine S_as rfl ?_
              refine S_nilk [0, 10] (by simp only [proj, lk, reduceIte, Nat.reduceEqDiff]; rfl) ?_
              exact hK40 _ _ ⟨_, by omega, s + 1, hk2, s2, by omega, ck, r4.add hL (by omega) (by omega) (fun j_ hj_ => by
                have hj9 : j_ < 2 ^ wd := by rw [hwd]; exact hj_
                have h9 := h21 j_ hj9
                rw [hst] at h9; rw [h9]
                by_cases e : j_ % 2 ^ (lf s - 6) = cd lf u.n s / 64; (rw [if_pos ⟨by omega, e⟩, if_pos e]); (rw [if_neg (fun z => e z.2), if_neg e])) (by rw [hst, hwd] at h22; exact h22), hE2, rfl, rfl, rfl⟩
          · skip
            refine V_skipk [0, 10] (by simp only [proj, lk, reduceIte, Nat.reduceEqDiff]; rfl) ?_
            refine hK43 _ _ ?_; clear hK43
            refine V_reg T.mix (by kernel_rfl) ?_
            refine S_mv rfl ?_
            first | refine S_add rfl rfl (by omega) (by omega) ?_ | refine S_bin rfl rfl rfl ?_
            refine S_as rfl ?_
            refine S_nilk [0, 10] (by simp only [proj, lk, reduceIte, Nat.reduceEqDiff]; rfl) ?_
            exact hK40 _ _ ⟨_, by omega, s + 1, hk, sb, by omega, ck, r4.skip (by omega), hE, rfl, rfl, rfl⟩
        · skip
          refine V_exitk [] rfl (by simp only [proj, lk, reduceIte, Nat.reduceEqDiff]; rfl) ?_
          -- end
          refine hR _ _ (ret0 rfl ?_)
          exact ⟨rfl, rt, sb, tt, ck, TB.of r3 (by rw [show u.n = s by omega] at r4 ⊢; exact r4), hE⟩
end Go.Proofs.Qxb6500404aGreat.HufW
