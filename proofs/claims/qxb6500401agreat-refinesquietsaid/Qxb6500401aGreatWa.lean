import Derived.Test.Qxb6500401aGreatRa
set_option linter.unusedVariables false
set_option linter.unusedSimpArgs false
namespace Go.Proofs.Qxb6500401aGreat
open Go.Eng Go.Trl

theorem rlStk0 {h : Heap} {X : Nat} {R : RC} (hB : RB h X R) (i : Nat) (hi : i < 12) : cellH h ⟨X, 0 + i, none⟩ = some (.int .i64 (R.stk i)) := by rw [Nat.zero_add]; exact rlStk hB i hi
theorem rok0 {h : Heap} {X : Nat} {R : RC} (hB : RB h X R) (i : Nat) (hi : i < 12) : okPut h ⟨X, 0 + i, none⟩ = true := by rw [Nat.zero_add]; exact rok hB i (by omega)
theorem psStk0 {h : Heap} {X : Nat} {R : RC} (hB : RB h X R) (i : Nat) (x : Int) (hi : i < 12) : RB (putH h ⟨X, 0 + i, none⟩ (.int .i64 x)) X { R with stk := up R.stk i x } := by rw [Nat.zero_add]; exact psStk hB i x hi
set_option maxHeartbeats 400000 in
theorem var_spec (h : Heap) (l : Int) (h1 : -1000 ≤ l) (h2 : l ≤ 1000) :
    FC Tryz.prog 52 (#[.int .i64 l] : Array Value) h fun v h' => v = .int .i64 (l.natAbs : Int) ∧ h = h' := by
  refine FC_of [(0, .int .i64 l)] Tryz.func52 rfl Tryz.ntmps52 (by simp) rfl (fun R hR => ?_)
  refine V_sr T.mix (by kernel_rfl) (fun K1 hK1 => ?_)
  refine S_as rfl ?_
  refine S_nil (hK1 _ _ (V_keep [0] (by simp only [proj, lk, reduceIte, Nat.reduceEqDiff]; rfl) ?_)); clear hK1
  refine V_seq (fun K2 hK2 => ?_)
  refine V_sr T.mix (by kernel_rfl) (fun K3 hK3 => ?_)
  refine S_mv rfl ?_
  refine S_bin rfl rfl rfl ?_
  refine S_nil (hK3 _ _ (V_keep [0, 4] (by simp only [proj, lk, reduceIte, Nat.reduceEqDiff]; rfl) ?_)); clear hK3
  refine V_condp rfl (fun c7 => ?_) (fun c7 => ?_)
  · skip
    refine V_sr T.mix (by kernel_rfl) (fun K4 hK4 => ?_)
    refine S_mv rfl ?_
    first | refine S_neg rfl (by omega) (by omega) ?_ | refine S_un rfl rfl ?_
    refine S_as rfl ?_
    refine S_nil (hK4 _ _ (V_keep [2] (by simp only [proj, lk, reduceIte, Nat.reduceEqDiff]; rfl) ?_)); clear hK4
    refine V_ret ?_
    refine hR _ _ (ret1 rfl rfl ?_)
    exact ⟨congrArg _ (by omega), rfl⟩
  · skip
    refine V_skipk [0] (by simp only [proj, lk, reduceIte, Nat.reduceEqDiff]; rfl) ?_
    refine hK2 _ _ ?_; clear hK2
    refine V_sr T.mix (by kernel_rfl) (fun K5 hK5 => ?_)
    refine S_mv rfl ?_
    refine S_as rfl ?_
    refine S_nil (hK5 _ _ (V_keep [2] (by simp only [proj, lk, reduceIte, Nat.reduceEqDiff]; rfl) ?_)); clear hK5
    refine V_ret ?_
    refine hR _ _ (ret1 rfl rfl ?_)
    exact ⟨congrArg _ (by omega), rfl⟩
set_option maxHeartbeats 400000 in
theorem goodlit_spec (h : Heap) (l : Int) :
    FC Tryz.prog 100 (#[.int .i64 l] : Array Value) h fun v h' => ∃ g : Bool, v = .bool g ∧ (g = true ↔ good l) ∧ h = h' := by
  refine FC_of [(0, .int .i64 l)] Tryz.func100 rfl Tryz.ntmps100 (by simp) rfl (fun R hR => ?_)
  refine V_sr T.mix (by kernel_rfl) (fun K1 hK1 => ?_)
  refine S_as rfl ?_
  refine S_nil (hK1 _ _ (V_keep [0] (by simp only [proj, lk, reduceIte, Nat.reduceEqDiff]; rfl) ?_)); clear hK1
  refine V_sr T.mix (by kernel_rfl) (fun K2 hK2 => ?_)
  refine S_mv rfl ?_
  refine S_bin rfl rfl rfl ?_
  refine S_mv rfl ?_
  refine S_dec (fun g15 => ?_) (fun g15 => ?_)
  · skip
    refine S_gt rfl ?_
    refine S_mv rfl ?_
    refine S_gt rfl ?_
    refine S_bin rfl rfl rfl ?_
    refine S_pt rfl rfl ?_
    refine S_mv rfl ?_
    refine S_dec (fun g15a => ?_) (fun g15a => ?_)
    · skip
      refine S_gt rfl ?_
      refine S_mv rfl ?_
      refine S_gt rfl ?_
      refine S_bin rfl rfl rfl ?_
      refine S_pt rfl rfl ?_
      refine S_as rfl ?_
      refine S_nil (hK2 _ _ (V_keep [2] (by simp only [proj, lk, reduceIte, Nat.reduceEqDiff]; rfl) ?_)); clear hK2
      refine V_ret ?_
      refine hR _ _ (ret1 rfl rfl ?_)
      exact ⟨_, rfl, by unfold good; simp; omega, rfl⟩
    · skip
      refine S_gf rfl ?_
      refine S_gf rfl ?_
      refine S_pf rfl rfl ?_
      refine S_as rfl ?_
      refine S_nil (hK2 _ _ (V_keep [2] (by simp only [proj, lk, reduceIte, Nat.reduceEqDiff]; rfl) ?_)); clear hK2
      refine V_ret ?_
      refine hR _ _ (ret1 rfl rfl ?_)
      exact ⟨_, rfl, by unfold good; simp; omega, rfl⟩
  · skip
    refine S_gf rfl ?_
    refine S_gf rfl ?_
    refine S_pf rfl rfl ?_
    refine S_mv rfl ?_
    refine S_gf rfl ?_
    refine S_gf rfl ?_
    refine S_pf rfl rfl ?_
    refine S_as rfl ?_
    refine S_nil (hK2 _ _ (V_keep [2] (by simp only [proj, lk, reduceIte, Nat.reduceEqDiff]; rfl) ?_)); clear hK2
    refine V_ret ?_
    refine hR _ _ (ret1 rfl rfl ?_)
    exact ⟨_, rfl, by unfold good; simp; omega, rfl⟩
set_option maxHeartbeats 400000 in
theorem isvar_spec (h : Heap) (v : Int) :
    FC Tryz.prog 83 (#[.int .i64 v] : Array Value) h fun rv h' => rv = .bool (decide (1 ≤ v ∧ v ≤ 12)) ∧ h = h' := by
  refine FC_of [(0, .int .i64 v)] Tryz.func83 rfl Tryz.ntmps83 (by simp) rfl (fun R hR => ?_)
  refine V_sr T.mix (by kernel_rfl) (fun K1 hK1 => ?_)
  refine S_as rfl ?_
  refine S_nil (hK1 _ _ (V_keep [0] (by simp only [proj, lk, reduceIte, Nat.reduceEqDiff]; rfl) ?_)); clear hK1
  refine V_sr T.mix (by kernel_rfl) (fun K2 hK2 => ?_)
  refine S_mv rfl ?_
  refine S_bin rfl rfl rfl ?_
  refine S_mv rfl ?_
  refine S_dec (fun g153 => ?_) (fun g153 => ?_)
  · skip
    refine S_gt rfl ?_
    refine S_mv rfl ?_
    refine S_gt rfl ?_
    refine S_bin rfl rfl rfl ?_
    refine S_pt rfl rfl ?_
    refine S_as rfl ?_
    refine S_nil (hK2 _ _ (V_keep [2] (by simp only [proj, lk, reduceIte, Nat.reduceEqDiff]; rfl) ?_)); clear hK2
    refine V_ret ?_
    refine hR _ _ (ret1 rfl rfl ?_)
    exact ⟨by simp; omega, rfl⟩
  · skip
    refine S_gf rfl ?_
    refine S_gf rfl ?_
    refine S_pf rfl rfl ?_
    refine S_as rfl ?_
    refine S_nil (hK2 _ _ (V_keep [2] (by simp only [proj, lk, reduceIte, Nat.reduceEqDiff]; rfl) ?_)); clear hK2
    refine V_ret ?_
    refine hR _ _ (ret1 rfl rfl ?_)
    exact ⟨by simp; omega, rfl⟩
set_option maxHeartbeats 400000 in
theorem join_spec (h : Heap) (X : Nat) (Q : RC) (lt : Int) (v : Nat) (r : Int) (hB : RB h X Q) (ht : Q.top < 12) (hv : v ≤ 12) :
    FC Tryz.prog 101 (#[.pointer (some ⟨X, 0, none⟩), .int .i64 lt, .int .i64 (v : Int), .int .i64 r] : Array Value) h fun rv h' => rv = .tuple #[] ∧ RB h' X (joinR Q lt v r) ∧ Ext (fun x => x = X) h h' := by
  have hE := Ext.refl (fun x => x = X) h
  refine FC_of [(0, .pointer (some ⟨X, 0, none⟩)), (1, .int .i64 lt), (2, .int .i64 (v : Int)), (3, .int .i64 r)] Tryz.func101 rfl Tryz.ntmps101 (by simp) rfl (fun R hR => ?_)
  refine V_sr T.mix (by kernel_rfl) (fun K1 hK1 => ?_)
  refine S_mv rfl ?_
  refine S_mv rfl ?_
  refine S_nc rfl ?_
  first | refine S_fa0 T.f105_1 rfl ?_ | refine S_fa T.f105_1 rfl ?_
  refine S_ldK T.ag3 rfl (fun K' hK' => ?_)
  simp (disch := omega) only [rlTop hB, rlCur hB, rlDep hB, rlPops hB, rlStk0 hB, rlStk hB, rlVal hB, rlLev hB, rlRea hB, rlPla hB, rlLim hB, oP_some, Nat.add_zero]
  refine hK' _ ?_; clear hK' K'
  refine S_mv rfl ?_
  refine S_nc rfl ?_
  first | refine S_fa0 T.f105_0 rfl ?_ | refine S_fa T.f105_0 rfl ?_
  first | refine S_ixan T.ar101 rfl rfl (by omega) ?_ | refine S_ixa1 T.ar101 rfl rfl (by omega) (by omega) ?_
  refine S_st T.sz3 rfl rfl rfl rfl (by simp (disch := omega) only [rok0 hB, rok hB]) ?_
  generalize hh : putH _ _ _ = h1
  have hBh1 : RB h1 X { Q with stk := up Q.stk Q.top lt } := by rw [← hh]; exact psStk0 hB Q.top lt (by omega)
  have hEh1 : Ext (fun x => x = X) h h1 := by rw [← hh]; exact Ext.put _ _ rfl
  clear hh
  replace hE := hE.trans hEh1
  clear hB
  have hB := hBh1
  refine S_nil (hK1 _ _ (V_keep [0, 1, 2, 3] (by simp only [proj, lk, reduceIte, Nat.reduceEqDiff]; rfl) ?_)); clear hK1
  refine V_sr T.mix (by kernel_rfl) (fun K2 hK2 => ?_)
  refine S_mv rfl ?_
  refine S_mv rfl ?_
  refine S_nc rfl ?_
  first | refine S_fa0 T.f105_4 rfl ?_ | refine S_fa T.f105_4 rfl ?_
  first | refine S_ixan T.ar103 rfl rfl (by omega) ?_ | refine S_ixa1 T.ar103 rfl rfl (by omega) (by omega) ?_
  refine S_st T.sz102 rfl rfl rfl rfl (by simp (disch := omega) only [rok0 hB, rok hB]) ?_
  generalize hh : putH _ _ _ = h2
  have hBh2 : RB h2 X { Q with stk := up Q.stk Q.top lt, val := up Q.val v 1 } := by rw [← hh]; exact psVal hB v 1 (by omega)
  have hEh2 : Ext (fun x => x = X) h1 h2 := by rw [← hh]; exact Ext.put _ _ rfl
  clear hh
  replace hE := hE.trans hEh2
  clear hB
  have hB := hBh2
  refine S_nil (hK2 _ _ (V_keep [0, 1, 2, 3] (by simp only [proj, lk, reduceIte, Nat.reduceEqDiff]; rfl) ?_)); clear hK2
  refine V_seqJ (fun l h' => ∃ (h3 : Heap), (RB h3 X { Q with stk := up Q.stk Q.top lt, val := up Q.val v (if lt < 0 then -1 else 1) }) ∧ (Ext (fun x => x = X) h h3) ∧ l = [(0, .pointer (some ⟨X, 0, none⟩)), (2, .int .i64 (v : Int)), (3, .int .i64 r)] ∧ h3 = h') ?_ ?_
  · skip
    refine V_sr T.mix (by kernel_rfl) (fun K4 hK4 => ?_)
    refine S_mv rfl ?_
    refine S_bin rfl rfl rfl ?_
    refine S_nil (hK4 _ _ (V_keep [0, 2, 3, 23] (by simp only [proj, lk, reduceIte, Nat.reduceEqDiff]; rfl) ?_)); clear hK4
    refine V_condp rfl (fun c40 => ?_) (fun c40 => ?_)
    · skip
      refine V_reg T.mix (by kernel_rfl) ?_
      refine S_mv rfl ?_
      refine S_mv rfl ?_
      refine S_nc rfl ?_
      first | refine S_fa0 T.f105_4 rfl ?_ | refine S_fa T.f105_4 rfl ?_
      first | refine S_ixan T.ar103 rfl rfl (by omega) ?_ | refine S_ixa1 T.ar103 rfl rfl (by omega) (by omega) ?_
      refine S_st T.sz102 rfl rfl rfl rfl (by simp (disch := omega) only [rok0 hB, rok hB]) ?_
      generalize hh : putH _ _ _ = h3
      have hBh3 : RB h3 X { Q with stk := up Q.stk Q.top lt, val := up Q.val v (-1) } := by rw [← hh]; have hq := psVal hB v (-1) (by omega); simp only [up_up] at hq; exact hq
      have hE3 : Ext (fun x => x = X) h2 h3 := by rw [← hh]; exact Ext.put _ _ rfl
      clear hh
      refine S_nilk [0, 2, 3] (by simp only [proj, lk, reduceIte, Nat.reduceEqDiff]; rfl) ?_
      exact ⟨h3, by rw [if_pos c40]; exact hBh3, hE.trans hE3, rfl, rfl⟩
    · skip
      refine V_skipk [0, 2, 3] (by simp only [proj, lk, reduceIte, Nat.reduceEqDiff]; rfl) ?_
      exact ⟨h2, by rw [if_neg c40]; exact hB, hE, rfl, rfl⟩
  rintro l h' ⟨h3, hB3, hE3, rfl, rfl⟩
  clear hB hE
  have hB := hB3
  have hE := hE3
  refine V_sr T.mix (by kernel_rfl) (fun K5 hK5 => ?_)
  refine S_mv rfl ?_
  refine S_mv rfl ?_
  refine S_mv rfl ?_
  refine S_nc rfl ?_
  first | refine S_fa0 T.f105_3 rfl ?_ | refine S_fa T.f105_3 rfl ?_
  refine S_ldK T.ag3 rfl (fun K' hK' => ?_)
  simp (disch := omega) only [rlTop hB, rlCur hB, rlDep hB, rlPops hB, rlStk0 hB, rlStk hB, rlVal hB, rlLev hB, rlRea hB, rlPla hB, rlLim hB, oP_some, Nat.add_zero]
  refine hK' _ ?_; clear hK' K'
  refine S_nc rfl ?_
  first | refine S_fa0 T.f105_5 rfl ?_ | refine S_fa T.f105_5 rfl ?_
  first | refine S_ixan T.ar50 rfl rfl (by omega) ?_ | refine S_ixa1 T.ar50 rfl rfl (by omega) (by omega) ?_
  refine S_st T.sz3 rfl rfl rfl rfl (by simp (disch := omega) only [rok0 hB, rok hB]) ?_
  generalize hh : putH _ _ _ = h4
  have hBh4 : RB h4 X { Q with stk := up Q.stk Q.top lt, val := up Q.val v (if lt < 0 then -1 else 1), lev := up Q.lev v Q.dep } := by rw [← hh]; exact psLev hB v (Q.dep : Int) (by omega)
  have hEh4 : Ext (fun x => x = X) h3 h4 := by rw [← hh]; exact Ext.put _ _ rfl
  clear hh
  replace hE := hE.trans hEh4
  clear hB
  have hB := hBh4
  refine S_nil (hK5 _ _ (V_keep [0, 2, 3] (by simp only [proj, lk, reduceIte, Nat.reduceEqDiff]; rfl) ?_)); clear hK5
  refine V_sr T.mix (by kernel_rfl) (fun K6 hK6 => ?_)
  refine S_mv rfl ?_
  refine S_mv rfl ?_
  refine S_mv rfl ?_
  refine S_nc rfl ?_
  first | refine S_fa0 T.f105_6 rfl ?_ | refine S_fa T.f105_6 rfl ?_
  first | refine S_ixan T.ar50 rfl rfl (by omega) ?_ | refine S_ixa1 T.ar50 rfl rfl (by omega) (by omega) ?_
  refine S_st T.sz3 rfl rfl rfl rfl (by simp (disch := omega) only [rok0 hB, rok hB]) ?_
  generalize hh : putH _ _ _ = h5
  have hBh5 : RB h5 X { Q with stk := up Q.stk Q.top lt, val := up Q.val v (if lt < 0 then -1 else 1), lev := up Q.lev v Q.dep, rea := up Q.rea v r } := by rw [← hh]; exact psRea hB v r (by omega)
  have hEh5 : Ext (fun x => x = X) h4 h5 := by rw [← hh]; exact Ext.put _ _ rfl
  clear hh
  replace hE := hE.trans hEh5
  clear hB
  have hB := hBh5
  refine S_nil (hK6 _ _ (V_keep [0, 2] (by simp only [proj, lk, reduceIte, Nat.reduceEqDiff]; rfl) ?_)); clear hK6
  refine V_sr T.mix (by kernel_rfl) (fun K7 hK7 => ?_)
  refine S_mv rfl ?_
  refine S_mv rfl ?_
  refine S_mv rfl ?_
  refine S_nc rfl ?_
  first | refine S_fa0 T.f105_1 rfl ?_ | refine S_fa T.f105_1 rfl ?_
  refine S_ldK T.ag3 rfl (fun K' hK' => ?_)
  simp (disch := omega) only [rlTop hB, rlCur hB, rlDep hB, rlPops hB, rlStk0 hB, rlStk hB, rlVal hB, rlLev hB, rlRea hB, rlPla hB, rlLim hB, oP_some, Nat.add_zero]
  refine hK' _ ?_; clear hK' K'
  refine S_nc rfl ?_
  first | refine S_fa0 T.f105_7 rfl ?_ | refine S_fa T.f105_7 rfl ?_
  first | refine S_ixan T.ar50 rfl rfl (by omega) ?_ | refine S_ixa1 T.ar50 rfl rfl (by omega) (by omega) ?_
  refine S_st T.sz3 rfl rfl rfl rfl (by simp (disch := omega) only [rok0 hB, rok hB]) ?_
  generalize hh : putH _ _ _ = h6
  have hBh6 : RB h6 X { Q with stk := up Q.stk Q.top lt, val := up Q.val v (if lt < 0 then -1 else 1), lev := up Q.lev v Q.dep, rea := up Q.rea v r, pla := up Q.pla v Q.top } := by rw [← hh]; exact psPla hB v (Q.top : Int) (by omega)
  have hEh6 : Ext (fun x => x = X) h5 h6 := by rw [← hh]; exact Ext.put _ _ rfl
  clear hh
  replace hE := hE.trans hEh6
  clear hB
  have hB := hBh6
  refine S_nil (hK7 _ _ (V_keep [0] (by simp only [proj, lk, reduceIte, Nat.reduceEqDiff]; rfl) ?_)); clear hK7
  refine V_reg T.mix (by kernel_rfl) ?_
  refine S_mv rfl ?_
  refine S_nc rfl ?_
  first | refine S_fa0 T.f105_1 rfl ?_ | refine S_fa T.f105_1 rfl ?_
  refine S_ldK T.ag3 rfl (fun K' hK' => ?_)
  simp (disch := omega) only [rlTop hB, rlCur hB, rlDep hB, rlPops hB, rlStk0 hB, rlStk hB, rlVal hB, rlLev hB, rlRea hB, rlPla hB, rlLim hB, oP_some, Nat.add_zero]
  refine hK' _ ?_; clear hK' K'
  first | refine S_add rfl rfl (by omega) (by omega) ?_ | refine S_bin rfl rfl rfl ?_
  refine S_nc rfl ?_
  first | refine S_fa0 T.f105_1 rfl ?_ | refine S_fa T.f105_1 rfl ?_
  refine S_st T.sz3 rfl rfl rfl rfl (by simp (disch := omega) only [rok0 hB, rok hB]) ?_
  generalize hh : putH _ _ _ = h7
  have hBh7 : RB h7 X (joinR Q lt v r) := by rw [← hh]; exact psTop hB (Q.top + 1)
  have hEh7 : Ext (fun x => x = X) h6 h7 := by rw [← hh]; exact Ext.put _ _ rfl
  clear hh
  replace hE := hE.trans hEh7
  clear hB
  have hB := hBh7
  refine S_nilk [] (by simp only [proj, lk, reduceIte, Nat.reduceEqDiff]; rfl) ?_
  -- end
  refine hR _ _ (ret0 rfl ?_)
  exact ⟨rfl, hB, hE⟩
set_option maxHeartbeats 400000 in
theorem popto_spec (h : Heap) (X : Nat) (Q : RC) (L : List It) (k c n : Nat) (hB : RB h X Q) (hr : RelP Q L) (ti : TI L k c) (hn : n ≤ L.length) (hp : Q.pops ≤ 1000000000000000000) :
    FC Tryz.prog 115 (#[.pointer (some ⟨X, 0, none⟩), .int .i64 (n : Int)] : Array Value) h fun rv h' => rv = .tuple #[] ∧ (∃ R', RB h' X R' ∧ RelP R' (L.take n) ∧ R'.dep = Q.dep ∧ R'.lim = Q.lim ∧ R'.cur = min Q.cur n ∧ R'.pops = Q.pops + (L.length - n)) ∧ Ext (fun x => x = X) h h' := by
  have hlen := ti.len
  have htp := hr.top
  refine FC_of [(0, .pointer (some ⟨X, 0, none⟩)), (1, .int .i64 (n : Int))] Tryz.func115 rfl Tryz.ntmps115 (by simp) rfl (fun R hR => ?_)
  refine V_seq (fun K1 hK1 => ?_)
  refine V_block ?_
  refine V_loop (fun m l h' => ∃ (m2 : Nat) (hk : Heap) (Rk : RC), (n ≤ m2) ∧ (m2 ≤ L.length) ∧ (RB hk X Rk) ∧ (RelP Rk (L.take m2)) ∧ (Rk.dep = Q.dep) ∧ (Rk.lim = Q.lim) ∧ (Rk.cur = Q.cur) ∧ (Rk.pops = Q.pops + (L.length - m2)) ∧ (Ext (fun x => x = X) h hk) ∧ m = m2 - n ∧ l = [(0, .pointer (some ⟨X, 0, none⟩)), (1, .int .i64 (n : Int))] ∧ hk = h') _ ⟨L.length, h, Q, hn, Nat.le_refl _, hB, by rw [List.take_length]; exact hr, rfl, rfl, rfl, by omega, Ext.refl _ _, rfl, rfl, rfl⟩ ?_
  rintro m l h' ⟨m2, hk, Rk, hm1, hm2, hBk, hrk, hd, hl, hc, hpp, hE, rfl, rfl, rfl⟩ K2 hK2
  clear hB
  have hB := hBk
  have htk : Rk.top = m2 := by rw [hrk.top, List.length_take]; omega
  refine V_seq (fun K3 hK3 => ?_)
  refine V_sr T.mix (by kernel_rfl) (fun K4 hK4 => ?_)
  refine S_mv rfl ?_
  refine S_nc rfl ?_
  first | refine S_fa0 T.f105_1 rfl ?_ | refine S_fa T.f105_1 rfl ?_
  refine S_ldK T.ag3 rfl (fun K' hK' => ?_)
  simp (disch := omega) only [rlTop hB, rlCur hB, rlDep hB, rlPops hB, rlStk0 hB, rlStk hB, rlVal hB, rlLev hB, rlRea hB, rlPla hB, rlLim hB, oP_some, Nat.add_zero]
  refine hK' _ ?_; clear hK' K'
  refine S_mv rfl ?_
  refine S_bin rfl rfl rfl ?_
  refine S_nil (hK4 _ _ (V_keep [0, 1, 10] (by simp only [proj, lk, reduceIte, Nat.reduceEqDiff]; rfl) ?_)); clear hK4
  refine V_condp rfl (fun c51 => ?_) (fun c51 => ?_)
  · skip
    have hlt : m2 - 1 < L.length := by omega
    obtain ⟨x, hx⟩ : ∃ x, L.getD (m2 - 1) ⟨0, 0, 0⟩ = x := ⟨_, rfl⟩
    have hnw := ti.new hlt
    rw [hx] at hnw
    have hxg : good x.lit := (ti.g x (by rw [← hx]; simp [hlt])).1
    unfold good at hxg
    have htake : L.take m2 = L.take (m2 - 1) ++ [x] := by rw [← hx, show m2 = m2 - 1 + 1 by omega, List.take_add_one]; simp [hlt]
    rw [htake] at hrk
    have hrk2 := hrk.pop hnw
    have hstx : Rk.stk (m2 - 1) = x.lit := by rw [hrk.stk (m2 - 1) (by simp; omega)]; simp; rw [List.getElem?_append_right (by simp; omega)]; simp [show min (m2 - 1) L.length = m2 - 1 by omega]
    have hva : x.lit.natAbs < 13 := by omega
    refine V_skipk [0, 1] (by simp only [proj, lk, reduceIte, Nat.reduceEqDiff]; rfl) ?_
    refine hK3 _ _ ?_; clear hK3
    refine V_block ?_
    refine V_sr T.mix (by kernel_rfl) (fun K5 hK5 => ?_)
    refine S_mv rfl ?_
    refine S_nc rfl ?_
    first | refine S_fa0 T.f105_1 rfl ?_ | refine S_fa T.f105_1 rfl ?_
    refine S_ldK T.ag3 rfl (fun K' hK' => ?_)
    simp (disch := omega) only [rlTop hB, rlCur hB, rlDep hB, rlPops hB, rlStk0 hB, rlStk hB, rlVal hB, rlLev hB, rlRea hB, rlPla hB, rlLim hB, oP_some, Nat.add_zero]
    refine hK' _ ?_; clear hK' K'
    refine S_subN (m2 - 1) rfl rfl (by omega) (by omega) ?_
    refine S_nc rfl ?_
    first | refine S_fa0 T.f105_1 rfl ?_ | refine S_fa T.f105_1 rfl ?_
    refine S_st T.sz3 rfl rfl rfl rfl (by simp (disch := omega) only [rok0 hB, rok hB]) ?_
    generalize hh : putH _ _ _ = h1
    have hBh1 : RB h1 X { Rk with top := m2 - 1 } := by rw [← hh]; exact psTop hB (m2 - 1)
    have hEh1 : Ext (fun x => x = X) hk h1 := by rw [← hh]; exact Ext.put _ _ rfl
    clear hh
    replace hE := hE.trans hEh1
    clear hB
    have hB := hBh1
    refine S_nil (hK5 _ _ (V_keep [0, 1] (by simp only [proj, lk, reduceIte, Nat.reduceEqDiff]; rfl) ?_)); clear hK5
    refine V_sr T.mix (by kernel_rfl) (fun K6 hK6 => ?_)
    refine S_mv rfl ?_
    refine S_mv rfl ?_
    refine S_nc rfl ?_
    first | refine S_fa0 T.f105_1 rfl ?_ | refine S_fa T.f105_1 rfl ?_
    refine S_ldK T.ag3 rfl (fun K' hK' => ?_)
    simp (disch := omega) only [rlTop hB, rlCur hB, rlDep hB, rlPops hB, rlStk0 hB, rlStk hB, rlVal hB, rlLev hB, rlRea hB, rlPla hB, rlLim hB, oP_some, Nat.add_zero]
    refine hK' _ ?_; clear hK' K'
    refine S_nc rfl ?_
    first | refine S_fa0 T.f105_0 rfl ?_ | refine S_fa T.f105_0 rfl ?_
    first | refine S_ixan T.ar101 rfl rfl (by omega) ?_ | refine S_ixa1 T.ar101 rfl rfl (by omega) (by omega) ?_
    refine S_ldK T.ag3 rfl (fun K' hK' => ?_)
    simp (disch := omega) only [rlTop hB, rlCur hB, rlDep hB, rlPops hB, rlStk0 hB, rlStk hB, rlVal hB, rlLev hB, rlRea hB, rlPla hB, rlLim hB, oP_some, Nat.add_zero]
    refine hK' _ ?_; clear hK' K'
    rw [hstx]
    refine S_call T.hb52 rfl ?_
    refine FC.mono (var_spec h1 x.lit (by omega) (by omega)) ?_
    rintro v' h' ⟨rfl, rfl⟩
    refine S_as rfl ?_
    refine S_nil (hK6 _ _ (V_keep [0, 1, 4] (by simp only [proj, lk, reduceIte, Nat.reduceEqDiff]; rfl) ?_)); clear hK6
    refine V_sr T.mix (by kernel_rfl) (fun K7 hK7 => ?_)
    refine S_mv rfl ?_
    refine S_mv rfl ?_
    refine S_nc rfl ?_
    first | refine S_fa0 T.f105_4 rfl ?_ | refine S_fa T.f105_4 rfl ?_
    first | refine S_ixan T.ar103 rfl rfl (by omega) ?_ | refine S_ixa1 T.ar103 rfl rfl (by omega) (by omega) ?_
    refine S_st T.sz102 rfl rfl rfl rfl (by simp (disch := omega) only [rok0 hB, rok hB]) ?_
    generalize hh : putH _ _ _ = h2
    have hBh2 : RB h2 X { Rk with top := m2 - 1, val := up Rk.val x.lit.natAbs 0 } := by rw [← hh]; exact psVal hB x.lit.natAbs 0 hva
    have hEh2 : Ext (fun x => x = X) h1 h2 := by rw [← hh]; exact Ext.put _ _ rfl
    clear hh
    replace hE := hE.trans hEh2
    clear hB
    have hB := hBh2
    refine S_nil (hK7 _ _ (V_keep [0, 1, 4] (by simp only [proj, lk, reduceIte, Nat.reduceEqDiff]; rfl) ?_)); clear hK7
    refine V_sr T.mix (by kernel_rfl) (fun K8 hK8 => ?_)
    refine S_mv rfl ?_
    refine S_mv rfl ?_
    refine S_nc rfl ?_
    first | refine S_fa0 T.f105_5 rfl ?_ | refine S_fa T.f105_5 rfl ?_
    first | refine S_ixan T.ar50 rfl rfl (by omega) ?_ | refine S_ixa1 T.ar50 rfl rfl (by omega) (by omega) ?_
    refine S_st T.sz3 rfl rfl rfl rfl (by simp (disch := omega) only [rok0 hB, rok hB]) ?_
    generalize hh : putH _ _ _ = h3
    have hBh3 : RB h3 X { Rk with top := m2 - 1, val := up Rk.val x.lit.natAbs 0, lev := up Rk.lev x.lit.natAbs (-1) } := by rw [← hh]; exact psLev hB x.lit.natAbs (-1) hva
    have hEh3 : Ext (fun x => x = X) h2 h3 := by rw [← hh]; exact Ext.put _ _ rfl
    clear hh
    replace hE := hE.trans hEh3
    clear hB
    have hB := hBh3
    refine S_nil (hK8 _ _ (V_keep [0, 1, 4] (by simp only [proj, lk, reduceIte, Nat.reduceEqDiff]; rfl) ?_)); clear hK8
    refine V_sr T.mix (by kernel_rfl) (fun K9 hK9 => ?_)
    refine S_mv rfl ?_
    refine S_mv rfl ?_
    refine S_nc rfl ?_
    first | refine S_fa0 T.f105_6 rfl ?_ | refine S_fa T.f105_6 rfl ?_
    first | refine S_ixan T.ar50 rfl rfl (by omega) ?_ | refine S_ixa1 T.ar50 rfl rfl (by omega) (by omega) ?_
    refine S_st T.sz3 rfl rfl rfl rfl (by simp (disch := omega) only [rok0 hB, rok hB]) ?_
    generalize hh : putH _ _ _ = h4
    have hBh4 : RB h4 X { Rk with top := m2 - 1, val := up Rk.val x.lit.natAbs 0, lev := up Rk.lev x.lit.natAbs (-1), rea := up Rk.rea x.lit.natAbs (-1) } := by rw [← hh]; exact psRea hB x.lit.natAbs (-1) hva
    have hEh4 : Ext (fun x => x = X) h3 h4 := by rw [← hh]; exact Ext.put _ _ rfl
    clear hh
    replace hE := hE.trans hEh4
    clear hB
    have hB := hBh4
    refine S_nil (hK9 _ _ (V_keep [0, 1, 4] (by simp only [proj, lk, reduceIte, Nat.reduceEqDiff]; rfl) ?_)); clear hK9
    refine V_sr T.mix (by kernel_rfl) (fun K10 hK10 => ?_)
    refine S_mv rfl ?_
    refine S_mv rfl ?_
    refine S_nc rfl ?_
    first | refine S_fa0 T.f105_7 rfl ?_ | refine S_fa T.f105_7 rfl ?_
    first | refine S_ixan T.ar50 rfl rfl (by omega) ?_ | refine S_ixa1 T.ar50 rfl rfl (by omega) (by omega) ?_
    refine S_st T.sz3 rfl rfl rfl rfl (by simp (disch := omega) only [rok0 hB, rok hB]) ?_
    generalize hh : putH _ _ _ = h5
    have hBh5 : RB h5 X { Rk with top := m2 - 1, val := up Rk.val x.lit.natAbs 0, lev := up Rk.lev x.lit.natAbs (-1), rea := up Rk.rea x.lit.natAbs (-1), pla := up Rk.pla x.lit.natAbs (-1) } := by rw [← hh]; exact psPla hB x.lit.natAbs (-1) hva
    have hEh5 : Ext (fun x => x = X) h4 h5 := by rw [← hh]; exact Ext.put _ _ rfl
    clear hh
    replace hE := hE.trans hEh5
    clear hB
    have hB := hBh5
    refine S_nil (hK10 _ _ (V_keep [0, 1] (by simp only [proj, lk, reduceIte, Nat.reduceEqDiff]; rfl) ?_)); clear hK10
    refine V_reg T.mix (by kernel_rfl) ?_
    refine S_mv rfl ?_
    refine S_nc rfl ?_
    first | refine S_fa0 T.f105_9 rfl ?_ | refine S_fa T.f105_9 rfl ?_
    refine S_ldK T.ag3 rfl (fun K' hK' => ?_)
    simp (disch := omega) only [rlTop hB, rlCur hB, rlDep hB, rlPops hB, rlStk0 hB, rlStk hB, rlVal hB, rlLev hB, rlRea hB, rlPla hB, rlLim hB, oP_some, Nat.add_zero]
    refine hK' _ ?_; clear hK' K'
    first | refine S_add rfl rfl (by omega) (by omega) ?_ | refine S_bin rfl rfl rfl ?_
    refine S_nc rfl ?_
    first | refine S_fa0 T.f105_9 rfl ?_ | refine S_fa T.f105_9 rfl ?_
    refine S_st T.sz3 rfl rfl rfl rfl (by simp (disch := omega) only [rok0 hB, rok hB]) ?_
    generalize hh : putH _ _ _ = h6
    have hBh6 : RB h6 X { Rk with top := m2 - 1, val := up Rk.val x.lit.natAbs 0, lev := up Rk.lev x.lit.natAbs (-1), rea := up Rk.rea x.lit.natAbs (-1), pla := up Rk.pla x.lit.natAbs (-1), pops := Rk.pops + 1 } := by rw [← hh]; exact psPops hB (Rk.pops + 1)
    have hEh6 : Ext (fun x => x = X) h5 h6 := by rw [← hh]; exact Ext.put _ _ rfl
    clear hh
    replace hE := hE.trans hEh6
    clear hB
    have hB := hBh6
    replace hB : RB h6 X (popR Rk x.lit.natAbs) := by unfold popR; rw [htk]; exact hB
    refine S_nilk [0, 1] (by simp only [proj, lk, reduceIte, Nat.reduceEqDiff]; rfl) ?_
    exact hK2 _ _ ⟨_, by omega, m2 - 1, _, popR Rk x.lit.natAbs, by omega, by omega, hB, hrk2, hd, hl, hc, by simp only [popR]; omega, hE, rfl, rfl, rfl⟩
  · skip
    refine V_exitk [0] rfl (by simp only [proj, lk, reduceIte, Nat.reduceEqDiff]; rfl) ?_
    refine hK1 _ _ ?_; clear hK1
    refine V_sr T.mix (by kernel_rfl) (fun K11 hK11 => ?_)
    refine S_mv rfl ?_
    refine S_nc rfl ?_
    first | refine S_fa0 T.f105_2 rfl ?_ | refine S_fa T.f105_2 rfl ?_
    refine S_ldK T.ag3 rfl (fun K' hK' => ?_)
    simp (disch := omega) only [rlTop hB, rlCur hB, rlDep hB, rlPops hB, rlStk0 hB, rlStk hB, rlVal hB, rlLev hB, rlRea hB, rlPla hB, rlLim hB, oP_some, Nat.add_zero]
    refine hK' _ ?_; clear hK' K'
    refine S_mv rfl ?_
    refine S_nc rfl ?_
    first | refine S_fa0 T.f105_1 rfl ?_ | refine S_fa T.f105_1 rfl ?_
    refine S_ldK T.ag3 rfl (fun K' hK' => ?_)
    simp (disch := omega) only [rlTop hB, rlCur hB, rlDep hB, rlPops hB, rlStk0 hB, rlStk hB, rlVal hB, rlLev hB, rlRea hB, rlPla hB, rlLim hB, oP_some, Nat.add_zero]
    refine hK' _ ?_; clear hK' K'
    refine S_bin rfl rfl rfl ?_
    refine S_nil (hK11 _ _ (V_keep [0, 63] (by simp only [proj, lk, reduceIte, Nat.reduceEqDiff]; rfl) ?_)); clear hK11
    refine V_condp rfl (fun c60 => ?_) (fun c60 => ?_)
    · skip
      refine V_reg T.mix (by kernel_rfl) ?_
      refine S_mv rfl ?_
      refine S_mv rfl ?_
      refine S_nc rfl ?_
      first | refine S_fa0 T.f105_1 rfl ?_ | refine S_fa T.f105_1 rfl ?_
      refine S_ldK T.ag3 rfl (fun K' hK' => ?_)
      simp (disch := omega) only [rlTop hB, rlCur hB, rlDep hB, rlPops hB, rlStk0 hB, rlStk hB, rlVal hB, rlLev hB, rlRea hB, rlPla hB, rlLim hB, oP_some, Nat.add_zero]
      refine hK' _ ?_; clear hK' K'
      refine S_nc rfl ?_
      first | refine S_fa0 T.f105_2 rfl ?_ | refine S_fa T.f105_2 rfl ?_
      refine S_st T.sz3 rfl rfl rfl rfl (by simp (disch := omega) only [rok0 hB, rok hB]) ?_
      generalize hh : putH _ _ _ = h1
      have hBh1 : RB h1 X { Rk with cur := Rk.top } := by rw [← hh]; exact psCur hB Rk.top
      have hEh1 : Ext (fun x => x = X) hk h1 := by rw [← hh]; exact Ext.put _ _ rfl
      clear hh
      replace hE := hE.trans hEh1
      clear hB
      have hB := hBh1
      refine S_nilk [] (by simp only [proj, lk, reduceIte, Nat.reduceEqDiff]; rfl) ?_
      -- end
      refine hR _ _ (ret0 rfl ?_)
      have hmn : m2 = n := by omega
      subst hmn
      refine ⟨rfl, ⟨_, hB, ⟨hrk.top, hrk.stk, hrk.val, hrk.lev, hrk.rea, hrk.pla⟩, hd, hl, ?_, hpp⟩, hE⟩
      simp only []; omega
    · skip
      refine V_skipk [] (by simp only [proj, lk, reduceIte, Nat.reduceEqDiff]; rfl) ?_
      -- end
      refine hR _ _ (ret0 rfl ?_)
      have hmn : m2 = n := by omega
      subst hmn
      exact ⟨rfl, ⟨Rk, hB, hrk, hd, hl, by omega, hpp⟩, hE⟩
end Go.Proofs.Qxb6500401aGreat
