import Derived.Test.Qxb6500401aGreatRb
set_option linter.unusedVariables false
set_option linter.unusedSimpArgs false
namespace Go.Proofs.Qxb6500401aGreat
open Go.Eng Go.Trl
set_option maxHeartbeats 400000 in
theorem level_spec (h : Heap) (X : Nat) (s : TS) (p : Nat) (rs : RS h X s p) :
    FC Tryz.prog 47 (#[.pointer (some ⟨X, 0, none⟩)] : Array Value) h fun v h' => v = .int .i64 (s.k : Int) ∧ h = h' := by
  obtain ⟨Q, hB, hr⟩ := rs
  have hlen := hr.ti.len
  have hdep := hr.ti.dep
  have hcc := hr.ti.c
  have eT := hr.r.top
  have eC := hr.cur
  have eD := hr.dep
  have eP := hr.pops
  have hE := Ext.refl (fun x => x = X) h
  refine FC_of [(0, .pointer (some ⟨X, 0, none⟩))] Tryz.func47 rfl Tryz.ntmps47 (by simp) rfl (fun R hR => ?_)
  refine V_sr T.mix (by kernel_rfl) (fun K1 hK1 => ?_)
  refine S_as rfl ?_
  refine S_nil (hK1 _ _ (V_keep [0] (by simp only [proj, lk, reduceIte, Nat.reduceEqDiff]; rfl) ?_)); clear hK1
  refine V_sr T.mix (by kernel_rfl) (fun K2 hK2 => ?_)
  refine S_mv rfl ?_
  refine S_nc rfl ?_
  first | refine S_fa0 T.f105_3 rfl ?_ | refine S_fa T.f105_3 rfl ?_
  refine S_ldK T.ag3 rfl (fun K' hK' => ?_)
  simp (disch := omega) only [rlTop hB, rlCur hB, rlDep hB, rlPops hB, rlStk0 hB, rlStk hB, rlVal hB, rlLev hB, rlRea hB, rlPla hB, rlLim hB, oP_some, Nat.add_zero]
  refine hK' _ ?_; clear hK' K'
  refine S_as rfl ?_
  refine S_nil (hK2 _ _ (V_keep [2] (by simp only [proj, lk, reduceIte, Nat.reduceEqDiff]; rfl) ?_)); clear hK2
  refine V_ret ?_
  refine hR _ _ (ret1 rfl rfl ?_)
  exact ⟨by first | rw [eD] | rw [eT], rfl⟩
set_option maxHeartbeats 400000 in
theorem len_spec (h : Heap) (X : Nat) (s : TS) (p : Nat) (rs : RS h X s p) :
    FC Tryz.prog 48 (#[.pointer (some ⟨X, 0, none⟩)] : Array Value) h fun v h' => v = .int .i64 (s.L.length : Int) ∧ h = h' := by
  obtain ⟨Q, hB, hr⟩ := rs
  have hlen := hr.ti.len
  have hdep := hr.ti.dep
  have hcc := hr.ti.c
  have eT := hr.r.top
  have eC := hr.cur
  have eD := hr.dep
  have eP := hr.pops
  have hE := Ext.refl (fun x => x = X) h
  refine FC_of [(0, .pointer (some ⟨X, 0, none⟩))] Tryz.func48 rfl Tryz.ntmps48 (by simp) rfl (fun R hR => ?_)
  refine V_sr T.mix (by kernel_rfl) (fun K1 hK1 => ?_)
  refine S_as rfl ?_
  refine S_nil (hK1 _ _ (V_keep [0] (by simp only [proj, lk, reduceIte, Nat.reduceEqDiff]; rfl) ?_)); clear hK1
  refine V_sr T.mix (by kernel_rfl) (fun K2 hK2 => ?_)
  refine S_mv rfl ?_
  refine S_nc rfl ?_
  first | refine S_fa0 T.f105_1 rfl ?_ | refine S_fa T.f105_1 rfl ?_
  refine S_ldK T.ag3 rfl (fun K' hK' => ?_)
  simp (disch := omega) only [rlTop hB, rlCur hB, rlDep hB, rlPops hB, rlStk0 hB, rlStk hB, rlVal hB, rlLev hB, rlRea hB, rlPla hB, rlLim hB, oP_some, Nat.add_zero]
  refine hK' _ ?_; clear hK' K'
  refine S_as rfl ?_
  refine S_nil (hK2 _ _ (V_keep [2] (by simp only [proj, lk, reduceIte, Nat.reduceEqDiff]; rfl) ?_)); clear hK2
  refine V_ret ?_
  refine hR _ _ (ret1 rfl rfl ?_)
  exact ⟨by first | rw [eD] | rw [eT], rfl⟩
set_option maxHeartbeats 400000 in
theorem pending_spec (h : Heap) (X : Nat) (s : TS) (p : Nat) (rs : RS h X s p) :
    FC Tryz.prog 49 (#[.pointer (some ⟨X, 0, none⟩)] : Array Value) h fun v h' => v = .int .i64 ((s.L.length : Int) - s.c) ∧ h = h' := by
  obtain ⟨Q, hB, hr⟩ := rs
  have hlen := hr.ti.len
  have hdep := hr.ti.dep
  have hcc := hr.ti.c
  have eT := hr.r.top
  have eC := hr.cur
  have eD := hr.dep
  have eP := hr.pops
  have hE := Ext.refl (fun x => x = X) h
  refine FC_of [(0, .pointer (some ⟨X, 0, none⟩))] Tryz.func49 rfl Tryz.ntmps49 (by simp) rfl (fun R hR => ?_)
  refine V_sr T.mix (by kernel_rfl) (fun K1 hK1 => ?_)
  refine S_as rfl ?_
  refine S_nil (hK1 _ _ (V_keep [0] (by simp only [proj, lk, reduceIte, Nat.reduceEqDiff]; rfl) ?_)); clear hK1
  refine V_sr T.mix (by kernel_rfl) (fun K2 hK2 => ?_)
  refine S_mv rfl ?_
  refine S_nc rfl ?_
  first | refine S_fa0 T.f105_1 rfl ?_ | refine S_fa T.f105_1 rfl ?_
  refine S_ldK T.ag3 rfl (fun K' hK' => ?_)
  simp (disch := omega) only [rlTop hB, rlCur hB, rlDep hB, rlPops hB, rlStk0 hB, rlStk hB, rlVal hB, rlLev hB, rlRea hB, rlPla hB, rlLim hB, oP_some, Nat.add_zero]
  refine hK' _ ?_; clear hK' K'
  refine S_mv rfl ?_
  refine S_nc rfl ?_
  first | refine S_fa0 T.f105_2 rfl ?_ | refine S_fa T.f105_2 rfl ?_
  refine S_ldK T.ag3 rfl (fun K' hK' => ?_)
  simp (disch := omega) only [rlTop hB, rlCur hB, rlDep hB, rlPops hB, rlStk0 hB, rlStk hB, rlVal hB, rlLev hB, rlRea hB, rlPla hB, rlLim hB, oP_some, Nat.add_zero]
  refine hK' _ ?_; clear hK' K'
  first | refine S_sub rfl rfl (by omega) (by omega) ?_ | refine S_bin rfl rfl rfl ?_
  refine S_as rfl ?_
  refine S_nil (hK2 _ _ (V_keep [2] (by simp only [proj, lk, reduceIte, Nat.reduceEqDiff]; rfl) ?_)); clear hK2
  refine V_ret ?_
  refine hR _ _ (ret1 rfl rfl ?_)
  exact ⟨by rw [eT, eC], rfl⟩
set_option maxHeartbeats 400000 in
theorem at_spec (h : Heap) (X : Nat) (s : TS) (p : Nat) (rs : RS h X s p) (i : Int) :
    FC Tryz.prog 51 (#[.pointer (some ⟨X, 0, none⟩), .int .i64 i] : Array Value) h fun v h' => v = .int .i64 (atL s.L i) ∧ h = h' := by
  obtain ⟨Q, hB, hr⟩ := rs
  have hlen := hr.ti.len
  have hdep := hr.ti.dep
  have hcc := hr.ti.c
  have eT := hr.r.top
  have eC := hr.cur
  have eD := hr.dep
  have eP := hr.pops
  have hE := Ext.refl (fun x => x = X) h
  refine FC_of [(0, .pointer (some ⟨X, 0, none⟩)), (1, .int .i64 i)] Tryz.func51 rfl Tryz.ntmps51 (by simp) rfl (fun R hR => ?_)
  refine V_sr T.mix (by kernel_rfl) (fun K1 hK1 => ?_)
  refine S_as rfl ?_
  refine S_nil (hK1 _ _ (V_keep [0, 1] (by simp only [proj, lk, reduceIte, Nat.reduceEqDiff]; rfl) ?_)); clear hK1
  refine V_seq (fun K2 hK2 => ?_)
  refine V_sr T.mix (by kernel_rfl) (fun K3 hK3 => ?_)
  refine S_mv rfl ?_
  refine S_bin rfl rfl rfl ?_
  refine S_mv rfl ?_
  refine S_dec (fun g146 => ?_) (fun g146 => ?_)
  · skip
    refine S_gf rfl ?_
    refine S_gf rfl ?_
    refine S_gf rfl ?_
    refine S_gf rfl ?_
    refine S_gf rfl ?_
    refine S_gf rfl ?_
    refine S_pt rfl rfl ?_
    refine S_nil (hK3 _ _ (V_keep [0, 1, 14] (by simp only [proj, lk, reduceIte, Nat.reduceEqDiff]; rfl) ?_)); clear hK3
    refine V_condt rfl ?_
    refine V_sr T.mix (by kernel_rfl) (fun K4 hK4 => ?_)
    refine S_as rfl ?_
    refine S_nil (hK4 _ _ (V_keep [4] (by simp only [proj, lk, reduceIte, Nat.reduceEqDiff]; rfl) ?_)); clear hK4
    refine V_ret ?_
    refine hR _ _ (ret1 rfl rfl ?_)
    exact ⟨by unfold atL; rw [if_neg (by omega)], rfl⟩
  · skip
    refine S_gt rfl ?_
    refine S_mv rfl ?_
    refine S_gt rfl ?_
    refine S_mv rfl ?_
    refine S_gt rfl ?_
    refine S_nc rfl ?_
    refine S_gt rfl ?_
    first | refine S_fa0 T.f105_1 rfl ?_ | refine S_fa T.f105_1 rfl ?_
    refine S_gt rfl ?_
    refine S_ldK T.ag3 rfl (fun K' hK' => ?_)
    simp (disch := omega) only [rlTop hB, rlCur hB, rlDep hB, rlPops hB, rlStk0 hB, rlStk hB, rlVal hB, rlLev hB, rlRea hB, rlPla hB, rlLim hB, oP_some, Nat.add_zero]
    refine hK' _ ?_; clear hK' K'
    refine S_gt rfl ?_
    refine S_bin rfl rfl rfl ?_
    refine S_pf rfl rfl ?_
    refine S_nil (hK3 _ _ (V_keep [0, 1, 14] (by simp only [proj, lk, reduceIte, Nat.reduceEqDiff]; rfl) ?_)); clear hK3
    refine V_condp rfl (fun c146 => ?_) (fun c146 => ?_)
    · skip
      refine V_sr T.mix (by kernel_rfl) (fun K5 hK5 => ?_)
      refine S_as rfl ?_
      refine S_nil (hK5 _ _ (V_keep [4] (by simp only [proj, lk, reduceIte, Nat.reduceEqDiff]; rfl) ?_)); clear hK5
      refine V_ret ?_
      refine hR _ _ (ret1 rfl rfl ?_)
      exact ⟨by unfold atL; rw [if_neg (by omega)], rfl⟩
    · skip
      refine V_skipk [0, 1] (by simp only [proj, lk, reduceIte, Nat.reduceEqDiff]; rfl) ?_
      refine hK2 _ _ ?_; clear hK2
      refine V_sr T.mix (by kernel_rfl) (fun K6 hK6 => ?_)
      refine S_mv rfl ?_
      refine S_mv rfl ?_
      refine S_nc rfl ?_
      first | refine S_fa0 T.f105_0 rfl ?_ | refine S_fa T.f105_0 rfl ?_
      obtain ⟨n, rfl⟩ : ∃ n : Nat, i = n := ⟨i.toNat, by omega⟩
      refine S_ixan T.ar101 rfl rfl (by omega) ?_
      refine S_ldK T.ag3 rfl (fun K' hK' => ?_)
      simp (disch := omega) only [rlTop hB, rlCur hB, rlDep hB, rlPops hB, rlStk0 hB, rlStk hB, rlVal hB, rlLev hB, rlRea hB, rlPla hB, rlLim hB, oP_some, Nat.add_zero]
      refine hK' _ ?_; clear hK' K'
      refine S_as rfl ?_
      refine S_nil (hK6 _ _ (V_keep [4] (by simp only [proj, lk, reduceIte, Nat.reduceEqDiff]; rfl) ?_)); clear hK6
      refine V_ret ?_
      refine hR _ _ (ret1 rfl rfl ?_)
      exact ⟨by unfold atL; rw [if_pos (by omega), hr.r.stk n (by omega), Int.toNat_natCast], rfl⟩
set_option maxHeartbeats 400000 in
theorem levelof_spec (h : Heap) (X : Nat) (s : TS) (p : Nat) (rs : RS h X s p) (v : Int) :
    FC Tryz.prog 54 (#[.pointer (some ⟨X, 0, none⟩), .int .i64 v] : Array Value) h fun rv h' => rv = .int .i64 (levV s.L v) ∧ h = h' := by
  obtain ⟨Q, hB, hr⟩ := rs
  have hlen := hr.ti.len
  have hdep := hr.ti.dep
  have hcc := hr.ti.c
  have eT := hr.r.top
  have eC := hr.cur
  have eD := hr.dep
  have eP := hr.pops
  have hE := Ext.refl (fun x => x = X) h
  refine FC_of [(0, .pointer (some ⟨X, 0, none⟩)), (1, .int .i64 v)] Tryz.func54 rfl Tryz.ntmps54 (by simp) rfl (fun R hR => ?_)
  refine V_sr T.mix (by kernel_rfl) (fun K1 hK1 => ?_)
  refine S_as rfl ?_
  refine S_nil (hK1 _ _ (V_keep [0, 1] (by simp only [proj, lk, reduceIte, Nat.reduceEqDiff]; rfl) ?_)); clear hK1
  refine V_seq (fun K2 hK2 => ?_)
  refine V_sr T.mix (by kernel_rfl) (fun K3 hK3 => ?_)
  refine S_mv rfl ?_
  refine S_call T.hb83 rfl ?_
  refine FC.mono (isvar_spec _ v) ?_
  rintro v' h' ⟨rfl, rfl⟩
  refine S_notb rfl ?_
  refine S_nil (hK3 _ _ (V_keep [0, 1, 7] (by simp only [proj, lk, reduceIte, Nat.reduceEqDiff]; rfl) ?_)); clear hK3
  refine V_condb rfl (fun c157 => ?_) (fun c157 => ?_)
  · skip
    refine V_sr T.mix (by kernel_rfl) (fun K4 hK4 => ?_)
    refine S_as rfl ?_
    refine S_nil (hK4 _ _ (V_keep [4] (by simp only [proj, lk, reduceIte, Nat.reduceEqDiff]; rfl) ?_)); clear hK4
    refine V_ret ?_
    refine hR _ _ (ret1 rfl rfl ?_)
    simp only [Bool.not_eq_true', decide_eq_false_iff_not] at c157
    have hnv := new_val (bad_new hr.ti (v := v) (by omega))
    exact ⟨by simp only [hnv], rfl⟩
  · skip
    refine V_skipk [0, 1] (by simp only [proj, lk, reduceIte, Nat.reduceEqDiff]; rfl) ?_
    refine hK2 _ _ ?_; clear hK2
    refine V_sr T.mix (by kernel_rfl) (fun K5 hK5 => ?_)
    refine S_mv rfl ?_
    refine S_mv rfl ?_
    refine S_nc rfl ?_
    first | refine S_fa0 T.f105_5 rfl ?_ | refine S_fa T.f105_5 rfl ?_
    simp only [Bool.not_eq_false', decide_eq_true_eq] at c157
    obtain ⟨n, rfl⟩ : ∃ n : Nat, v = n := ⟨v.toNat, by omega⟩
    refine S_ixan T.ar50 rfl rfl (by omega) ?_
    refine S_ldK T.ag3 rfl (fun K' hK' => ?_)
    simp (disch := omega) only [rlTop hB, rlCur hB, rlDep hB, rlPops hB, rlStk0 hB, rlStk hB, rlVal hB, rlLev hB, rlRea hB, rlPla hB, rlLim hB, oP_some, Nat.add_zero]
    refine hK' _ ?_; clear hK' K'
    refine S_as rfl ?_
    refine S_nil (hK5 _ _ (V_keep [4] (by simp only [proj, lk, reduceIte, Nat.reduceEqDiff]; rfl) ?_)); clear hK5
    refine V_ret ?_
    refine hR _ _ (ret1 rfl rfl ?_)
    exact ⟨by rw [hr.r.lev n (by omega)], rfl⟩
set_option maxHeartbeats 400000 in
theorem reason_spec (h : Heap) (X : Nat) (s : TS) (p : Nat) (rs : RS h X s p) (v : Int) :
    FC Tryz.prog 53 (#[.pointer (some ⟨X, 0, none⟩), .int .i64 v] : Array Value) h fun rv h' => rv = .int .i64 (reaV s.L v) ∧ h = h' := by
  obtain ⟨Q, hB, hr⟩ := rs
  have hlen := hr.ti.len
  have hdep := hr.ti.dep
  have hcc := hr.ti.c
  have eT := hr.r.top
  have eC := hr.cur
  have eD := hr.dep
  have eP := hr.pops
  have hE := Ext.refl (fun x => x = X) h
  refine FC_of [(0, .pointer (some ⟨X, 0, none⟩)), (1, .int .i64 v)] Tryz.func53 rfl Tryz.ntmps53 (by simp) rfl (fun R hR => ?_)
  refine V_sr T.mix (by kernel_rfl) (fun K1 hK1 => ?_)
  refine S_as rfl ?_
  refine S_nil (hK1 _ _ (V_keep [0, 1] (by simp only [proj, lk, reduceIte, Nat.reduceEqDiff]; rfl) ?_)); clear hK1
  refine V_seq (fun K2 hK2 => ?_)
  refine V_sr T.mix (by kernel_rfl) (fun K3 hK3 => ?_)
  refine S_mv rfl ?_
  refine S_call T.hb83 rfl ?_
  refine FC.mono (isvar_spec _ v) ?_
  rintro v' h' ⟨rfl, rfl⟩
  refine S_notb rfl ?_
  refine S_nil (hK3 _ _ (V_keep [0, 1, 7] (by simp only [proj, lk, reduceIte, Nat.reduceEqDiff]; rfl) ?_)); clear hK3
  refine V_condb rfl (fun c165 => ?_) (fun c165 => ?_)
  · skip
    refine V_sr T.mix (by kernel_rfl) (fun K4 hK4 => ?_)
    refine S_as rfl ?_
    refine S_nil (hK4 _ _ (V_keep [4] (by simp only [proj, lk, reduceIte, Nat.reduceEqDiff]; rfl) ?_)); clear hK4
    refine V_ret ?_
    refine hR _ _ (ret1 rfl rfl ?_)
    simp only [Bool.not_eq_true', decide_eq_false_iff_not] at c165
    have hnv := new_val (bad_new hr.ti (v := v) (by omega))
    exact ⟨by simp only [hnv], rfl⟩
  · skip
    refine V_skipk [0, 1] (by simp only [proj, lk, reduceIte, Nat.reduceEqDiff]; rfl) ?_
    refine hK2 _ _ ?_; clear hK2
    refine V_sr T.mix (by kernel_rfl) (fun K5 hK5 => ?_)
    refine S_mv rfl ?_
    refine S_mv rfl ?_
    refine S_nc rfl ?_
    first | refine S_fa0 T.f105_6 rfl ?_ | refine S_fa T.f105_6 rfl ?_
    simp only [Bool.not_eq_false', decide_eq_true_eq] at c165
    obtain ⟨n, rfl⟩ : ∃ n : Nat, v = n := ⟨v.toNat, by omega⟩
    refine S_ixan T.ar50 rfl rfl (by omega) ?_
    refine S_ldK T.ag3 rfl (fun K' hK' => ?_)
    simp (disch := omega) only [rlTop hB, rlCur hB, rlDep hB, rlPops hB, rlStk0 hB, rlStk hB, rlVal hB, rlLev hB, rlRea hB, rlPla hB, rlLim hB, oP_some, Nat.add_zero]
    refine hK' _ ?_; clear hK' K'
    refine S_as rfl ?_
    refine S_nil (hK5 _ _ (V_keep [4] (by simp only [proj, lk, reduceIte, Nat.reduceEqDiff]; rfl) ?_)); clear hK5
    refine V_ret ?_
    refine hR _ _ (ret1 rfl rfl ?_)
    exact ⟨by rw [hr.r.rea n (by omega)], rfl⟩
set_option maxHeartbeats 400000 in
theorem place_spec (h : Heap) (X : Nat) (s : TS) (p : Nat) (rs : RS h X s p) (v : Int) :
    FC Tryz.prog 146 (#[.pointer (some ⟨X, 0, none⟩), .int .i64 v] : Array Value) h fun rv h' => rv = .int .i64 (plaV s.L v) ∧ h = h' := by
  obtain ⟨Q, hB, hr⟩ := rs
  have hlen := hr.ti.len
  have hdep := hr.ti.dep
  have hcc := hr.ti.c
  have eT := hr.r.top
  have eC := hr.cur
  have eD := hr.dep
  have eP := hr.pops
  have hE := Ext.refl (fun x => x = X) h
  refine FC_of [(0, .pointer (some ⟨X, 0, none⟩)), (1, .int .i64 v)] Tryz.func146 rfl Tryz.ntmps146 (by simp) rfl (fun R hR => ?_)
  refine V_sr T.mix (by kernel_rfl) (fun K1 hK1 => ?_)
  refine S_as rfl ?_
  refine S_nil (hK1 _ _ (V_keep [0, 1] (by simp only [proj, lk, reduceIte, Nat.reduceEqDiff]; rfl) ?_)); clear hK1
  refine V_seq (fun K2 hK2 => ?_)
  refine V_sr T.mix (by kernel_rfl) (fun K3 hK3 => ?_)
  refine S_mv rfl ?_
  refine S_call T.hb83 rfl ?_
  refine FC.mono (isvar_spec _ v) ?_
  rintro v' h' ⟨rfl, rfl⟩
  refine S_notb rfl ?_
  refine S_nil (hK3 _ _ (V_keep [0, 1, 7] (by simp only [proj, lk, reduceIte, Nat.reduceEqDiff]; rfl) ?_)); clear hK3
  refine V_condb rfl (fun c173 => ?_) (fun c173 => ?_)
  · skip
    refine V_sr T.mix (by kernel_rfl) (fun K4 hK4 => ?_)
    refine S_as rfl ?_
    refine S_nil (hK4 _ _ (V_keep [4] (by simp only [proj, lk, reduceIte, Nat.reduceEqDiff]; rfl) ?_)); clear hK4
    refine V_ret ?_
    refine hR _ _ (ret1 rfl rfl ?_)
    simp only [Bool.not_eq_true', decide_eq_false_iff_not] at c173
    have hnv := new_val (bad_new hr.ti (v := v) (by omega))
    exact ⟨by simp only [hnv], rfl⟩
  · skip
    refine V_skipk [0, 1] (by simp only [proj, lk, reduceIte, Nat.reduceEqDiff]; rfl) ?_
    refine hK2 _ _ ?_; clear hK2
    refine V_sr T.mix (by kernel_rfl) (fun K5 hK5 => ?_)
    refine S_mv rfl ?_
    refine S_mv rfl ?_
    refine S_nc rfl ?_
    first | refine S_fa0 T.f105_7 rfl ?_ | refine S_fa T.f105_7 rfl ?_
    simp only [Bool.not_eq_false', decide_eq_true_eq] at c173
    obtain ⟨n, rfl⟩ : ∃ n : Nat, v = n := ⟨v.toNat, by omega⟩
    refine S_ixan T.ar50 rfl rfl (by omega) ?_
    refine S_ldK T.ag3 rfl (fun K' hK' => ?_)
    simp (disch := omega) only [rlTop hB, rlCur hB, rlDep hB, rlPops hB, rlStk0 hB, rlStk hB, rlVal hB, rlLev hB, rlRea hB, rlPla hB, rlLim hB, oP_some, Nat.add_zero]
    refine hK' _ ?_; clear hK' K'
    refine S_as rfl ?_
    refine S_nil (hK5 _ _ (V_keep [4] (by simp only [proj, lk, reduceIte, Nat.reduceEqDiff]; rfl) ?_)); clear hK5
    refine V_ret ?_
    refine hR _ _ (ret1 rfl rfl ?_)
    exact ⟨by rw [hr.r.pla n (by omega)], rfl⟩
set_option maxHeartbeats 400000 in
theorem value_spec (h : Heap) (X : Nat) (s : TS) (p : Nat) (rs : RS h X s p) (lt : Int) :
    FC Tryz.prog 75 (#[.pointer (some ⟨X, 0, none⟩), .int .i64 lt] : Array Value) h fun v h' => v = .int .i64 (valO s lt) ∧ h = h' := by
  obtain ⟨Q, hB, hr⟩ := rs
  have hlen := hr.ti.len
  have hdep := hr.ti.dep
  have hcc := hr.ti.c
  have eT := hr.r.top
  have eC := hr.cur
  have eD := hr.dep
  have eP := hr.pops
  have hE := Ext.refl (fun x => x = X) h
  refine FC_of [(0, .pointer (some ⟨X, 0, none⟩)), (1, .int .i64 lt)] Tryz.func75 rfl Tryz.ntmps75 (by simp) rfl (fun R hR => ?_)
  refine V_sr T.mix (by kernel_rfl) (fun K1 hK1 => ?_)
  refine S_as rfl ?_
  refine S_nil (hK1 _ _ (V_keep [0, 1] (by simp only [proj, lk, reduceIte, Nat.reduceEqDiff]; rfl) ?_)); clear hK1
  refine V_seq (fun K2 hK2 => ?_)
  refine V_sr T.mix (by kernel_rfl) (fun K3 hK3 => ?_)
  refine S_mv rfl ?_
  refine S_call T.hb100 rfl ?_
  refine FC.mono (goodlit_spec _ lt) ?_
  rintro v' h' ⟨g, rfl, hg, rfl⟩
  refine S_notb rfl ?_
  refine S_nil (hK3 _ _ (V_keep [0, 1, 7] (by simp only [proj, lk, reduceIte, Nat.reduceEqDiff]; rfl) ?_)); clear hK3
  refine V_condb rfl (fun c126 => ?_) (fun c126 => ?_)
  · skip
    simp only [Bool.not_eq_true'] at c126
    have hng : ¬ good lt := fun e => by rw [hg.2 e] at c126; cases c126
    unfold good at hng
    refine V_sr T.mix (by kernel_rfl) (fun K4 hK4 => ?_)
    refine S_as rfl ?_
    refine S_nil (hK4 _ _ (V_keep [4] (by simp only [proj, lk, reduceIte, Nat.reduceEqDiff]; rfl) ?_)); clear hK4
    refine V_ret ?_
    refine hR _ _ (ret1 rfl rfl ?_)
    exact ⟨by unfold valO; rw [if_neg hng], rfl⟩
  · skip
    simp only [Bool.not_eq_false'] at c126
    have hgl := hg.1 c126
    have hgl2 := hgl
    unfold good at hgl2
    refine V_skipk [0, 1] (by simp only [proj, lk, reduceIte, Nat.reduceEqDiff]; rfl) ?_
    refine hK2 _ _ ?_; clear hK2
    refine V_seq (fun K5 hK5 => ?_)
    refine V_sr T.mix (by kernel_rfl) (fun K6 hK6 => ?_)
    refine S_mv rfl ?_
    refine S_bin rfl rfl rfl ?_
    refine S_nil (hK6 _ _ (V_keep [0, 1, 9] (by simp only [proj, lk, reduceIte, Nat.reduceEqDiff]; rfl) ?_)); clear hK6
    refine V_condp rfl (fun c129 => ?_) (fun c129 => ?_)
    · skip
      refine V_sr T.mix (by kernel_rfl) (fun K7 hK7 => ?_)
      refine S_mv rfl ?_
      refine S_mv rfl ?_
      first | refine S_neg rfl (by omega) (by omega) ?_ | refine S_un rfl rfl ?_
      refine S_nc rfl ?_
      first | refine S_fa0 T.f105_4 rfl ?_ | refine S_fa T.f105_4 rfl ?_
      obtain ⟨n, hn⟩ : ∃ n : Nat, -lt = n := ⟨(-lt).toNat, by omega⟩
      rw [hn]
      refine S_ixan T.ar103 rfl rfl (by omega) ?_
      refine S_ldK T.ag102 rfl (fun K' hK' => ?_)
      simp (disch := omega) only [rlTop hB, rlCur hB, rlDep hB, rlPops hB, rlStk0 hB, rlStk hB, rlVal hB, rlLev hB, rlRea hB, rlPla hB, rlLim hB, oP_some, Nat.add_zero]
      refine hK' _ ?_; clear hK' K'
      rw [hr.r.val n (by omega)]
      have hvr := valV_range s.L n
      first | refine S_cvi T.us102 T.in3 rfl (by omega) (by omega) ?_ | refine S_cv T.us102 T.in3 rfl ?_
      first | refine S_neg rfl (by omega) (by omega) ?_ | refine S_un rfl rfl ?_
      refine S_as rfl ?_
      refine S_nil (hK7 _ _ (V_keep [4] (by simp only [proj, lk, reduceIte, Nat.reduceEqDiff]; rfl) ?_)); clear hK7
      refine V_ret ?_
      refine hR _ _ (ret1 rfl rfl ?_)
      exact ⟨by unfold valO valL; rw [if_pos hgl2, if_pos c129, hn], rfl⟩
    · skip
      refine V_skipk [0, 1] (by simp only [proj, lk, reduceIte, Nat.reduceEqDiff]; rfl) ?_
      refine hK5 _ _ ?_; clear hK5
      refine V_sr T.mix (by kernel_rfl) (fun K8 hK8 => ?_)
      refine S_mv rfl ?_
      refine S_mv rfl ?_
      refine S_nc rfl ?_
      first | refine S_fa0 T.f105_4 rfl ?_ | refine S_fa T.f105_4 rfl ?_
      obtain ⟨n, rfl⟩ : ∃ n : Nat, lt = n := ⟨lt.toNat, by omega⟩
      refine S_ixan T.ar103 rfl rfl (by omega) ?_
      refine S_ldK T.ag102 rfl (fun K' hK' => ?_)
      simp (disch := omega) only [rlTop hB, rlCur hB, rlDep hB, rlPops hB, rlStk0 hB, rlStk hB, rlVal hB, rlLev hB, rlRea hB, rlPla hB, rlLim hB, oP_some, Nat.add_zero]
      refine hK' _ ?_; clear hK' K'
      rw [hr.r.val n (by omega)]
      have hvr := valV_range s.L n
      first | refine S_cvi T.us102 T.in3 rfl (by omega) (by omega) ?_ | refine S_cv T.us102 T.in3 rfl ?_
      refine S_as rfl ?_
      refine S_nil (hK8 _ _ (V_keep [4] (by simp only [proj, lk, reduceIte, Nat.reduceEqDiff]; rfl) ?_)); clear hK8
      refine V_ret ?_
      refine hR _ _ (ret1 rfl rfl ?_)
      exact ⟨by unfold valO valL; rw [if_pos hgl2, if_neg (by omega)], rfl⟩
set_option maxHeartbeats 400000 in
theorem take_spec (h : Heap) (X : Nat) (s : TS) (p : Nat) (rs : RS h X s p) :
    FC Tryz.prog 121 (#[.pointer (some ⟨X, 0, none⟩)] : Array Value) h fun rv h' => rv = .int .i64 (takeV s) ∧ RS h' X (takeS s) (p) ∧ Ext (fun x => x = X) h h' := by
  obtain ⟨Q, hB, hr⟩ := rs
  have hlen := hr.ti.len
  have hdep := hr.ti.dep
  have hcc := hr.ti.c
  have eT := hr.r.top
  have eC := hr.cur
  have eD := hr.dep
  have eP := hr.pops
  have hE := Ext.refl (fun x => x = X) h
  refine FC_of [(0, .pointer (some ⟨X, 0, none⟩))] Tryz.func121 rfl Tryz.ntmps121 (by simp) rfl (fun R hR => ?_)
  refine V_sr T.mix (by kernel_rfl) (fun K1 hK1 => ?_)
  refine S_as rfl ?_
  refine S_nil (hK1 _ _ (V_keep [0] (by simp only [proj, lk, reduceIte, Nat.reduceEqDiff]; rfl) ?_)); clear hK1
  refine V_seq (fun K2 hK2 => ?_)
  refine V_sr T.mix (by kernel_rfl) (fun K3 hK3 => ?_)
  refine S_mv rfl ?_
  refine S_nc rfl ?_
  first | refine S_fa0 T.f105_2 rfl ?_ | refine S_fa T.f105_2 rfl ?_
  refine S_ldK T.ag3 rfl (fun K' hK' => ?_)
  simp (disch := omega) only [rlTop hB, rlCur hB, rlDep hB, rlPops hB, rlStk0 hB, rlStk hB, rlVal hB, rlLev hB, rlRea hB, rlPla hB, rlLim hB, oP_some, Nat.add_zero]
  refine hK' _ ?_; clear hK' K'
  refine S_mv rfl ?_
  refine S_nc rfl ?_
  first | refine S_fa0 T.f105_1 rfl ?_ | refine S_fa T.f105_1 rfl ?_
  refine S_ldK T.ag3 rfl (fun K' hK' => ?_)
  simp (disch := omega) only [rlTop hB, rlCur hB, rlDep hB, rlPops hB, rlStk0 hB, rlStk hB, rlVal hB, rlLev hB, rlRea hB, rlPla hB, rlLim hB, oP_some, Nat.add_zero]
  refine hK' _ ?_; clear hK' K'
  refine S_bin rfl rfl rfl ?_
  refine S_nil (hK3 _ _ (V_keep [0, 12] (by simp only [proj, lk, reduceIte, Nat.reduceEqDiff]; rfl) ?_)); clear hK3
  refine V_condp rfl (fun c116 => ?_) (fun c116 => ?_)
  · skip
    refine V_sr T.mix (by kernel_rfl) (fun K4 hK4 => ?_)
    refine S_as rfl ?_
    refine S_nil (hK4 _ _ (V_keep [2] (by simp only [proj, lk, reduceIte, Nat.reduceEqDiff]; rfl) ?_)); clear hK4
    refine V_ret ?_
    refine hR _ _ (ret1 rfl rfl ?_)
    exact ⟨by unfold takeV; rw [if_neg (by omega)], ⟨Q, hB, by unfold takeS; rw [if_neg (by omega)]; exact hr⟩, hE⟩
  · skip
    refine V_skipk [0] (by simp only [proj, lk, reduceIte, Nat.reduceEqDiff]; rfl) ?_
    refine hK2 _ _ ?_; clear hK2
    refine V_sr T.mix (by kernel_rfl) (fun K5 hK5 => ?_)
    refine S_mv rfl ?_
    refine S_mv rfl ?_
    refine S_nc rfl ?_
    first | refine S_fa0 T.f105_2 rfl ?_ | refine S_fa T.f105_2 rfl ?_
    refine S_ldK T.ag3 rfl (fun K' hK' => ?_)
    simp (disch := omega) only [rlTop hB, rlCur hB, rlDep hB, rlPops hB, rlStk0 hB, rlStk hB, rlVal hB, rlLev hB, rlRea hB, rlPla hB, rlLim hB, oP_some, Nat.add_zero]
    refine hK' _ ?_; clear hK' K'
    refine S_nc rfl ?_
    first | refine S_fa0 T.f105_0 rfl ?_ | refine S_fa T.f105_0 rfl ?_
    first | refine S_ixan T.ar101 rfl rfl (by omega) ?_ | refine S_ixa1 T.ar101 rfl rfl (by omega) (by omega) ?_
    refine S_ldK T.ag3 rfl (fun K' hK' => ?_)
    simp (disch := omega) only [rlTop hB, rlCur hB, rlDep hB, rlPops hB, rlStk0 hB, rlStk hB, rlVal hB, rlLev hB, rlRea hB, rlPla hB, rlLim hB, oP_some, Nat.add_zero]
    refine hK' _ ?_; clear hK' K'
    refine S_as rfl ?_
    refine S_nil (hK5 _ _ (V_keep [0, 3] (by simp only [proj, lk, reduceIte, Nat.reduceEqDiff]; rfl) ?_)); clear hK5
    refine V_sr T.mix (by kernel_rfl) (fun K6 hK6 => ?_)
    refine S_mv rfl ?_
    refine S_nc rfl ?_
    first | refine S_fa0 T.f105_2 rfl ?_ | refine S_fa T.f105_2 rfl ?_
    refine S_ldK T.ag3 rfl (fun K' hK' => ?_)
    simp (disch := omega) only [rlTop hB, rlCur hB, rlDep hB, rlPops hB, rlStk0 hB, rlStk hB, rlVal hB, rlLev hB, rlRea hB, rlPla hB, rlLim hB, oP_some, Nat.add_zero]
    refine hK' _ ?_; clear hK' K'
    first | refine S_add rfl rfl (by omega) (by omega) ?_ | refine S_bin rfl rfl rfl ?_
    refine S_nc rfl ?_
    first | refine S_fa0 T.f105_2 rfl ?_ | refine S_fa T.f105_2 rfl ?_
    refine S_st T.sz3 rfl rfl rfl rfl (by simp (disch := omega) only [rok0 hB, rok hB]) ?_
    generalize hh : putH _ _ _ = h1
    have hBh1 : RB h1 X { Q with cur := Q.cur + 1 } := by rw [← hh]; exact psCur hB (Q.cur + 1)
    have hEh1 : Ext (fun x => x = X) h h1 := by rw [← hh]; exact Ext.put _ _ rfl
    clear hh
    replace hE := hE.trans hEh1
    clear hB
    have hB := hBh1
    refine S_nil (hK6 _ _ (V_keep [3] (by simp only [proj, lk, reduceIte, Nat.reduceEqDiff]; rfl) ?_)); clear hK6
    refine V_sr T.mix (by kernel_rfl) (fun K7 hK7 => ?_)
    refine S_mv rfl ?_
    refine S_as rfl ?_
    refine S_nil (hK7 _ _ (V_keep [2] (by simp only [proj, lk, reduceIte, Nat.reduceEqDiff]; rfl) ?_)); clear hK7
    refine V_ret ?_
    refine hR _ _ (ret1 rfl rfl ?_)
    have hlt : s.c < s.L.length := by omega
    refine ⟨by unfold takeV; rw [if_pos hlt, eC, hr.r.stk _ (by omega)], ⟨_, hB, ?_⟩, hE⟩
    unfold takeS; rw [if_pos hlt]
    exact ⟨⟨hr.r.top, hr.r.stk, hr.r.val, hr.r.lev, hr.r.rea, hr.r.pla⟩, hr.dep, by simp only []; omega, hr.pops, hr.lim, hr.ti.cur (by simp only []; omega)⟩
set_option maxHeartbeats 400000 in
theorem reset_spec (h : Heap) (X : Nat) (s : TS) (p : Nat) (rs : RS h X s p) (hp : p ≤ 1000000000000000000) :
    FC Tryz.prog 88 (#[.pointer (some ⟨X, 0, none⟩)] : Array Value) h fun rv h' => rv = .tuple #[] ∧ RS h' X (⟨[], 0, 0⟩) (p + s.L.length) ∧ Ext (fun x => x = X) h h' := by
  obtain ⟨Q, hB, hr⟩ := rs
  have hlen := hr.ti.len
  have hdep := hr.ti.dep
  have hcc := hr.ti.c
  have eT := hr.r.top
  have eC := hr.cur
  have eD := hr.dep
  have eP := hr.pops
  have hE := Ext.refl (fun x => x = X) h
  refine FC_of [(0, .pointer (some ⟨X, 0, none⟩))] Tryz.func88 rfl Tryz.ntmps88 (by simp) rfl (fun R hR => ?_)
  refine V_sr T.mix (by kernel_rfl) (fun K1 hK1 => ?_)
  refine S_mv rfl ?_
  refine S_call T.hb115 rfl ?_
  refine FC.mono (popto_spec h X Q s.L s.k s.c 0 hB hr.r hr.ti (by omega) (by omega)) ?_
  rintro v' h1 ⟨rfl, ⟨Q1, hB1, hr1, hd1, hl1, hc1, hp1⟩, hE1⟩
  clear hB
  have hB := hB1
  replace hE := hE.trans hE1
  rw [List.take_zero] at hr1
  refine S_nil (hK1 _ _ (V_keep [0] (by simp only [proj, lk, reduceIte, Nat.reduceEqDiff]; rfl) ?_)); clear hK1
  refine V_reg T.mix (by kernel_rfl) ?_
  refine S_mv rfl ?_
  refine S_nc rfl ?_
  first | refine S_fa0 T.f105_3 rfl ?_ | refine S_fa T.f105_3 rfl ?_
  refine S_st T.sz3 rfl rfl rfl rfl (by simp (disch := omega) only [rok0 hB, rok hB]) ?_
  generalize hh : putH _ _ _ = h2
  have hBh2 : RB h2 X { Q1 with dep := 0 } := by rw [← hh]; exact psDep hB 0
  have hEh2 : Ext (fun x => x = X) h1 h2 := by rw [← hh]; exact Ext.put _ _ rfl
  clear hh
  replace hE := hE.trans hEh2
  clear hB
  have hB := hBh2
  refine S_nilk [] (by simp only [proj, lk, reduceIte, Nat.reduceEqDiff]; rfl) ?_
  -- end
  refine hR _ _ (ret0 rfl ?_)
  exact ⟨rfl, ⟨_, hB, ⟨⟨hr1.top, hr1.stk, hr1.val, hr1.lev, hr1.rea, hr1.pla⟩, rfl, by simp only []; omega, by simp only []; omega, fun j h1 h2 => by simp only at h2; omega, TI.zero⟩⟩, hE⟩
set_option maxHeartbeats 400000 in
theorem decide_spec (h : Heap) (X : Nat) (s : TS) (p : Nat) (rs : RS h X s p) (lt : Int) :
    FC Tryz.prog 64 (#[.pointer (some ⟨X, 0, none⟩), .int .i64 lt] : Array Value) h fun rv h' => rv = .int .i64 ((decE s lt : Nat) : Int) ∧ RS h' X (decS s lt) (p) ∧ Ext (fun x => x = X) h h' := by
  obtain ⟨Q, hB, hr⟩ := rs
  have hlen := hr.ti.len
  have hdep := hr.ti.dep
  have hcc := hr.ti.c
  have eT := hr.r.top
  have eC := hr.cur
  have eD := hr.dep
  have eP := hr.pops
  have hE := Ext.refl (fun x => x = X) h
  refine FC_of [(0, .pointer (some ⟨X, 0, none⟩)), (1, .int .i64 lt)] Tryz.func64 rfl Tryz.ntmps64 (by simp) rfl (fun R hR => ?_)
  refine V_sr T.mix (by kernel_rfl) (fun K1 hK1 => ?_)
  refine S_as rfl ?_
  refine S_nil (hK1 _ _ (V_keep [0, 1] (by simp only [proj, lk, reduceIte, Nat.reduceEqDiff]; rfl) ?_)); clear hK1
  refine V_seq (fun K2 hK2 => ?_)
  refine V_sr T.mix (by kernel_rfl) (fun K3 hK3 => ?_)
  refine S_mv rfl ?_
  refine S_call T.hb100 rfl ?_
  refine FC.mono (goodlit_spec _ lt) ?_
  rintro v' h' ⟨g, rfl, hg, rfl⟩
  refine S_notb rfl ?_
  refine S_nil (hK3 _ _ (V_keep [0, 1, 8] (by simp only [proj, lk, reduceIte, Nat.reduceEqDiff]; rfl) ?_)); clear hK3
  refine V_condb rfl (fun c73 => ?_) (fun c73 => ?_)
  · skip
    simp only [Bool.not_eq_true'] at c73
    have hng : ¬ good lt := fun e => by rw [hg.2 e] at c73; cases c73
    unfold good at hng
    refine V_sr T.mix (by kernel_rfl) (fun K4 hK4 => ?_)
    refine S_as rfl ?_
    refine S_nil (hK4 _ _ (V_keep [4] (by simp only [proj, lk, reduceIte, Nat.reduceEqDiff]; rfl) ?_)); clear hK4
    refine V_ret ?_
    refine hR _ _ (ret1 rfl rfl ?_)
    have e1 : decE s lt = 7 := by unfold decE; rw [if_neg hng]
    exact ⟨by rw [e1]; rfl, ⟨Q, hB, by unfold decS; rw [e1]; exact hr⟩, hE⟩
  · skip
    simp only [Bool.not_eq_false'] at c73
    have hgl := hg.1 c73
    have hgl2 := hgl
    unfold good at hgl2
    refine V_skipk [0, 1] (by simp only [proj, lk, reduceIte, Nat.reduceEqDiff]; rfl) ?_
    refine hK2 _ _ ?_; clear hK2
    refine V_sr T.mix (by kernel_rfl) (fun K5 hK5 => ?_)
    refine S_mv rfl ?_
    refine S_call T.hb52 rfl ?_
    refine FC.mono (var_spec _ lt (by omega) (by omega)) ?_
    rintro v' h' ⟨rfl, rfl⟩
    refine S_as rfl ?_
    refine S_nil (hK5 _ _ (V_keep [0, 1, 5] (by simp only [proj, lk, reduceIte, Nat.reduceEqDiff]; rfl) ?_)); clear hK5
    refine V_seq (fun K6 hK6 => ?_)
    refine V_sr T.mix (by kernel_rfl) (fun K7 hK7 => ?_)
    refine S_mv rfl ?_
    refine S_mv rfl ?_
    refine S_nc rfl ?_
    first | refine S_fa0 T.f105_4 rfl ?_ | refine S_fa T.f105_4 rfl ?_
    first | refine S_ixan T.ar103 rfl rfl (by omega) ?_ | refine S_ixa1 T.ar103 rfl rfl (by omega) (by omega) ?_
    refine S_ldK T.ag102 rfl (fun K' hK' => ?_)
    simp (disch := omega) only [rlTop hB, rlCur hB, rlDep hB, rlPops hB, rlStk0 hB, rlStk hB, rlVal hB, rlLev hB, rlRea hB, rlPla hB, rlLim hB, oP_some, Nat.add_zero]
    refine hK' _ ?_; clear hK' K'
    rw [hr.r.val lt.natAbs (by omega)]
    have hva : valV s.L (vr lt) = valV s.L (lt.natAbs : Int) := by rw [vr_abs]
    refine S_bin rfl rfl rfl ?_
    refine S_nil (hK7 _ _ (V_keep [0, 1, 5, 17] (by simp only [proj, lk, reduceIte, Nat.reduceEqDiff]; rfl) ?_)); clear hK7
    refine V_condp rfl (fun c77 => ?_) (fun c77 => ?_)
    · skip
      refine V_sr T.mix (by kernel_rfl) (fun K8 hK8 => ?_)
      refine S_as rfl ?_
      refine S_nil (hK8 _ _ (V_keep [4] (by simp only [proj, lk, reduceIte, Nat.reduceEqDiff]; rfl) ?_)); clear hK8
      refine V_ret ?_
      refine hR _ _ (ret1 rfl rfl ?_)
      have e1 : decE s lt = 9 := by unfold decE; rw [if_pos hgl2, if_pos (by omega)]
      exact ⟨by rw [e1]; rfl, ⟨Q, hB, by unfold decS; rw [e1]; exact hr⟩, hE⟩
    · skip
      have hnw : New s.L (vr lt) := val_new.1 (by omega)
      have hl12 : s.L.length < 12 := by
        have h13 := TI.len (TI.app (k' := s.k) hr.ti (x := ⟨lt, s.k, -1⟩) hgl (by simp) hnw (.inl rfl) rfl)
        simp at h13; omega
      refine V_skipk [0, 1, 5] (by simp only [proj, lk, reduceIte, Nat.reduceEqDiff]; rfl) ?_
      refine hK6 _ _ ?_; clear hK6
      refine V_sr T.mix (by kernel_rfl) (fun K9 hK9 => ?_)
      refine S_mv rfl ?_
      refine S_nc rfl ?_
      first | refine S_fa0 T.f105_3 rfl ?_ | refine S_fa T.f105_3 rfl ?_
      refine S_ldK T.ag3 rfl (fun K' hK' => ?_)
      simp (disch := omega) only [rlTop hB, rlCur hB, rlDep hB, rlPops hB, rlStk0 hB, rlStk hB, rlVal hB, rlLev hB, rlRea hB, rlPla hB, rlLim hB, oP_some, Nat.add_zero]
      refine hK' _ ?_; clear hK' K'
      refine S_addN (Q.dep + 1) rfl rfl (by omega) (by omega) ?_
      refine S_nc rfl ?_
      first | refine S_fa0 T.f105_3 rfl ?_ | refine S_fa T.f105_3 rfl ?_
      refine S_st T.sz3 rfl rfl rfl rfl (by simp (disch := omega) only [rok0 hB, rok hB]) ?_
      generalize hh : putH _ _ _ = h1
      have hBh1 : RB h1 X { Q with dep := Q.dep + 1 } := by rw [← hh]; exact psDep hB (Q.dep + 1)
      have hEh1 : Ext (fun x => x = X) h h1 := by rw [← hh]; exact Ext.put _ _ rfl
      clear hh
      replace hE := hE.trans hEh1
      clear hB
      have hB := hBh1
      refine S_nil (hK9 _ _ (V_keep [0, 1, 5] (by simp only [proj, lk, reduceIte, Nat.reduceEqDiff]; rfl) ?_)); clear hK9
      refine V_sr T.mix (by kernel_rfl) (fun K10 hK10 => ?_)
      refine S_mv rfl ?_
      refine S_mv rfl ?_
      refine S_nc rfl ?_
      first | refine S_fa0 T.f105_3 rfl ?_ | refine S_fa T.f105_3 rfl ?_
      refine S_ldK T.ag3 rfl (fun K' hK' => ?_)
      simp (disch := omega) only [rlTop hB, rlCur hB, rlDep hB, rlPops hB, rlStk0 hB, rlStk hB, rlVal hB, rlLev hB, rlRea hB, rlPla hB, rlLim hB, oP_some, Nat.add_zero]
      refine hK' _ ?_; clear hK' K'
      refine S_mv rfl ?_
      refine S_nc rfl ?_
      first | refine S_fa0 T.f105_1 rfl ?_ | refine S_fa T.f105_1 rfl ?_
      refine S_ldK T.ag3 rfl (fun K' hK' => ?_)
      simp (disch := omega) only [rlTop hB, rlCur hB, rlDep hB, rlPops hB, rlStk0 hB, rlStk hB, rlVal hB, rlLev hB, rlRea hB, rlPla hB, rlLim hB, oP_some, Nat.add_zero]
      refine hK' _ ?_; clear hK' K'
      refine S_nc rfl ?_
      first | refine S_fa0 T.f105_8 rfl ?_ | refine S_fa T.f105_8 rfl ?_
      first | refine S_ixan T.ar50 rfl rfl (by omega) ?_ | refine S_ixa1 T.ar50 rfl rfl (by omega) (by omega) ?_
      refine S_st T.sz3 rfl rfl rfl rfl (by simp (disch := omega) only [rok0 hB, rok hB]) ?_
      generalize hh : putH _ _ _ = h2
      have hBh2 : RB h2 X { Q with dep := Q.dep + 1, lim := up Q.lim (Q.dep + 1) Q.top } := by rw [← hh]; exact psLim hB (Q.dep + 1) (Q.top : Int) (by omega)
      have hEh2 : Ext (fun x => x = X) h1 h2 := by rw [← hh]; exact Ext.put _ _ rfl
      clear hh
      replace hE := hE.trans hEh2
      clear hB
      have hB := hBh2
      refine S_nil (hK10 _ _ (V_keep [0, 1, 5] (by simp only [proj, lk, reduceIte, Nat.reduceEqDiff]; rfl) ?_)); clear hK10
      refine V_sr T.mix (by kernel_rfl) (fun K11 hK11 => ?_)
      refine S_mv rfl ?_
      refine S_mv rfl ?_
      refine S_mv rfl ?_
      refine S_call T.hb101 rfl ?_
      refine FC.mono (join_spec h2 X { Q with dep := Q.dep + 1, lim := up Q.lim (Q.dep + 1) Q.top } lt lt.natAbs (-1) hB (by first | omega | (simp only []; omega)) (by omega)) ?_
      rintro v' h3 ⟨rfl, hB1, hE1⟩
      replace hE := hE.trans hE1
      clear hB
      have hB := hB1
      refine S_nil (hK11 _ _ (V_keep [] (by simp only [proj, lk, reduceIte, Nat.reduceEqDiff]; rfl) ?_)); clear hK11
      refine V_sr T.mix (by kernel_rfl) (fun K12 hK12 => ?_)
      refine S_as rfl ?_
      refine S_nil (hK12 _ _ (V_keep [4] (by simp only [proj, lk, reduceIte, Nat.reduceEqDiff]; rfl) ?_)); clear hK12
      refine V_ret ?_
      refine hR _ _ (ret1 rfl rfl ?_)
      have e1 : decE s lt = 0 := by unfold decE; rw [if_pos hgl2, if_neg (by omega)]
      have hok : Ok (decS s lt) := Ok.dec hr.ti lt
      have e2 : decS s lt = ⟨s.L ++ [⟨lt, s.k + 1, -1⟩], s.k + 1, s.c⟩ := by unfold decS; rw [if_pos e1]
      rw [e2] at hok ⊢
      have hrp : RelP { Q with dep := Q.dep + 1, lim := up Q.lim (Q.dep + 1) Q.top } s.L := ⟨hr.r.top, hr.r.stk, hr.r.val, hr.r.lev, hr.r.rea, hr.r.pla⟩
      have hj := hrp.join (l := lt) (r := -1) hnw
      simp only [eD] at hj
      refine ⟨by rw [e1]; rfl, ⟨_, hB, ⟨by simpa [eD] using hj, by simp [joinR]; omega, hr.cur, hr.pops, fun j h1 h2 => ?_, hok⟩⟩, hE⟩
      simp only [joinR]
      simp only at h2
      rw [cnt_app]
      simp only []
      by_cases e : j = Q.dep + 1
      · rw [e, up_self, if_neg (by omega), cnt_all hr.ti.lv (by omega)]; omega
      · rw [up_ne e, if_neg (by omega), hr.lim j h1 (by omega)]; omega
set_option maxHeartbeats 400000 in
theorem assign_spec (h : Heap) (X : Nat) (s : TS) (p : Nat) (rs : RS h X s p) (lt r : Int) :
    FC Tryz.prog 138 (#[.pointer (some ⟨X, 0, none⟩), .int .i64 lt, .int .i64 r] : Array Value) h fun rv h' => rv = .int .i64 ((asgE s lt r : Nat) : Int) ∧ RS h' X (asgS s lt r) (p) ∧ Ext (fun x => x = X) h h' := by
  obtain ⟨Q, hB, hr⟩ := rs
  have hlen := hr.ti.len
  have hdep := hr.ti.dep
  have hcc := hr.ti.c
  have eT := hr.r.top
  have eC := hr.cur
  have eD := hr.dep
  have eP := hr.pops
  have hE := Ext.refl (fun x => x = X) h
  refine FC_of [(0, .pointer (some ⟨X, 0, none⟩)), (1, .int .i64 lt), (2, .int .i64 r)] Tryz.func138 rfl Tryz.ntmps138 (by simp) rfl (fun R hR => ?_)
  refine V_sr T.mix (by kernel_rfl) (fun K1 hK1 => ?_)
  refine S_as rfl ?_
  refine S_nil (hK1 _ _ (V_keep [0, 1, 2] (by simp only [proj, lk, reduceIte, Nat.reduceEqDiff]; rfl) ?_)); clear hK1
  refine V_seq (fun K2 hK2 => ?_)
  refine V_sr T.mix (by kernel_rfl) (fun K3 hK3 => ?_)
  refine S_mv rfl ?_
  refine S_call T.hb100 rfl ?_
  refine FC.mono (goodlit_spec _ lt) ?_
  rintro v' h' ⟨g, rfl, hg, rfl⟩
  refine S_notb rfl ?_
  refine S_nil (hK3 _ _ (V_keep [0, 1, 2, 10] (by simp only [proj, lk, reduceIte, Nat.reduceEqDiff]; rfl) ?_)); clear hK3
  refine V_condb rfl (fun c88 => ?_) (fun c88 => ?_)
  · skip
    simp only [Bool.not_eq_true'] at c88
    have hng : ¬ good lt := fun e => by rw [hg.2 e] at c88; cases c88
    unfold good at hng
    refine V_sr T.mix (by kernel_rfl) (fun K4 hK4 => ?_)
    refine S_as rfl ?_
    refine S_nil (hK4 _ _ (V_keep [6] (by simp only [proj, lk, reduceIte, Nat.reduceEqDiff]; rfl) ?_)); clear hK4
    refine V_ret ?_
    refine hR _ _ (ret1 rfl rfl ?_)
    have e1 : asgE s lt r = 7 := by unfold asgE; rw [if_neg hng]
    exact ⟨by rw [e1]; rfl, ⟨Q, hB, by unfold asgS; rw [e1]; exact hr⟩, hE⟩
  · skip
    simp only [Bool.not_eq_false'] at c88
    have hgl := hg.1 c88
    have hgl2 := hgl
    unfold good at hgl2
    refine V_skipk [0, 1, 2] (by simp only [proj, lk, reduceIte, Nat.reduceEqDiff]; rfl) ?_
    refine hK2 _ _ ?_; clear hK2
    refine V_seq (fun K5 hK5 => ?_)
    refine V_sr T.mix (by kernel_rfl) (fun K6 hK6 => ?_)
    refine S_mv rfl ?_
    refine S_bin rfl rfl rfl ?_
    refine S_nil (hK6 _ _ (V_keep [0, 1, 2, 12] (by simp only [proj, lk, reduceIte, Nat.reduceEqDiff]; rfl) ?_)); clear hK6
    refine V_condp rfl (fun c91 => ?_) (fun c91 => ?_)
    · skip
      refine V_sr T.mix (by kernel_rfl) (fun K7 hK7 => ?_)
      refine S_as rfl ?_
      refine S_nil (hK7 _ _ (V_keep [6] (by simp only [proj, lk, reduceIte, Nat.reduceEqDiff]; rfl) ?_)); clear hK7
      refine V_ret ?_
      refine hR _ _ (ret1 rfl rfl ?_)
      have e1 : asgE s lt r = 11 := by unfold asgE; rw [if_pos hgl2, if_pos (by omega)]
      exact ⟨by rw [e1]; rfl, ⟨Q, hB, by unfold asgS; rw [e1]; exact hr⟩, hE⟩
    · skip
      refine V_skipk [0, 1, 2] (by simp only [proj, lk, reduceIte, Nat.reduceEqDiff]; rfl) ?_
      refine hK5 _ _ ?_; clear hK5
      refine V_sr T.mix (by kernel_rfl) (fun K8 hK8 => ?_)
      refine S_mv rfl ?_
      refine S_call T.hb52 rfl ?_
      refine FC.mono (var_spec _ lt (by omega) (by omega)) ?_
      rintro v' h' ⟨rfl, rfl⟩
      refine S_as rfl ?_
      refine S_nil (hK8 _ _ (V_keep [0, 1, 2, 7] (by simp only [proj, lk, reduceIte, Nat.reduceEqDiff]; rfl) ?_)); clear hK8
      refine V_seq (fun K9 hK9 => ?_)
      refine V_sr T.mix (by kernel_rfl) (fun K10 hK10 => ?_)
      refine S_mv rfl ?_
      refine S_mv rfl ?_
      refine S_nc rfl ?_
      first | refine S_fa0 T.f105_4 rfl ?_ | refine S_fa T.f105_4 rfl ?_
      first | refine S_ixan T.ar103 rfl rfl (by omega) ?_ | refine S_ixa1 T.ar103 rfl rfl (by omega) (by omega) ?_
      refine S_ldK T.ag102 rfl (fun K' hK' => ?_)
      simp (disch := omega) only [rlTop hB, rlCur hB, rlDep hB, rlPops hB, rlStk0 hB, rlStk hB, rlVal hB, rlLev hB, rlRea hB, rlPla hB, rlLim hB, oP_some, Nat.add_zero]
      refine hK' _ ?_; clear hK' K'
      rw [hr.r.val lt.natAbs (by omega)]
      have hva : valV s.L (vr lt) = valV s.L (lt.natAbs : Int) := by rw [vr_abs]
      refine S_bin rfl rfl rfl ?_
      refine S_nil (hK10 _ _ (V_keep [0, 1, 2, 7, 21] (by simp only [proj, lk, reduceIte, Nat.reduceEqDiff]; rfl) ?_)); clear hK10
      refine V_condp rfl (fun c95 => ?_) (fun c95 => ?_)
      · skip
        refine V_sr T.mix (by kernel_rfl) (fun K11 hK11 => ?_)
        refine S_as rfl ?_
        refine S_nil (hK11 _ _ (V_keep [6] (by simp only [proj, lk, reduceIte, Nat.reduceEqDiff]; rfl) ?_)); clear hK11
        refine V_ret ?_
        refine hR _ _ (ret1 rfl rfl ?_)
        have e1 : asgE s lt r = 9 := by unfold asgE; rw [if_pos hgl2, if_neg (by omega), if_pos (by omega)]
        exact ⟨by rw [e1]; rfl, ⟨Q, hB, by unfold asgS; rw [e1]; exact hr⟩, hE⟩
      · skip
        have hnw : New s.L (vr lt) := val_new.1 (by omega)
        have hl12 : s.L.length < 12 := by
          have h13 := TI.len (TI.app (k' := s.k) hr.ti (x := ⟨lt, s.k, -1⟩) hgl (by simp) hnw (.inl rfl) rfl)
          simp at h13; omega
        refine V_skipk [0, 1, 2, 7] (by simp only [proj, lk, reduceIte, Nat.reduceEqDiff]; rfl) ?_
        refine hK9 _ _ ?_; clear hK9
        refine V_sr T.mix (by kernel_rfl) (fun K12 hK12 => ?_)
        refine S_mv rfl ?_
        refine S_mv rfl ?_
        refine S_mv rfl ?_
        refine S_mv rfl ?_
        refine S_call T.hb101 rfl ?_
        refine FC.mono (join_spec h X Q lt lt.natAbs r hB (by first | omega | (simp only []; omega)) (by omega)) ?_
        rintro v' h1 ⟨rfl, hB1, hE1⟩
        replace hE := hE.trans hE1
        clear hB
        have hB := hB1
        refine S_nil (hK12 _ _ (V_keep [] (by simp only [proj, lk, reduceIte, Nat.reduceEqDiff]; rfl) ?_)); clear hK12
        refine V_sr T.mix (by kernel_rfl) (fun K13 hK13 => ?_)
        refine S_as rfl ?_
        refine S_nil (hK13 _ _ (V_keep [6] (by simp only [proj, lk, reduceIte, Nat.reduceEqDiff]; rfl) ?_)); clear hK13
        refine V_ret ?_
        refine hR _ _ (ret1 rfl rfl ?_)
        have e1 : asgE s lt r = 0 := by unfold asgE; rw [if_pos hgl2, if_neg (by omega), if_neg (by omega)]
        have hok : Ok (asgS s lt r) := Ok.asg hr.ti lt r
        have e2 : asgS s lt r = ⟨s.L ++ [⟨lt, s.k, r⟩], s.k, s.c⟩ := by unfold asgS; rw [if_pos e1]
        rw [e2] at hok ⊢
        have hj := hr.r.join (l := lt) (r := r) hnw
        rw [eD] at hj
        refine ⟨by rw [e1]; rfl, ⟨_, hB, ⟨hj, hr.dep, hr.cur, hr.pops, fun j h1 h2 => ?_, hok⟩⟩, hE⟩
        simp only [joinR]
        simp only at h2
        rw [cnt_app]
        simp only []
        rw [if_neg (by omega), hr.lim j h1 h2]; omega
set_option maxHeartbeats 400000 in
theorem backjump_spec (h : Heap) (X : Nat) (s : TS) (p : Nat) (rs : RS h X s p) (lv : Int) (hp : p ≤ 1000000000000000000) :
    FC Tryz.prog 129 (#[.pointer (some ⟨X, 0, none⟩), .int .i64 lv] : Array Value) h fun rv h' => rv = .int .i64 ((bjE s lv : Nat) : Int) ∧ RS h' X (bjS s lv) (p + (s.L.length - (bjS s lv).L.length)) ∧ Ext (fun x => x = X) h h' := by
  obtain ⟨Q, hB, hr⟩ := rs
  have hlen := hr.ti.len
  have hdep := hr.ti.dep
  have hcc := hr.ti.c
  have eT := hr.r.top
  have eC := hr.cur
  have eD := hr.dep
  have eP := hr.pops
  have hE := Ext.refl (fun x => x = X) h
  refine FC_of [(0, .pointer (some ⟨X, 0, none⟩)), (1, .int .i64 lv)] Tryz.func129 rfl Tryz.ntmps129 (by simp) rfl (fun R hR => ?_)
  refine V_sr T.mix (by kernel_rfl) (fun K1 hK1 => ?_)
  refine S_as rfl ?_
  refine S_nil (hK1 _ _ (V_keep [0, 1] (by simp only [proj, lk, reduceIte, Nat.reduceEqDiff]; rfl) ?_)); clear hK1
  refine V_seq (fun K2 hK2 => ?_)
  refine V_sr T.mix (by kernel_rfl) (fun K3 hK3 => ?_)
  refine S_mv rfl ?_
  refine S_bin rfl rfl rfl ?_
  refine S_mv rfl ?_
  refine S_dec (fun g104 => ?_) (fun g104 => ?_)
  · skip
    refine S_gf rfl ?_
    refine S_gf rfl ?_
    refine S_gf rfl ?_
    refine S_gf rfl ?_
    refine S_gf rfl ?_
    refine S_gf rfl ?_
    refine S_pt rfl rfl ?_
    refine S_nil (hK3 _ _ (V_keep [0, 1, 14] (by simp only [proj, lk, reduceIte, Nat.reduceEqDiff]; rfl) ?_)); clear hK3
    refine V_condt rfl ?_
    refine V_sr T.mix (by kernel_rfl) (fun K4 hK4 => ?_)
    refine S_as rfl ?_
    refine S_nil (hK4 _ _ (V_keep [4] (by simp only [proj, lk, reduceIte, Nat.reduceEqDiff]; rfl) ?_)); clear hK4
    refine V_ret ?_
    refine hR _ _ (ret1 rfl rfl ?_)
    exact ⟨by rw [show bjE s lv = 10 by unfold bjE; rw [if_pos (by omega)]]; rfl, ⟨Q, hB, by rw [show bjS s lv = s by unfold bjS; rw [show bjE s lv = 10 by unfold bjE; rw [if_pos (by omega)]]; rfl, Nat.sub_self, Nat.add_zero]; exact hr⟩, hE⟩
  · skip
    refine S_gt rfl ?_
    refine S_mv rfl ?_
    refine S_gt rfl ?_
    refine S_mv rfl ?_
    refine S_gt rfl ?_
    refine S_nc rfl ?_
    refine S_gt rfl ?_
    first | refine S_fa0 T.f105_3 rfl ?_ | refine S_fa T.f105_3 rfl ?_
    refine S_gt rfl ?_
    refine S_ldK T.ag3 rfl (fun K' hK' => ?_)
    simp (disch := omega) only [rlTop hB, rlCur hB, rlDep hB, rlPops hB, rlStk0 hB, rlStk hB, rlVal hB, rlLev hB, rlRea hB, rlPla hB, rlLim hB, oP_some, Nat.add_zero]
    refine hK' _ ?_; clear hK' K'
    refine S_gt rfl ?_
    refine S_bin rfl rfl rfl ?_
    refine S_pf rfl rfl ?_
    refine S_nil (hK3 _ _ (V_keep [0, 1, 14] (by simp only [proj, lk, reduceIte, Nat.reduceEqDiff]; rfl) ?_)); clear hK3
    refine V_condp rfl (fun c104 => ?_) (fun c104 => ?_)
    · skip
      refine V_sr T.mix (by kernel_rfl) (fun K5 hK5 => ?_)
      refine S_as rfl ?_
      refine S_nil (hK5 _ _ (V_keep [4] (by simp only [proj, lk, reduceIte, Nat.reduceEqDiff]; rfl) ?_)); clear hK5
      refine V_ret ?_
      refine hR _ _ (ret1 rfl rfl ?_)
      exact ⟨by rw [show bjE s lv = 10 by unfold bjE; rw [if_pos (by omega)]]; rfl, ⟨Q, hB, by rw [show bjS s lv = s by unfold bjS; rw [show bjE s lv = 10 by unfold bjE; rw [if_pos (by omega)]]; rfl, Nat.sub_self, Nat.add_zero]; exact hr⟩, hE⟩
    · skip
      refine V_skipk [0, 1] (by simp only [proj, lk, reduceIte, Nat.reduceEqDiff]; rfl) ?_
      refine hK2 _ _ ?_; clear hK2
      refine V_seq (fun K6 hK6 => ?_)
      refine V_sr T.mix (by kernel_rfl) (fun K7 hK7 => ?_)
      refine S_mv rfl ?_
      refine S_mv rfl ?_
      refine S_nc rfl ?_
      first | refine S_fa0 T.f105_3 rfl ?_ | refine S_fa T.f105_3 rfl ?_
      refine S_ldK T.ag3 rfl (fun K' hK' => ?_)
      simp (disch := omega) only [rlTop hB, rlCur hB, rlDep hB, rlPops hB, rlStk0 hB, rlStk hB, rlVal hB, rlLev hB, rlRea hB, rlPla hB, rlLim hB, oP_some, Nat.add_zero]
      refine hK' _ ?_; clear hK' K'
      refine S_bin rfl rfl rfl ?_
      refine S_nil (hK7 _ _ (V_keep [0, 1, 20] (by simp only [proj, lk, reduceIte, Nat.reduceEqDiff]; rfl) ?_)); clear hK7
      refine V_condp rfl (fun c107 => ?_) (fun c107 => ?_)
      · skip
        obtain ⟨j, rfl⟩ : ∃ j : Nat, lv = j := ⟨lv.toNat, by omega⟩
        have hlim := hr.lim (j + 1) (by omega) (by omega)
        have hcl := cnt_le s.L ((j : Int) + 1)
        refine V_sr T.mix (by kernel_rfl) (fun K8 hK8 => ?_)
        refine S_mv rfl ?_
        refine S_mv rfl ?_
        refine S_mv rfl ?_
        refine S_addN (j + 1) rfl rfl (by omega) (by omega) ?_
        refine S_nc rfl ?_
        first | refine S_fa0 T.f105_8 rfl ?_ | refine S_fa T.f105_8 rfl ?_
        first | refine S_ixan T.ar50 rfl rfl (by omega) ?_ | refine S_ixa1 T.ar50 rfl rfl (by omega) (by omega) ?_
        refine S_ldK T.ag3 rfl (fun K' hK' => ?_)
        simp (disch := omega) only [rlTop hB, rlCur hB, rlDep hB, rlPops hB, rlStk0 hB, rlStk hB, rlVal hB, rlLev hB, rlRea hB, rlPla hB, rlLim hB, oP_some, Nat.add_zero]
        refine hK' _ ?_; clear hK' K'
        rw [hlim]
        refine S_call T.hb115 rfl ?_
        refine FC.mono (popto_spec h X Q s.L s.k s.c (cnt s.L ((j + 1 : Nat) : Int)) hB hr.r hr.ti (cnt_le _ _) (by omega)) ?_
        rintro v' h1 ⟨rfl, ⟨Q1, hB1, hr1, hd1, hl1, hc1, hp1⟩, hE1⟩
        clear hB
        have hB := hB1
        replace hE := hE.trans hE1
        refine S_nil (hK8 _ _ (V_keep [0, 1] (by simp only [proj, lk, reduceIte, Nat.reduceEqDiff]; rfl) ?_)); clear hK8
        refine V_reg T.mix (by kernel_rfl) ?_
        refine S_mv rfl ?_
        refine S_mv rfl ?_
        refine S_nc rfl ?_
        first | refine S_fa0 T.f105_3 rfl ?_ | refine S_fa T.f105_3 rfl ?_
        refine S_st T.sz3 rfl rfl rfl rfl (by simp (disch := omega) only [rok0 hB, rok hB]) ?_
        generalize hh : putH _ _ _ = h2
        have hBh2 : RB h2 X { Q1 with dep := j } := by rw [← hh]; exact psDep hB j
        have hEh2 : Ext (fun x => x = X) h1 h2 := by rw [← hh]; exact Ext.put _ _ rfl
        clear hh
        replace hE := hE.trans hEh2
        clear hB
        have hB := hBh2
        refine S_nilk [] (by simp only [proj, lk, reduceIte, Nat.reduceEqDiff]; rfl) ?_
        refine hK6 _ _ ?_; clear hK6
        refine V_sr T.mix (by kernel_rfl) (fun K9 hK9 => ?_)
        refine S_as rfl ?_
        refine S_nil (hK9 _ _ (V_keep [4] (by simp only [proj, lk, reduceIte, Nat.reduceEqDiff]; rfl) ?_)); clear hK9
        refine V_ret ?_
        refine hR _ _ (ret1 rfl rfl ?_)
        have e1 : bjE s (j : Int) = 0 := by unfold bjE; rw [if_neg (by omega)]
        have hok : Ok (bjS s (j : Int)) := Ok.bj hr.ti j
        have e2 : bjS s (j : Int) = ⟨backL s.L j, j, min s.c (cnt s.L ((j : Int) + 1))⟩ := by unfold bjS; rw [if_pos e1]; simp
        rw [e2] at hok ⊢
        have hcast : ((j + 1 : Nat) : Int) = (j : Int) + 1 := by omega
        rw [hcast] at hr1 hc1 hp1
        have hbl : (backL s.L (j : Int)).length = cnt s.L ((j : Int) + 1) := by unfold backL; rw [List.length_take]; omega
        refine ⟨by rw [e1]; rfl, ⟨_, hB, ⟨⟨hr1.top, hr1.stk, hr1.val, hr1.lev, hr1.rea, hr1.pla⟩, rfl, by simp only []; omega, by simp only []; rw [hbl]; omega, fun i h1 h2 => ?_, hok⟩⟩, hE⟩
        simp only at h2 ⊢
        rw [hl1, hr.lim i h1 (by omega)]
        have hft := (cnt_take ((j : Int) + 1) hr.ti.lv).1
        unfold backL cnt
        rw [← show _ = List.take (List.filter (fun x => decide (x.lev < (j : Int) + 1)) s.L).length s.L from hft, List.filter_filter]
        congr 1; congr 1
        apply List.filter_congr
        intro x _
        by_cases e : x.lev < (i : Int)
        · simp [e]; omega
        · simp [e]
      · skip
        refine V_skipk [] (by simp only [proj, lk, reduceIte, Nat.reduceEqDiff]; rfl) ?_
        refine hK6 _ _ ?_; clear hK6
        refine V_sr T.mix (by kernel_rfl) (fun K10 hK10 => ?_)
        refine S_as rfl ?_
        refine S_nil (hK10 _ _ (V_keep [4] (by simp only [proj, lk, reduceIte, Nat.reduceEqDiff]; rfl) ?_)); clear hK10
        refine V_ret ?_
        refine hR _ _ (ret1 rfl rfl ?_)
        have e1 : bjE s lv = 0 := by unfold bjE; rw [if_neg (by omega)]
        have hlk : lv = s.k := by omega
        subst hlk
        have e3 : cnt s.L ((s.k : Int) + 1) = s.L.length := cnt_all hr.ti.lv (by omega)
        have e2 : bjS s (s.k : Int) = s := by unfold bjS backL; rw [if_pos e1, e3, List.take_length, Nat.min_eq_left hcc]; simp
        exact ⟨by rw [e1]; rfl, ⟨Q, hB, by rw [e2, Nat.sub_self, Nat.add_zero]; exact hr⟩, hE⟩
end Go.Proofs.Qxb6500401aGreat
