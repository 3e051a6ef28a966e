import Derived.Test.Qxb6500402aWc
set_option linter.unusedVariables false
set_option linter.unusedSimpArgs false
namespace Go.Proofs.Qxb6500402a
open Go.Eng Go.Trl

def Z0 : RC := ⟨fun _ => 0, 0, 0, 0, fun _ => 0, fun _ => 0, fun _ => 0, fun _ => 0, fun _ => 0, 0⟩
theorem z81 : (#[.int .i64 0, .int .i64 0, .int .i64 0, .int .i64 0, .int .i64 0, .int .i64 0, .int .i64 0, .int .i64 0, .int .i64 0, .int .i64 0, .int .i64 0, .int .i64 0, .int .i64 0, .int .i64 0, .int .i64 0, .int .i8 0, .int .i8 0, .int .i8 0, .int .i8 0, .int .i8 0, .int .i8 0, .int .i8 0, .int .i8 0, .int .i8 0, .int .i8 0, .int .i8 0, .int .i8 0, .int .i8 0, .int .i64 0, .int .i64 0, .int .i64 0, .int .i64 0, .int .i64 0, .int .i64 0, .int .i64 0, .int .i64 0, .int .i64 0, .int .i64 0, .int .i64 0, .int .i64 0, .int .i64 0, .int .i64 0, .int .i64 0, .int .i64 0, .int .i64 0, .int .i64 0, .int .i64 0, .int .i64 0, .int .i64 0, .int .i64 0, .int .i64 0, .int .i64 0, .int .i64 0, .int .i64 0, .int .i64 0, .int .i64 0, .int .i64 0, .int .i64 0, .int .i64 0, .int .i64 0, .int .i64 0, .int .i64 0, .int .i64 0, .int .i64 0, .int .i64 0, .int .i64 0, .int .i64 0, .int .i64 0, .int .i64 0, .int .i64 0, .int .i64 0, .int .i64 0, .int .i64 0, .int .i64 0, .int .i64 0, .int .i64 0, .int .i64 0, .int .i64 0, .int .i64 0, .int .i64 0, .int .i64 0] : Array Value) = arr 81 (rcell Z0) := by kernel_rfl
theorem nset_le (L : List It) (n : Nat) : nset L n ≤ n := by unfold nset; have := List.length_filter_le (fun v : Nat => decide (valV L (v : Int) ≠ 0)) (List.range n); simpa using this
def Zk (i : Nat) (a b : Nat → Int) : RC := ⟨fun _ => 0, 0, 0, 0, fun _ => 0, a, b, fun j => if j < i then -1 else 0, fun _ => 0, 0⟩
def neg (i : Nat) : Nat → Int := fun j => if j < i then -1 else 0
theorem up_neg (i : Nat) : up (neg i) i (-1) = neg (i + 1) := by
  funext j; unfold up neg
  by_cases e : j = i
  · subst e; simp
  · rw [if_neg e]; by_cases e2 : j < i
    · rw [if_pos e2, if_pos (by omega)]
    · rw [if_neg e2, if_neg (by omega)]
theorem fit_val {R : RC} {L : List It} {k c i : Nat} {x : It} (hr : RelP R L) (ti : TI L k c) (hx : L[i]? = some x) : R.stk i = x.lit ∧ R.val x.lit.natAbs = (if x.lit < 0 then -1 else 1) ∧ R.pla x.lit.natAbs = i ∧ R.rea x.lit.natAbs = x.rea ∧ R.lev x.lit.natAbs = x.lev ∧ x.lit.natAbs ≤ 12 ∧ good x.lit ∧ -1 ≤ x.rea := by
  have hi : i < L.length := by
    rcases Nat.lt_or_ge i L.length with y | y
    · exact y
    · simp [List.getElem?_eq_none y] at hx
  have hg := ti.g x (List.mem_of_getElem? hx)
  have hl := ti.loc hx
  have hgv := good_vr hg.1
  rw [vr_abs] at hl hgv
  have h12 : x.lit.natAbs ≤ 12 := by omega
  refine ⟨by rw [hr.stk i hi]; simp [hx], by rw [hr.val _ h12]; unfold valV; rw [hl], by rw [hr.pla _ h12]; unfold plaV; rw [hl], by rw [hr.rea _ h12]; unfold reaV; rw [hl], by rw [hr.lev _ h12]; unfold levV; rw [hl], h12, hg.1, hg.2⟩
set_option maxHeartbeats 400000 in
theorem new_spec (h : Heap) :
    FC Try.prog 9 (#[] : Array Value) h fun v h' => v = .pointer (some ⟨h.size, 0, none⟩) ∧ RS h' h.size ⟨[], 0, 0⟩ 0 ∧ Ext (fun _ => False) h h' := by
  refine FC_of [] Try.func9 rfl Try.ntmps9 (by simp) rfl (fun R hR => ?_)
  refine V_sr T.mix (by kernel_rfl) (fun K1 hK1 => ?_)
  refine S_as rfl ?_
  refine S_nil (hK1 _ _ (V_keep [] (by simp only [proj, lk, reduceIte, Nat.reduceEqDiff]; rfl) ?_)); clear hK1
  refine V_sr T.mix (by kernel_rfl) (fun K2 hK2 => ?_)
  refine S_bld rfl (T.bld47) ?_
  refine S_boxA rfl ?_
  generalize hh : Array.push h _ = h1
  have hB0 : RB h1 h.size Z0 := by rw [← hh]; exact (B.new h _ 47).cong z81
  have hE1 : Ext (fun _ => False) h h1 := by rw [← hh]; exact Ext.push _ _ _
  clear hh
  generalize hX : h.size = X at hB0 ⊢
  refine S_as rfl ?_
  refine S_nil (hK2 _ _ (V_keep [1] (by simp only [proj, lk, reduceIte, Nat.reduceEqDiff]; rfl) ?_)); clear hK2
  refine V_seq (fun K3 hK3 => ?_)
  refine V_sr T.mix (by kernel_rfl) (fun K4 hK4 => ?_)
  refine S_as rfl ?_
  refine S_nil (hK4 _ _ (V_keep [1, 2] (by simp only [proj, lk, reduceIte, Nat.reduceEqDiff]; rfl) ?_)); clear hK4
  refine V_block ?_
  refine V_loop (fun m l h' => ∃ (i : Nat) (hk : Heap), (i ≤ 13) ∧ (RB hk X (⟨fun _ => 0, 0, 0, 0, fun _ => 0, neg i, neg i, neg i, fun _ => 0, 0⟩ : RC)) ∧ (Ext (fun x => x = X) h1 hk) ∧ m = 13 - i ∧ l = [(1, .pointer (some ⟨X, 0, none⟩)), (2, .int .i64 (i : Int))] ∧ hk = h') _ ⟨0, h1, by omega, hB0, Ext.refl _ _, rfl, rfl, rfl⟩ ?_
  rintro m l h' ⟨i, hk, hi, hBk, hEk, rfl, rfl, rfl⟩ K5 hK5
  have hB := hBk
  have hE := hEk
  refine V_seq (fun K6 hK6 => ?_)
  refine V_sr T.mix (by kernel_rfl) (fun K7 hK7 => ?_)
  refine S_mv rfl ?_
  refine S_bin rfl rfl rfl ?_
  refine S_nil (hK7 _ _ (V_keep [1, 2, 6] (by simp only [proj, lk, reduceIte, Nat.reduceEqDiff]; rfl) ?_)); clear hK7
  refine V_condp rfl (fun c28 => ?_) (fun c28 => ?_)
  · skip
    refine V_skipk [1, 2] (by simp only [proj, lk, reduceIte, Nat.reduceEqDiff]; rfl) ?_
    refine hK6 _ _ ?_; clear hK6
    refine V_seq (fun K8 hK8 => ?_)
    refine V_block ?_
    refine V_sr T.mix (by kernel_rfl) (fun K9 hK9 => ?_)
    refine S_mv rfl ?_
    refine S_mv rfl ?_
    refine S_nc rfl ?_
    first | refine S_fa0 T.f47_5 rfl ?_ | refine S_fa T.f47_5 rfl ?_
    first | refine S_ixan T.ar45 rfl rfl (by omega) ?_ | refine S_ixa1 T.ar45 rfl rfl (by omega) (by omega) ?_
    refine S_st T.sz3 rfl rfl rfl rfl (by simp (disch := omega) only [rok0 hB, rok hB]) ?_
    generalize hh : putH _ _ _ = h2
    have hBh2 : RB h2 X (⟨fun _ => 0, 0, 0, 0, fun _ => 0, up (neg i) i (-1), neg i, neg i, fun _ => 0, 0⟩ : RC) := by rw [← hh]; exact psLev hB i (-1) (by omega)
    have hEh2 : Ext (fun x => x = X) hk h2 := by rw [← hh]; exact Ext.put _ _ rfl
    clear hh
    replace hE := hE.trans hEh2
    clear hB
    have hB := hBh2
    refine S_nil (hK9 _ _ (V_keep [1, 2] (by simp only [proj, lk, reduceIte, Nat.reduceEqDiff]; rfl) ?_)); clear hK9
    refine V_sr T.mix (by kernel_rfl) (fun K10 hK10 => ?_)
    refine S_mv rfl ?_
    refine S_mv rfl ?_
    refine S_nc rfl ?_
    first | refine S_fa0 T.f47_6 rfl ?_ | refine S_fa T.f47_6 rfl ?_
    first | refine S_ixan T.ar45 rfl rfl (by omega) ?_ | refine S_ixa1 T.ar45 rfl rfl (by omega) (by omega) ?_
    refine S_st T.sz3 rfl rfl rfl rfl (by simp (disch := omega) only [rok0 hB, rok hB]) ?_
    generalize hh : putH _ _ _ = h3
    have hBh3 : RB h3 X (⟨fun _ => 0, 0, 0, 0, fun _ => 0, up (neg i) i (-1), up (neg i) i (-1), neg i, fun _ => 0, 0⟩ : RC) := by rw [← hh]; exact psRea hB i (-1) (by omega)
    have hEh3 : Ext (fun x => x = X) h2 h3 := by rw [← hh]; exact Ext.put _ _ rfl
    clear hh
    replace hE := hE.trans hEh3
    clear hB
    have hB := hBh3
    refine S_nil (hK10 _ _ (V_keep [1, 2] (by simp only [proj, lk, reduceIte, Nat.reduceEqDiff]; rfl) ?_)); clear hK10
    refine V_reg T.mix (by kernel_rfl) ?_
    refine S_mv rfl ?_
    refine S_mv rfl ?_
    refine S_nc rfl ?_
    first | refine S_fa0 T.f47_7 rfl ?_ | refine S_fa T.f47_7 rfl ?_
    first | refine S_ixan T.ar45 rfl rfl (by omega) ?_ | refine S_ixa1 T.ar45 rfl rfl (by omega) (by omega) ?_
    refine S_st T.sz3 rfl rfl rfl rfl (by simp (disch := omega) only [rok0 hB, rok hB]) ?_
    generalize hh : putH _ _ _ = h4
    have hBh4 : RB h4 X (⟨fun _ => 0, 0, 0, 0, fun _ => 0, up (neg i) i (-1), up (neg i) i (-1), up (neg i) i (-1), fun _ => 0, 0⟩ : RC) := by rw [← hh]; exact psPla hB i (-1) (by omega)
    have hEh4 : Ext (fun x => x = X) h3 h4 := by rw [← hh]; exact Ext.put _ _ rfl
    clear hh
    replace hE := hE.trans hEh4
    clear hB
    have hB := hBh4
    refine S_nilk [1, 2] (by simp only [proj, lk, reduceIte, Nat.reduceEqDiff]; rfl) ?_
    refine hK8 _ _ ?_; clear hK8
    refine V_reg T.mix (by kernel_rfl) ?_
    refine S_mv rfl ?_
    first | refine S_add rfl rfl (by omega) (by omega) ?_ | refine S_bin rfl rfl rfl ?_
    refine S_as rfl ?_
    refine S_nilk [1, 2] (by simp only [proj, lk, reduceIte, Nat.reduceEqDiff]; rfl) ?_
    exact hK5 _ _ ⟨_, by omega, i + 1, h4, by omega, by rw [up_neg] at hB; exact hB, hE, rfl, rfl, rfl⟩
  · skip
    refine V_exitk [1] rfl (by simp only [proj, lk, reduceIte, Nat.reduceEqDiff]; rfl) ?_
    refine hK3 _ _ ?_; clear hK3
    refine V_sr T.mix (by kernel_rfl) (fun K11 hK11 => ?_)
    refine S_mv rfl ?_
    refine S_as rfl ?_
    refine S_nil (hK11 _ _ (V_keep [0] (by simp only [proj, lk, reduceIte, Nat.reduceEqDiff]; rfl) ?_)); clear hK11
    refine V_ret ?_
    refine hR _ _ (ret1 rfl rfl ?_)
    subst hX
    have hi13 : i = 13 := by omega
    subst hi13
    have nn : ∀ v : Nat, v ≤ 12 → neg 13 v = -1 := fun v hv => by unfold neg; rw [if_pos (by omega)]
    refine ⟨rfl, ⟨_, hBk, ⟨⟨rfl, by simp, fun v hv => rfl, fun v hv => nn v hv, fun v hv => nn v hv, fun v hv => nn v hv⟩, rfl, rfl, rfl, fun j h1 h2 => by simp only at h2; omega, TI.zero⟩⟩, hE1.step hEk (fun b hb e => by omega)⟩
set_option maxHeartbeats 400000 in
theorem fits_spec (h : Heap) (X : Nat) (s : TS) (p : Nat) (rs : RS h X s p) (i : Nat) (hi : i < s.L.length) :
    FC Try.prog 47 (#[.pointer (some ⟨X, 0, none⟩), .int .i64 (i : Int)] : Array Value) h fun v h' => v = .bool true ∧ h = h' := by
  obtain ⟨Q, hB, hr⟩ := rs
  have hlen := hr.ti.len
  have hdep := hr.ti.dep
  have hcc := hr.ti.c
  have eT := hr.r.top
  have eC := hr.cur
  have eD := hr.dep
  have eP := hr.pops
  have hE := Ext.refl (fun x => x = X) h
  obtain ⟨x, hx⟩ : ∃ x, s.L[i]? = some x := ⟨s.L[i], List.getElem?_eq_getElem hi⟩
  obtain ⟨f1, f2, f3, f4, f5, f6, f7, f8⟩ := fit_val hr.r hr.ti hx
  have f9 := f7
  unfold good at f9
  refine FC_of [(0, .pointer (some ⟨X, 0, none⟩)), (1, .int .i64 (i : Int))] Try.func47 rfl Try.ntmps47 (by simp) rfl (fun R hR => ?_)
  refine V_sr T.mix (by kernel_rfl) (fun K1 hK1 => ?_)
  refine S_as rfl ?_
  refine S_nil (hK1 _ _ (V_keep [0, 1] (by simp only [proj, lk, reduceIte, Nat.reduceEqDiff]; rfl) ?_)); clear hK1
  refine V_sr T.mix (by kernel_rfl) (fun K2 hK2 => ?_)
  refine S_mv rfl ?_
  refine S_mv rfl ?_
  refine S_nc rfl ?_
  first | refine S_fa0 T.f47_0 rfl ?_ | refine S_fa T.f47_0 rfl ?_
  first | refine S_ixan T.ar42 rfl rfl (by omega) ?_ | refine S_ixa1 T.ar42 rfl rfl (by omega) (by omega) ?_
  refine S_ldK T.ag3 rfl (fun K' hK' => ?_)
  simp (disch := omega) only [rlTop hB, rlCur hB, rlDep hB, rlPops hB, rlStk0 hB, rlStk hB, rlVal hB, rlLev hB, rlRea hB, rlPla hB, rlLim hB, oP_some, Nat.add_zero]
  refine hK' _ ?_; clear hK' K'
  rw [f1]
  refine S_as rfl ?_
  refine S_nil (hK2 _ _ (V_keep [0, 1, 5] (by simp only [proj, lk, reduceIte, Nat.reduceEqDiff]; rfl) ?_)); clear hK2
  refine V_seq (fun K3 hK3 => ?_)
  refine V_sr T.mix (by kernel_rfl) (fun K4 hK4 => ?_)
  refine S_mv rfl ?_
  refine S_call T.hb22 rfl ?_
  refine FC.mono (goodlit_spec _ x.lit) ?_
  rintro v' h' ⟨g, rfl, hg, rfl⟩
  refine S_notb rfl ?_
  refine S_nil (hK4 _ _ (V_keep [0, 1, 5, 16] (by simp only [proj, lk, reduceIte, Nat.reduceEqDiff]; rfl) ?_)); clear hK4
  refine V_condb rfl (fun c48 => ?_) (fun c48 => ?_)
  · skip
    exfalso; rw [hg.2 f7] at c48; cases c48
  · skip
    refine V_skipk [0, 1, 5] (by simp only [proj, lk, reduceIte, Nat.reduceEqDiff]; rfl) ?_
    refine hK3 _ _ ?_; clear hK3
    refine V_sr T.mix (by kernel_rfl) (fun K5 hK5 => ?_)
    refine S_mv rfl ?_
    refine S_call T.hb42 rfl ?_
    refine FC.mono (var_spec _ x.lit (by omega) (by omega)) ?_
    rintro v' h' ⟨rfl, rfl⟩
    refine S_as rfl ?_
    refine S_nil (hK5 _ _ (V_keep [0, 1, 5, 6] (by simp only [proj, lk, reduceIte, Nat.reduceEqDiff]; rfl) ?_)); clear hK5
    refine V_sr T.mix (by kernel_rfl) (fun K6 hK6 => ?_)
    refine S_as rfl ?_
    refine S_nil (hK6 _ _ (V_keep [0, 1, 5, 6, 7] (by simp only [proj, lk, reduceIte, Nat.reduceEqDiff]; rfl) ?_)); clear hK6
    refine V_seqJ (fun l h' => ∃ (wv : Int), (wv = if x.lit < 0 then -1 else 1) ∧ l = [(0, .pointer (some ⟨X, 0, none⟩)), (1, .int .i64 (i : Int)), (6, .int .i64 (x.lit.natAbs : Int)), (7, .int .i8 wv)] ∧ h = h') ?_ ?_
    · skip
      refine V_sr T.mix (by kernel_rfl) (fun K8 hK8 => ?_)
      refine S_mv rfl ?_
      refine S_bin rfl rfl rfl ?_
      refine S_nil (hK8 _ _ (V_keep [0, 1, 6, 7, 20] (by simp only [proj, lk, reduceIte, Nat.reduceEqDiff]; rfl) ?_)); clear hK8
      refine V_condp rfl (fun c53 => ?_) (fun c53 => ?_)
      · skip
        refine V_reg T.mix (by kernel_rfl) ?_
        refine S_as rfl ?_
        refine S_nilk [0, 1, 6, 7] (by simp only [proj, lk, reduceIte, Nat.reduceEqDiff]; rfl) ?_
        exact ⟨_, by rw [if_pos c53], rfl, rfl⟩
      · skip
        refine V_skipk [0, 1, 6, 7] (by simp only [proj, lk, reduceIte, Nat.reduceEqDiff]; rfl) ?_
        exact ⟨_, by rw [if_neg c53], rfl, rfl⟩
    rintro l h' ⟨wv, hwv, rfl, rfl⟩
    refine V_sr T.mix (by kernel_rfl) (fun K9 hK9 => ?_)
    refine S_mv rfl ?_
    refine S_mv rfl ?_
    refine S_nc rfl ?_
    first | refine S_fa0 T.f47_4 rfl ?_ | refine S_fa T.f47_4 rfl ?_
    first | refine S_ixan T.ar44 rfl rfl (by omega) ?_ | refine S_ixa1 T.ar44 rfl rfl (by omega) (by omega) ?_
    refine S_ldK T.ag43 rfl (fun K' hK' => ?_)
    simp (disch := omega) only [rlTop hB, rlCur hB, rlDep hB, rlPops hB, rlStk0 hB, rlStk hB, rlVal hB, rlLev hB, rlRea hB, rlPla hB, rlLim hB, oP_some, Nat.add_zero]
    refine hK' _ ?_; clear hK' K'
    refine S_mv rfl ?_
    refine S_bin rfl rfl rfl ?_
    refine S_mv rfl ?_
    refine S_dec (fun g56 => ?_) (fun g56 => ?_)
    · skip
      refine S_gt rfl ?_
      refine S_mv rfl ?_
      refine S_gt rfl ?_
      refine S_mv rfl ?_
      refine S_gt rfl ?_
      refine S_nc rfl ?_
      refine S_gt rfl ?_
      first | refine S_fa0 T.f47_7 rfl ?_ | refine S_fa T.f47_7 rfl ?_
      refine S_gt rfl ?_
      first | refine S_ixan T.ar45 rfl rfl (by omega) ?_ | refine S_ixa1 T.ar45 rfl rfl (by omega) (by omega) ?_
      refine S_gt rfl ?_
      refine S_ldK T.ag3 rfl (fun K' hK' => ?_)
      simp (disch := omega) only [rlTop hB, rlCur hB, rlDep hB, rlPops hB, rlStk0 hB, rlStk hB, rlVal hB, rlLev hB, rlRea hB, rlPla hB, rlLim hB, oP_some, Nat.add_zero]
      refine hK' _ ?_; clear hK' K'
      refine S_gt rfl ?_
      refine S_mv rfl ?_
      refine S_gt rfl ?_
      refine S_bin rfl rfl rfl ?_
      refine S_pt rfl rfl ?_
      refine S_mv rfl ?_
      refine S_dec (fun g56a => ?_) (fun g56a => ?_)
      · skip
        refine S_gt rfl ?_
        refine S_mv rfl ?_
        refine S_gt rfl ?_
        refine S_mv rfl ?_
        refine S_gt rfl ?_
        refine S_nc rfl ?_
        refine S_gt rfl ?_
        first | refine S_fa0 T.f47_6 rfl ?_ | refine S_fa T.f47_6 rfl ?_
        refine S_gt rfl ?_
        first | refine S_ixan T.ar45 rfl rfl (by omega) ?_ | refine S_ixa1 T.ar45 rfl rfl (by omega) (by omega) ?_
        refine S_gt rfl ?_
        refine S_ldK T.ag3 rfl (fun K' hK' => ?_)
        simp (disch := omega) only [rlTop hB, rlCur hB, rlDep hB, rlPops hB, rlStk0 hB, rlStk hB, rlVal hB, rlLev hB, rlRea hB, rlPla hB, rlLim hB, oP_some, Nat.add_zero]
        refine hK' _ ?_; clear hK' K'
        refine S_gt rfl ?_
        refine S_bin rfl rfl rfl ?_
        refine S_pt rfl rfl ?_
        refine S_as rfl ?_
        refine S_nil (hK9 _ _ (V_keep [4] (by simp only [proj, lk, reduceIte, Nat.reduceEqDiff]; rfl) ?_)); clear hK9
        refine V_ret ?_
        refine hR _ _ (ret1 rfl rfl ?_)
        exact ⟨by rw [f4]; simp; exact f8, rfl⟩
      · skip
        exfalso; exact g56a f3
    · skip
      exfalso; exact g56 (by rw [f2, hwv])
set_option maxHeartbeats 1600000 in
theorem check_spec (h : Heap) (X : Nat) (s : TS) (p : Nat) (rs : RS h X s p) (hp : p ≤ 1000000000000000) :
    FC Try.prog 19 (#[.pointer (some ⟨X, 0, none⟩)] : Array Value) h fun v h' => v = .bool true ∧ h = h' := by
  have rs0 := rs
  obtain ⟨Q, hB, hr⟩ := rs
  have hlen := hr.ti.len
  have hdep := hr.ti.dep
  have hcc := hr.ti.c
  have eT := hr.r.top
  have eC := hr.cur
  have eD := hr.dep
  have eP := hr.pops
  have hE := Ext.refl (fun x => x = X) h
  refine FC_of [(0, .pointer (some ⟨X, 0, none⟩))] Try.func19 rfl Try.ntmps19 (by simp) rfl (fun R hR => ?_)
  refine V_sr T.mix (by kernel_rfl) (fun K1 hK1 => ?_)
  refine S_as rfl ?_
  refine S_nil (hK1 _ _ (V_keep [0] (by simp only [proj, lk, reduceIte, Nat.reduceEqDiff]; rfl) ?_)); clear hK1
  refine V_seq (fun K2 hK2 => ?_)
  refine V_sr T.mix (by kernel_rfl) (fun K3 hK3 => ?_)
  refine S_mv rfl ?_
  refine S_nc rfl ?_
  first | refine S_fa0 T.f47_2 rfl ?_ | refine S_fa T.f47_2 rfl ?_
  refine S_ldK T.ag3 rfl (fun K' hK' => ?_)
  simp (disch := omega) only [rlTop hB, rlCur hB, rlDep hB, rlPops hB, rlStk0 hB, rlStk hB, rlVal hB, rlLev hB, rlRea hB, rlPla hB, rlLim hB, oP_some, Nat.add_zero]
  refine hK' _ ?_; clear hK' K'
  refine S_bin rfl rfl rfl ?_
  refine S_mv rfl ?_
  refine S_dec (fun g11 => ?_) (fun g11 => ?_)
  · skip
    exfalso; omega
  · skip
    refine S_gt rfl ?_
    refine S_mv rfl ?_
    refine S_gt rfl ?_
    refine S_nc rfl ?_
    refine S_gt rfl ?_
    first | refine S_fa0 T.f47_2 rfl ?_ | refine S_fa T.f47_2 rfl ?_
    refine S_gt rfl ?_
    refine S_ldK T.ag3 rfl (fun K' hK' => ?_)
    simp (disch := omega) only [rlTop hB, rlCur hB, rlDep hB, rlPops hB, rlStk0 hB, rlStk hB, rlVal hB, rlLev hB, rlRea hB, rlPla hB, rlLim hB, oP_some, Nat.add_zero]
    refine hK' _ ?_; clear hK' K'
    refine S_gt rfl ?_
    refine S_mv rfl ?_
    refine S_gt rfl ?_
    refine S_nc rfl ?_
    refine S_gt rfl ?_
    first | refine S_fa0 T.f47_1 rfl ?_ | refine S_fa T.f47_1 rfl ?_
    refine S_gt rfl ?_
    refine S_ldK T.ag3 rfl (fun K' hK' => ?_)
    simp (disch := omega) only [rlTop hB, rlCur hB, rlDep hB, rlPops hB, rlStk0 hB, rlStk hB, rlVal hB, rlLev hB, rlRea hB, rlPla hB, rlLim hB, oP_some, Nat.add_zero]
    refine hK' _ ?_; clear hK' K'
    refine S_gt rfl ?_
    refine S_bin rfl rfl rfl ?_
    refine S_pf rfl rfl ?_
    refine S_mv rfl ?_
    refine S_dec (fun g11a => ?_) (fun g11a => ?_)
    · skip
      exfalso; omega
    · skip
      refine S_gt rfl ?_
      refine S_mv rfl ?_
      refine S_gt rfl ?_
      refine S_nc rfl ?_
      refine S_gt rfl ?_
      first | refine S_fa0 T.f47_1 rfl ?_ | refine S_fa T.f47_1 rfl ?_
      refine S_gt rfl ?_
      refine S_ldK T.ag3 rfl (fun K' hK' => ?_)
      simp (disch := omega) only [rlTop hB, rlCur hB, rlDep hB, rlPops hB, rlStk0 hB, rlStk hB, rlVal hB, rlLev hB, rlRea hB, rlPla hB, rlLim hB, oP_some, Nat.add_zero]
      refine hK' _ ?_; clear hK' K'
      refine S_gt rfl ?_
      refine S_bin rfl rfl rfl ?_
      refine S_pf rfl rfl ?_
      refine S_nil (hK3 _ _ (V_keep [0, 31] (by simp only [proj, lk, reduceIte, Nat.reduceEqDiff]; rfl) ?_)); clear hK3
      refine V_condp rfl (fun c11 => ?_) (fun c11 => ?_)
      · skip
        exfalso; omega
      · skip
        refine V_skipk [0] (by simp only [proj, lk, reduceIte, Nat.reduceEqDiff]; rfl) ?_
        refine hK2 _ _ ?_; clear hK2
        refine V_seq (fun K4 hK4 => ?_)
        refine V_sr T.mix (by kernel_rfl) (fun K5 hK5 => ?_)
        refine S_mv rfl ?_
        refine S_nc rfl ?_
        first | refine S_fa0 T.f47_3 rfl ?_ | refine S_fa T.f47_3 rfl ?_
        refine S_ldK T.ag3 rfl (fun K' hK' => ?_)
        simp (disch := omega) only [rlTop hB, rlCur hB, rlDep hB, rlPops hB, rlStk0 hB, rlStk hB, rlVal hB, rlLev hB, rlRea hB, rlPla hB, rlLim hB, oP_some, Nat.add_zero]
        refine hK' _ ?_; clear hK' K'
        refine S_bin rfl rfl rfl ?_
        refine S_mv rfl ?_
        refine S_dec (fun g14 => ?_) (fun g14 => ?_)
        · skip
          exfalso; omega
        · skip
          refine S_gt rfl ?_
          refine S_mv rfl ?_
          refine S_gt rfl ?_
          refine S_nc rfl ?_
          refine S_gt rfl ?_
          first | refine S_fa0 T.f47_3 rfl ?_ | refine S_fa T.f47_3 rfl ?_
          refine S_gt rfl ?_
          refine S_ldK T.ag3 rfl (fun K' hK' => ?_)
          simp (disch := omega) only [rlTop hB, rlCur hB, rlDep hB, rlPops hB, rlStk0 hB, rlStk hB, rlVal hB, rlLev hB, rlRea hB, rlPla hB, rlLim hB, oP_some, Nat.add_zero]
          refine hK' _ ?_; clear hK' K'
          refine S_gt rfl ?_
          refine S_mv rfl ?_
          refine S_gt rfl ?_
          refine S_nc rfl ?_
          refine S_gt rfl ?_
          first | refine S_fa0 T.f47_1 rfl ?_ | refine S_fa T.f47_1 rfl ?_
          refine S_gt rfl ?_
          refine S_ldK T.ag3 rfl (fun K' hK' => ?_)
          simp (disch := omega) only [rlTop hB, rlCur hB, rlDep hB, rlPops hB, rlStk0 hB, rlStk hB, rlVal hB, rlLev hB, rlRea hB, rlPla hB, rlLim hB, oP_some, Nat.add_zero]
          refine hK' _ ?_; clear hK' K'
          refine S_gt rfl ?_
          refine S_bin rfl rfl rfl ?_
          refine S_pf rfl rfl ?_
          refine S_mv rfl ?_
          refine S_dec (fun g14a => ?_) (fun g14a => ?_)
          · skip
            exfalso; omega
          · skip
            refine S_gt rfl ?_
            refine S_mv rfl ?_
            refine S_gt rfl ?_
            refine S_nc rfl ?_
            refine S_gt rfl ?_
            first | refine S_fa0 T.f47_9 rfl ?_ | refine S_fa T.f47_9 rfl ?_
            refine S_gt rfl ?_
            refine S_ldK T.ag3 rfl (fun K' hK' => ?_)
            simp (disch := omega) only [rlTop hB, rlCur hB, rlDep hB, rlPops hB, rlStk0 hB, rlStk hB, rlVal hB, rlLev hB, rlRea hB, rlPla hB, rlLim hB, oP_some, Nat.add_zero]
            refine hK' _ ?_; clear hK' K'
            refine S_gt rfl ?_
            refine S_bin rfl rfl rfl ?_
            refine S_pf rfl rfl ?_
            refine S_nil (hK5 _ _ (V_keep [0, 54] (by simp only [proj, lk, reduceIte, Nat.reduceEqDiff]; rfl) ?_)); clear hK5
            refine V_condp rfl (fun c14 => ?_) (fun c14 => ?_)
            · skip
              exfalso; omega
            · skip
              refine V_skipk [0] (by simp only [proj, lk, reduceIte, Nat.reduceEqDiff]; rfl) ?_
              refine hK4 _ _ ?_; clear hK4
              refine V_sr T.mix (by kernel_rfl) (fun K6 hK6 => ?_)
              refine S_as rfl ?_
              refine S_nil (hK6 _ _ (V_keep [0, 3] (by simp only [proj, lk, reduceIte, Nat.reduceEqDiff]; rfl) ?_)); clear hK6
              refine V_seq (fun K7 hK7 => ?_)
              refine V_sr T.mix (by kernel_rfl) (fun K8 hK8 => ?_)
              refine S_as rfl ?_
              refine S_nil (hK8 _ _ (V_keep [0, 3, 4] (by simp only [proj, lk, reduceIte, Nat.reduceEqDiff]; rfl) ?_)); clear hK8
              refine V_block ?_
              refine V_loop (fun m l h' => ∃ (i : Nat), (i ≤ s.L.length) ∧ m = s.L.length - i ∧ l = [(0, .pointer (some ⟨X, 0, none⟩)), (3, .int .i64 (lastL (s.L.take i) 0)), (4, .int .i64 (i : Int))] ∧ h = h') _ ⟨0, by omega, rfl, rfl, rfl⟩ ?_
              rintro m l h' ⟨i, hi, rfl, rfl, rfl⟩ K9 hK9
              refine V_seq (fun K10 hK10 => ?_)
              refine V_sr T.mix (by kernel_rfl) (fun K11 hK11 => ?_)
              refine S_mv rfl ?_
              refine S_mv rfl ?_
              refine S_nc rfl ?_
              first | refine S_fa0 T.f47_1 rfl ?_ | refine S_fa T.f47_1 rfl ?_
              refine S_ldK T.ag3 rfl (fun K' hK' => ?_)
              simp (disch := omega) only [rlTop hB, rlCur hB, rlDep hB, rlPops hB, rlStk0 hB, rlStk hB, rlVal hB, rlLev hB, rlRea hB, rlPla hB, rlLim hB, oP_some, Nat.add_zero]
              refine hK' _ ?_; clear hK' K'
              refine S_bin rfl rfl rfl ?_
              refine S_nil (hK11 _ _ (V_keep [0, 3, 4, 60] (by simp only [proj, lk, reduceIte, Nat.reduceEqDiff]; rfl) ?_)); clear hK11
              refine V_condp rfl (fun c18 => ?_) (fun c18 => ?_)
              · skip
                obtain ⟨x, hx⟩ : ∃ x, s.L[i]? = some x := ⟨s.L[i], List.getElem?_eq_getElem (by omega)⟩
                obtain ⟨f1, f2, f3, f4, f5, f6, f7, f8⟩ := fit_val hr.r hr.ti hx
                have f9 := f7
                unfold good at f9
                obtain ⟨hla, hlb⟩ := Lv_at hr.ti.lv hx
                have hxl := (Lv_le hr.ti.lv).2 x (List.mem_of_getElem? hx)
                refine V_skipk [0, 3, 4] (by simp only [proj, lk, reduceIte, Nat.reduceEqDiff]; rfl) ?_
                refine hK10 _ _ ?_; clear hK10
                refine V_seq (fun K12 hK12 => ?_)
                refine V_block ?_
                refine V_seq (fun K13 hK13 => ?_)
                refine V_sr T.mix (by kernel_rfl) (fun K14 hK14 => ?_)
                refine S_mv rfl ?_
                refine S_mv rfl ?_
                refine S_call T.hb47 rfl ?_
                refine FC.mono (fits_spec h X s p rs0 i (by omega)) ?_
                rintro v' h' ⟨rfl, rfl⟩
                refine S_notb rfl ?_
                refine S_nil (hK14 _ _ (V_keep [0, 3, 4, 66] (by simp only [proj, lk, reduceIte, Nat.reduceEqDiff]; rfl) ?_)); clear hK14
                refine V_condb rfl (fun c19 => ?_) (fun c19 => ?_)
                · skip
                  cases c19
                · skip
                  refine V_skipk [0, 3, 4] (by simp only [proj, lk, reduceIte, Nat.reduceEqDiff]; rfl) ?_
                  refine hK13 _ _ ?_; clear hK13
                  refine V_sr T.mix (by kernel_rfl) (fun K15 hK15 => ?_)
                  refine S_mv rfl ?_
                  refine S_mv rfl ?_
                  refine S_nc rfl ?_
                  first | refine S_fa0 T.f47_0 rfl ?_ | refine S_fa T.f47_0 rfl ?_
                  first | refine S_ixan T.ar42 rfl rfl (by omega) ?_ | refine S_ixa1 T.ar42 rfl rfl (by omega) (by omega) ?_
                  refine S_ldK T.ag3 rfl (fun K' hK' => ?_)
                  simp (disch := omega) only [rlTop hB, rlCur hB, rlDep hB, rlPops hB, rlStk0 hB, rlStk hB, rlVal hB, rlLev hB, rlRea hB, rlPla hB, rlLim hB, oP_some, Nat.add_zero]
                  refine hK' _ ?_; clear hK' K'
                  rw [f1]
                  refine S_call T.hb42 rfl ?_
                  refine FC.mono (var_spec _ x.lit (by omega) (by omega)) ?_
                  rintro v' h' ⟨rfl, rfl⟩
                  refine S_as rfl ?_
                  refine S_nil (hK15 _ _ (V_keep [0, 3, 4, 5] (by simp only [proj, lk, reduceIte, Nat.reduceEqDiff]; rfl) ?_)); clear hK15
                  refine V_sr T.mix (by kernel_rfl) (fun K16 hK16 => ?_)
                  refine S_mv rfl ?_
                  refine S_mv rfl ?_
                  refine S_nc rfl ?_
                  first | refine S_fa0 T.f47_5 rfl ?_ | refine S_fa T.f47_5 rfl ?_
                  first | refine S_ixan T.ar45 rfl rfl (by omega) ?_ | refine S_ixa1 T.ar45 rfl rfl (by omega) (by omega) ?_
                  refine S_ldK T.ag3 rfl (fun K' hK' => ?_)
                  simp (disch := omega) only [rlTop hB, rlCur hB, rlDep hB, rlPops hB, rlStk0 hB, rlStk hB, rlVal hB, rlLev hB, rlRea hB, rlPla hB, rlLim hB, oP_some, Nat.add_zero]
                  refine hK' _ ?_; clear hK' K'
                  rw [f5]
                  refine S_as rfl ?_
                  refine S_nil (hK16 _ _ (V_keep [0, 3, 4, 5, 6] (by simp only [proj, lk, reduceIte, Nat.reduceEqDiff]; rfl) ?_)); clear hK16
                  refine V_seq (fun K17 hK17 => ?_)
                  refine V_sr T.mix (by kernel_rfl) (fun K18 hK18 => ?_)
                  refine S_mv rfl ?_
                  refine S_mv rfl ?_
                  refine S_bin rfl rfl rfl ?_
                  refine S_nil (hK18 _ _ (V_keep [0, 3, 4, 5, 6, 82] (by simp only [proj, lk, reduceIte, Nat.reduceEqDiff]; rfl) ?_)); clear hK18
                  refine V_condp rfl (fun c24 => ?_) (fun c24 => ?_)
                  · skip
                    obtain ⟨hl1, hl2, hl3⟩ : x.lev = lastL (s.L.take i) 0 + 1 ∧ x.rea = -1 ∧ cnt s.L x.lev = i := by rcases hla with e | e; (exact absurd e c24); (exact e)
                    have hlb0 := (Lv_le (Lv_take i hr.ti.lv)).1
                    obtain ⟨n, hn⟩ : ∃ n : Nat, x.lev = n := ⟨x.lev.toNat, by omega⟩
                    have hlimn := hr.lim n (by omega) (by omega)
                    refine V_sr T.mix (by kernel_rfl) (fun K19 hK19 => ?_)
                    refine S_mv rfl ?_
                    refine S_mv rfl ?_
                    first | refine S_add rfl rfl (by omega) (by omega) ?_ | refine S_bin rfl rfl rfl ?_
                    refine S_bin rfl rfl rfl ?_
                    refine S_mv rfl ?_
                    refine S_dec (fun g25 => ?_) (fun g25 => ?_)
                    · skip
                      exfalso; exact g25 hl1
                    · skip
                      refine S_gt rfl ?_
                      refine S_mv rfl ?_
                      refine S_gt rfl ?_
                      refine S_mv rfl ?_
                      refine S_gt rfl ?_
                      refine S_nc rfl ?_
                      refine S_gt rfl ?_
                      first | refine S_fa0 T.f47_8 rfl ?_ | refine S_fa T.f47_8 rfl ?_
                      refine S_gt rfl ?_
                      rw [hn]
                      refine S_ixan T.ar45 rfl rfl (by omega) ?_
                      refine S_gt rfl ?_
                      refine S_ldK T.ag3 rfl (fun K' hK' => ?_)
                      simp (disch := omega) only [rlTop hB, rlCur hB, rlDep hB, rlPops hB, rlStk0 hB, rlStk hB, rlVal hB, rlLev hB, rlRea hB, rlPla hB, rlLim hB, oP_some, Nat.add_zero]
                      refine hK' _ ?_; clear hK' K'
                      refine S_gt rfl ?_
                      refine S_mv rfl ?_
                      refine S_gt rfl ?_
                      refine S_bin rfl rfl rfl ?_
                      refine S_pf rfl rfl ?_
                      refine S_mv rfl ?_
                      refine S_dec (fun g25a => ?_) (fun g25a => ?_)
                      · skip
                        exfalso; rw [hlimn, ← hn, hl3] at g25a; exact g25a rfl
                      · skip
                        refine S_gt rfl ?_
                        refine S_mv rfl ?_
                        refine S_gt rfl ?_
                        refine S_mv rfl ?_
                        refine S_gt rfl ?_
                        refine S_nc rfl ?_
                        refine S_gt rfl ?_
                        first | refine S_fa0 T.f47_6 rfl ?_ | refine S_fa T.f47_6 rfl ?_
                        refine S_gt rfl ?_
                        first | refine S_ixan T.ar45 rfl rfl (by omega) ?_ | refine S_ixa1 T.ar45 rfl rfl (by omega) (by omega) ?_
                        refine S_gt rfl ?_
                        refine S_ldK T.ag3 rfl (fun K' hK' => ?_)
                        simp (disch := omega) only [rlTop hB, rlCur hB, rlDep hB, rlPops hB, rlStk0 hB, rlStk hB, rlVal hB, rlLev hB, rlRea hB, rlPla hB, rlLim hB, oP_some, Nat.add_zero]
                        refine hK' _ ?_; clear hK' K'
                        refine S_gt rfl ?_
                        refine S_bin rfl rfl rfl ?_
                        refine S_pf rfl rfl ?_
                        refine S_nil (hK19 _ _ (V_keep [0, 4, 6, 105] (by simp only [proj, lk, reduceIte, Nat.reduceEqDiff]; rfl) ?_)); clear hK19
                        refine V_condp rfl (fun c25 => ?_) (fun c25 => ?_)
                        · skip
                          exfalso; rw [f4] at c25; exact c25 hl2
                        · skip
                          refine V_skipk [0, 4, 6] (by simp only [proj, lk, reduceIte, Nat.reduceEqDiff]; rfl) ?_
                          refine hK17 _ _ ?_; clear hK17
                          refine V_reg T.mix (by kernel_rfl) ?_
                          refine S_mv rfl ?_
                          refine S_as rfl ?_
                          refine S_nilk [0, 3, 4] (by simp only [proj, lk, reduceIte, Nat.reduceEqDiff]; rfl) ?_
                          refine hK12 _ _ ?_; clear hK12
                          refine V_reg T.mix (by kernel_rfl) ?_
                          refine S_mv rfl ?_
                          first | refine S_add rfl rfl (by omega) (by omega) ?_ | refine S_bin rfl rfl rfl ?_
                          refine S_as rfl ?_
                          refine S_nilk [0, 3, 4] (by simp only [proj, lk, reduceIte, Nat.reduceEqDiff]; rfl) ?_
                          exact hK9 _ _ ⟨_, by omega, i + 1, by omega, rfl, by first | (rw [hlb]; rfl) | (rw [hlb, hn]; rfl), rfl⟩
                  · skip
                    refine V_skipk [0, 4, 6] (by simp only [proj, lk, reduceIte, Nat.reduceEqDiff]; rfl) ?_
                    refine hK17 _ _ ?_; clear hK17
                    refine V_reg T.mix (by kernel_rfl) ?_
                    refine S_mv rfl ?_
                    refine S_as rfl ?_
                    refine S_nilk [0, 3, 4] (by simp only [proj, lk, reduceIte, Nat.reduceEqDiff]; rfl) ?_
                    refine hK12 _ _ ?_; clear hK12
                    refine V_reg T.mix (by kernel_rfl) ?_
                    refine S_mv rfl ?_
                    first | refine S_add rfl rfl (by omega) (by omega) ?_ | refine S_bin rfl rfl rfl ?_
                    refine S_as rfl ?_
                    refine S_nilk [0, 3, 4] (by simp only [proj, lk, reduceIte, Nat.reduceEqDiff]; rfl) ?_
                    exact hK9 _ _ ⟨_, by omega, i + 1, by omega, rfl, by first | (rw [hlb]; rfl) | (rw [hlb, hn]; rfl), rfl⟩
              · skip
                refine V_exitk [0, 3] rfl (by simp only [proj, lk, reduceIte, Nat.reduceEqDiff]; rfl) ?_
                refine hK7 _ _ ?_; clear hK7
                refine V_seq (fun K20 hK20 => ?_)
                refine V_sr T.mix (by kernel_rfl) (fun K21 hK21 => ?_)
                refine S_mv rfl ?_
                refine S_mv rfl ?_
                refine S_nc rfl ?_
                first | refine S_fa0 T.f47_3 rfl ?_ | refine S_fa T.f47_3 rfl ?_
                refine S_ldK T.ag3 rfl (fun K' hK' => ?_)
                simp (disch := omega) only [rlTop hB, rlCur hB, rlDep hB, rlPops hB, rlStk0 hB, rlStk hB, rlVal hB, rlLev hB, rlRea hB, rlPla hB, rlLim hB, oP_some, Nat.add_zero]
                refine hK' _ ?_; clear hK' K'
                refine S_bin rfl rfl rfl ?_
                refine S_nil (hK21 _ _ (V_keep [0, 112] (by simp only [proj, lk, reduceIte, Nat.reduceEqDiff]; rfl) ?_)); clear hK21
                refine V_condp rfl (fun c31 => ?_) (fun c31 => ?_)
                · skip
                  exfalso; rw [eD] at c31; exact c31 (by have hii : i = s.L.length := (by omega); subst hii; rw [List.take_length, Lv_last hr.ti.lv])
                · skip
                  refine V_skipk [0] (by simp only [proj, lk, reduceIte, Nat.reduceEqDiff]; rfl) ?_
                  refine hK20 _ _ ?_; clear hK20
                  refine V_sr T.mix (by kernel_rfl) (fun K22 hK22 => ?_)
                  refine S_as rfl ?_
                  refine S_nil (hK22 _ _ (V_keep [0, 7] (by simp only [proj, lk, reduceIte, Nat.reduceEqDiff]; rfl) ?_)); clear hK22
                  refine V_seq (fun K23 hK23 => ?_)
                  refine V_sr T.mix (by kernel_rfl) (fun K24 hK24 => ?_)
                  refine S_as rfl ?_
                  refine S_nil (hK24 _ _ (V_keep [0, 7, 8] (by simp only [proj, lk, reduceIte, Nat.reduceEqDiff]; rfl) ?_)); clear hK24
                  refine V_block ?_
                  refine V_loop (fun m l h' => ∃ (v : Nat), (v ≤ 13) ∧ m = 13 - v ∧ l = [(0, .pointer (some ⟨X, 0, none⟩)), (7, .int .i64 (nset s.L v : Int)), (8, .int .i64 (v : Int))] ∧ h = h') _ ⟨0, by omega, rfl, rfl, rfl⟩ ?_
                  rintro m l h' ⟨v, hv, rfl, rfl, rfl⟩ K25 hK25
                  have hns := nset_le s.L v
                  refine V_seq (fun K26 hK26 => ?_)
                  refine V_sr T.mix (by kernel_rfl) (fun K27 hK27 => ?_)
                  refine S_mv rfl ?_
                  refine S_bin rfl rfl rfl ?_
                  refine S_nil (hK27 _ _ (V_keep [0, 7, 8, 114] (by simp only [proj, lk, reduceIte, Nat.reduceEqDiff]; rfl) ?_)); clear hK27
                  refine V_condp rfl (fun c35 => ?_) (fun c35 => ?_)
                  · skip
                    refine V_skipk [0, 7, 8] (by simp only [proj, lk, reduceIte, Nat.reduceEqDiff]; rfl) ?_
                    refine hK26 _ _ ?_; clear hK26
                    refine V_seq (fun K28 hK28 => ?_)
                    refine V_block ?_
                    refine V_sr T.mix (by kernel_rfl) (fun K29 hK29 => ?_)
                    refine S_mv rfl ?_
                    refine S_mv rfl ?_
                    refine S_nc rfl ?_
                    first | refine S_fa0 T.f47_4 rfl ?_ | refine S_fa T.f47_4 rfl ?_
                    first | refine S_ixan T.ar44 rfl rfl (by omega) ?_ | refine S_ixa1 T.ar44 rfl rfl (by omega) (by omega) ?_
                    refine S_ldK T.ag43 rfl (fun K' hK' => ?_)
                    simp (disch := omega) only [rlTop hB, rlCur hB, rlDep hB, rlPops hB, rlStk0 hB, rlStk hB, rlVal hB, rlLev hB, rlRea hB, rlPla hB, rlLim hB, oP_some, Nat.add_zero]
                    refine hK' _ ?_; clear hK' K'
                    refine S_bin rfl rfl rfl ?_
                    refine S_nil (hK29 _ _ (V_keep [0, 7, 8, 123] (by simp only [proj, lk, reduceIte, Nat.reduceEqDiff]; rfl) ?_)); clear hK29
                    refine V_condp rfl (fun c36 => ?_) (fun c36 => ?_)
                    · skip
                      rw [hr.r.val v (by omega)] at c36
                      refine V_reg T.mix (by kernel_rfl) ?_
                      refine S_mv rfl ?_
                      first | refine S_add rfl rfl (by omega) (by omega) ?_ | refine S_bin rfl rfl rfl ?_
                      refine S_as rfl ?_
                      refine S_nilk [0, 7, 8] (by simp only [proj, lk, reduceIte, Nat.reduceEqDiff]; rfl) ?_
                      refine hK28 _ _ ?_; clear hK28
                      refine V_reg T.mix (by kernel_rfl) ?_
                      refine S_mv rfl ?_
                      first | refine S_add rfl rfl (by omega) (by omega) ?_ | refine S_bin rfl rfl rfl ?_
                      refine S_as rfl ?_
                      refine S_nilk [0, 7, 8] (by simp only [proj, lk, reduceIte, Nat.reduceEqDiff]; rfl) ?_
                      exact hK25 _ _ ⟨_, by omega, v + 1, by omega, rfl, by rw [nset_succ, if_pos c36]; rfl, rfl⟩
                    · skip
                      rw [hr.r.val v (by omega)] at c36
                      have hnv := new_val (val_new.1 (show valV s.L (v : Int) = 0 by omega))
                      refine V_sr T.mix (by kernel_rfl) (fun K30 hK30 => ?_)
                      refine S_mv rfl ?_
                      refine S_mv rfl ?_
                      refine S_nc rfl ?_
                      first | refine S_fa0 T.f47_5 rfl ?_ | refine S_fa T.f47_5 rfl ?_
                      first | refine S_ixan T.ar45 rfl rfl (by omega) ?_ | refine S_ixa1 T.ar45 rfl rfl (by omega) (by omega) ?_
                      refine S_ldK T.ag3 rfl (fun K' hK' => ?_)
                      simp (disch := omega) only [rlTop hB, rlCur hB, rlDep hB, rlPops hB, rlStk0 hB, rlStk hB, rlVal hB, rlLev hB, rlRea hB, rlPla hB, rlLim hB, oP_some, Nat.add_zero]
                      refine hK' _ ?_; clear hK' K'
                      refine S_bin rfl rfl rfl ?_
                      refine S_mv rfl ?_
                      refine S_dec (fun g38 => ?_) (fun g38 => ?_)
                      · skip
                        exfalso; rw [hr.r.lev v (by omega), hnv.2.1] at g38; exact g38 rfl
                      · skip
                        refine S_gt rfl ?_
                        refine S_mv rfl ?_
                        refine S_gt rfl ?_
                        refine S_mv rfl ?_
                        refine S_gt rfl ?_
                        refine S_nc rfl ?_
                        refine S_gt rfl ?_
                        first | refine S_fa0 T.f47_6 rfl ?_ | refine S_fa T.f47_6 rfl ?_
                        refine S_gt rfl ?_
                        first | refine S_ixan T.ar45 rfl rfl (by omega) ?_ | refine S_ixa1 T.ar45 rfl rfl (by omega) (by omega) ?_
                        refine S_gt rfl ?_
                        refine S_ldK T.ag3 rfl (fun K' hK' => ?_)
                        simp (disch := omega) only [rlTop hB, rlCur hB, rlDep hB, rlPops hB, rlStk0 hB, rlStk hB, rlVal hB, rlLev hB, rlRea hB, rlPla hB, rlLim hB, oP_some, Nat.add_zero]
                        refine hK' _ ?_; clear hK' K'
                        refine S_gt rfl ?_
                        refine S_bin rfl rfl rfl ?_
                        refine S_pf rfl rfl ?_
                        refine S_mv rfl ?_
                        refine S_dec (fun g38a => ?_) (fun g38a => ?_)
                        · skip
                          exfalso; rw [hr.r.rea v (by omega), hnv.2.2.1] at g38a; exact g38a rfl
                        · skip
                          refine S_gt rfl ?_
                          refine S_mv rfl ?_
                          refine S_gt rfl ?_
                          refine S_mv rfl ?_
                          refine S_gt rfl ?_
                          refine S_nc rfl ?_
                          refine S_gt rfl ?_
                          first | refine S_fa0 T.f47_7 rfl ?_ | refine S_fa T.f47_7 rfl ?_
                          refine S_gt rfl ?_
                          first | refine S_ixan T.ar45 rfl rfl (by omega) ?_ | refine S_ixa1 T.ar45 rfl rfl (by omega) (by omega) ?_
                          refine S_gt rfl ?_
                          refine S_ldK T.ag3 rfl (fun K' hK' => ?_)
                          simp (disch := omega) only [rlTop hB, rlCur hB, rlDep hB, rlPops hB, rlStk0 hB, rlStk hB, rlVal hB, rlLev hB, rlRea hB, rlPla hB, rlLim hB, oP_some, Nat.add_zero]
                          refine hK' _ ?_; clear hK' K'
                          refine S_gt rfl ?_
                          refine S_bin rfl rfl rfl ?_
                          refine S_pf rfl rfl ?_
                          refine S_nil (hK30 _ _ (V_keep [0, 7, 8, 150] (by simp only [proj, lk, reduceIte, Nat.reduceEqDiff]; rfl) ?_)); clear hK30
                          refine V_condp rfl (fun c38 => ?_) (fun c38 => ?_)
                          · skip
                            exfalso; rw [hr.r.pla v (by omega), hnv.2.2.2] at c38; exact c38 rfl
                          · skip
                            refine V_skipk [0, 7, 8] (by simp only [proj, lk, reduceIte, Nat.reduceEqDiff]; rfl) ?_
                            refine hK28 _ _ ?_; clear hK28
                            refine V_reg T.mix (by kernel_rfl) ?_
                            refine S_mv rfl ?_
                            first | refine S_add rfl rfl (by omega) (by omega) ?_ | refine S_bin rfl rfl rfl ?_
                            refine S_as rfl ?_
                            refine S_nilk [0, 7, 8] (by simp only [proj, lk, reduceIte, Nat.reduceEqDiff]; rfl) ?_
                            exact hK25 _ _ ⟨_, by omega, v + 1, by omega, rfl, by rw [nset_succ, if_neg c36]; rfl, rfl⟩
                  · skip
                    refine V_exitk [0, 7] rfl (by simp only [proj, lk, reduceIte, Nat.reduceEqDiff]; rfl) ?_
                    refine hK23 _ _ ?_; clear hK23
                    refine V_sr T.mix (by kernel_rfl) (fun K31 hK31 => ?_)
                    refine S_mv rfl ?_
                    refine S_mv rfl ?_
                    refine S_nc rfl ?_
                    first | refine S_fa0 T.f47_1 rfl ?_ | refine S_fa T.f47_1 rfl ?_
                    refine S_ldK T.ag3 rfl (fun K' hK' => ?_)
                    simp (disch := omega) only [rlTop hB, rlCur hB, rlDep hB, rlPops hB, rlStk0 hB, rlStk hB, rlVal hB, rlLev hB, rlRea hB, rlPla hB, rlLim hB, oP_some, Nat.add_zero]
                    refine hK' _ ?_; clear hK' K'
                    refine S_bin rfl rfl rfl ?_
                    refine S_as rfl ?_
                    refine S_nil (hK31 _ _ (V_keep [2] (by simp only [proj, lk, reduceIte, Nat.reduceEqDiff]; rfl) ?_)); clear hK31
                    refine V_ret ?_
                    refine hR _ _ (ret1 rfl rfl ?_)
                    have hv13 : v = 13 := by omega
                    subst hv13
                    have h9 := nset_all hr.ti s.L.length (Nat.le_refl _)
                    rw [List.take_length] at h9
                    exact ⟨by rw [h9, eT]; simp, rfl⟩
end Go.Proofs.Qxb6500402a
