import Derived.Test.Qxb6500401aGreatWc
set_option linter.unusedVariables false
set_option linter.unusedSimpArgs false
namespace Go.Proofs.Qxb6500401aGreat
open Go.Eng Go.Trl

def Z0 : RC := ⟨fun _ => 0, 0, 0, 0, fun _ => 0, fun _ => 0, fun _ => 0, fun _ => 0, fun _ => 0, 0⟩
theorem z81 : (#[.int .i64 0, .int .i64 0, .int .i64 0, .int .i64 0, .int .i64 0, .int .i64 0, .int .i64 0, .int .i64 0, .int .i64 0, .int .i64 0, .int .i64 0, .int .i64 0, .int .i64 0, .int .i64 0, .int .i64 0, .int .i8 0, .int .i8 0, .int .i8 0, .int .i8 0, .int .i8 0, .int .i8 0, .int .i8 0, .int .i8 0, .int .i8 0, .int .i8 0, .int .i8 0, .int .i8 0, .int .i8 0, .int .i64 0, .int .i64 0, .int .i64 0, .int .i64 0, .int .i64 0, .int .i64 0, .int .i64 0, .int .i64 0, .int .i64 0, .int .i64 0, .int .i64 0, .int .i64 0, .int .i64 0, .int .i64 0, .int .i64 0, .int .i64 0, .int .i64 0, .int .i64 0, .int .i64 0, .int .i64 0, .int .i64 0, .int .i64 0, .int .i64 0, .int .i64 0, .int .i64 0, .int .i64 0, .int .i64 0, .int .i64 0, .int .i64 0, .int .i64 0, .int .i64 0, .int .i64 0, .int .i64 0, .int .i64 0, .int .i64 0, .int .i64 0, .int .i64 0, .int .i64 0, .int .i64 0, .int .i64 0, .int .i64 0, .int .i64 0, .int .i64 0, .int .i64 0, .int .i64 0, .int .i64 0, .int .i64 0, .int .i64 0, .int .i64 0, .int .i64 0, .int .i64 0, .int .i64 0, .int .i64 0] : Array Value) = arr 81 (rcell Z0) := by kernel_rfl
theorem nset_le (L : List It) (n : Nat) : nset L n ≤ n := by unfold nset; have := List.length_filter_le (fun v : Nat => decide (valV L (v : Int) ≠ 0)) (List.range n); simpa using this
def Zk (i : Nat) (a b : Nat → Int) : RC := ⟨fun _ => 0, 0, 0, 0, fun _ => 0, a, b, fun j => if j < i then -1 else 0, fun _ => 0, 0⟩
def neg (i : Nat) : Nat → Int := fun j => if j < i then -1 else 0
theorem up_neg (i : Nat) : up (neg i) i (-1) = neg (i + 1) := by
  funext j; unfold up neg
  by_cases e : j = i
  · subst e; simp
  · rw [if_neg e]; by_cases e2 : j < i
    · rw [if_pos e2, if_pos (by omega)]
    · rw [if_neg e2, if_neg (by omega)]
theorem fit_val {R : RC} {L : List It} {k c i : Nat} {x : It} (hr : RelP R L) (ti : TI L k c) (hx : L[i]? = some x) : R.stk i = x.lit ∧ R.val x.lit.natAbs = (if x.lit < 0 then -1 else 1) ∧ R.pla x.lit.natAbs = i ∧ R.rea x.lit.natAbs = x.rea ∧ R.lev x.lit.natAbs = x.lev ∧ x.lit.natAbs ≤ 12 ∧ good x.lit ∧ -1 ≤ x.rea := by
  have hi : i < L.length := by
    rcases Nat.lt_or_ge i L.length with y | y
    · exact y
    · simp [List.getElem?_eq_none y] at hx
  have hg := ti.g x (List.mem_of_getElem? hx)
  have hl := ti.loc hx
  have hgv := good_vr hg.1
  rw [vr_abs] at hl hgv
  have h12 : x.lit.natAbs ≤ 12 := by omega
  refine ⟨by rw [hr.stk i hi]; simp [hx], by rw [hr.val _ h12]; unfold valV; rw [hl], by rw [hr.pla _ h12]; unfold plaV; rw [hl], by rw [hr.rea _ h12]; unfold reaV; rw [hl], by rw [hr.lev _ h12]; unfold levV; rw [hl], h12, hg.1, hg.2⟩
set_option maxHeartbeats 400000 in
theorem new_spec (h : Heap) :
    FC Tryz.prog 21 (#[] : Array Value) h fun v h' => v = .pointer (some ⟨h.size, 0, none⟩) ∧ RS h' h.size ⟨[], 0, 0⟩ 0 ∧ Ext (fun _ => False) h h' := by
  refine FC_of [] Tryz.func21 rfl Tryz.ntmps21 (by simp) rfl (fun R hR => ?_)
  refine V_sr T.mix (by kernel_rfl) (fun K1 hK1 => ?_)
  refine S_as rfl ?_
  refine S_nil (hK1 _ _ (V_keep [] (by simp only [proj, lk, reduceIte, Nat.reduceEqDiff]; rfl) ?_)); clear hK1
  refine V_sr T.mix (by kernel_rfl) (fun K2 hK2 => ?_)
  refine S_bld rfl (T.bld105) ?_
  refine S_boxA rfl ?_
  generalize hh : Array.push h _ = h1
  have hB0 : RB h1 h.size Z0 := by rw [← hh]; exact (B.new h _ 105).cong z81
  have hE1 : Ext (fun _ => False) h h1 := by rw [← hh]; exact Ext.push _ _ _
  clear hh
  generalize hX : h.size = X at hB0 ⊢
  refine S_as rfl ?_
  refine S_nil (hK2 _ _ (V_keep [1] (by simp only [proj, lk, reduceIte, Nat.reduceEqDiff]; rfl) ?_)); clear hK2
  refine V_seq (fun K3 hK3 => ?_)
  refine V_sr T.mix (by kernel_rfl) (fun K4 hK4 => ?_)
  refine S_as rfl ?_
  refine S_nil (hK4 _ _ (V_keep [1, 2] (by simp only [proj, lk, reduceIte, Nat.reduceEqDiff]; rfl) ?_)); clear hK4
  refine V_block ?_
  refine V_loop (fun m l h' => ∃ (i : Nat) (hk : Heap), (i ≤ 13) ∧ (RB hk X (⟨fun _ => 0, 0, 0, 0, fun _ => 0, neg i, neg i, neg i, fun _ => 0, 0⟩ : RC)) ∧ (Ext (fun x => x = X) h1 hk) ∧ m = 13 - i ∧ l = [(1, .pointer (some ⟨X, 0, none⟩)), (2, .int .i64 (i : Int))] ∧ hk = h') _ ⟨0, h1, by omega, hB0, Ext.refl _ _, rfl, rfl, rfl⟩ ?_
  rintro m l h' ⟨i, hk, hi, hBk, hEk, rfl, rfl, rfl⟩ K5 hK5
  have hB := hBk
  have hE := hEk
  refine V_seq (fun K6 hK6 => ?_)
  refine V_sr T.mix (by kernel_rfl) (fun K7 hK7 => ?_)
  refine S_mv rfl ?_
  refine S_bin rfl rfl rfl ?_
  refine S_nil (hK7 _ _ (V_keep [1, 2, 6] (by simp only [proj, lk, reduceIte, Nat.reduceEqDiff]; rfl) ?_)); clear hK7
  refine V_condp rfl (fun c28 => ?_) (fun c28 => ?_)
  · skip
    refine V_skipk [1, 2] (by simp only [proj, lk, reduceIte, Nat.reduceEqDiff]; rfl) ?_
    refine hK6 _ _ ?_; clear hK6
    refine V_seq (fun K8 hK8 => ?_)
    refine V_block ?_
    refine V_sr T.mix (by kernel_rfl) (fun K9 hK9 => ?_)
    refine S_mv rfl ?_
    refine S_mv rfl ?_
    refine S_nc rfl ?_
    first | refine S_fa0 T.f105_5 rfl ?_ | refine S_fa T.f105_5 rfl ?_
    first | refine S_ixan T.ar50 rfl rfl (by omega) ?_ | refine S_ixa1 T.ar50 rfl rfl (by omega) (by omega) ?_
    refine S_st T.sz3 rfl rfl rfl rfl (by simp (disch := omega) only [rok0 hB, rok hB]) ?_
    generalize hh : putH _ _ _ = h2
    have hBh2 : RB h2 X (⟨fun _ => 0, 0, 0, 0, fun _ => 0, up (neg i) i (-1), neg i, neg i, fun _ => 0, 0⟩ : RC) := by rw [← hh]; exact psLev hB i (-1) (by omega)
    have hEh2 : Ext (fun x => x = X) hk h2 := by rw [← hh]; exact Ext.put _ _ rfl
    clear hh
    replace hE := hE.trans hEh2
    clear hB
    have hB := hBh2
    refine S_nil (hK9 _ _ (V_keep [1, 2] (by simp only [proj, lk, reduceIte, Nat.reduceEqDiff]; rfl) ?_)); clear hK9
    refine V_sr T.mix (by kernel_rfl) (fun K10 hK10 => ?_)
    refine S_mv rfl ?_
    refine S_mv rfl ?_
    refine S_nc rfl ?_
    first | refine S_fa0 T.f105_6 rfl ?_ | refine S_fa T.f105_6 rfl ?_
    first | refine S_ixan T.ar50 rfl rfl (by omega) ?_ | refine S_ixa1 T.ar50 rfl rfl (by omega) (by omega) ?_
    refine S_st T.sz3 rfl rfl rfl rfl (by simp (disch := omega) only [rok0 hB, rok hB]) ?_
    generalize hh : putH _ _ _ = h3
    have hBh3 : RB h3 X (⟨fun _ => 0, 0, 0, 0, fun _ => 0, up (neg i) i (-1), up (neg i) i (-1), neg i, fun _ => 0, 0⟩ : RC) := by rw [← hh]; exact psRea hB i (-1) (by omega)
    have hEh3 : Ext (fun x => x = X) h2 h3 := by rw [← hh]; exact Ext.put _ _ rfl
    clear hh
    replace hE := hE.trans hEh3
    clear hB
    have hB := hBh3
    refine S_nil (hK10 _ _ (V_keep [1, 2] (by simp only [proj, lk, reduceIte, Nat.reduceEqDiff]; rfl) ?_)); clear hK10
    refine V_reg T.mix (by kernel_rfl) ?_
    refine S_mv rfl ?_
    refine S_mv rfl ?_
    refine S_nc rfl ?_
    first | refine S_fa0 T.f105_7 rfl ?_ | refine S_fa T.f105_7 rfl ?_
    first | refine S_ixan T.ar50 rfl rfl (by omega) ?_ | refine S_ixa1 T.ar50 rfl rfl (by omega) (by omega) ?_
    refine S_st T.sz3 rfl rfl rfl rfl (by simp (disch := omega) only [rok0 hB, rok hB]) ?_
    generalize hh : putH _ _ _ = h4
    have hBh4 : RB h4 X (⟨fun _ => 0, 0, 0, 0, fun _ => 0, up (neg i) i (-1), up (neg i) i (-1), up (neg i) i (-1), fun _ => 0, 0⟩ : RC) := by rw [← hh]; exact psPla hB i (-1) (by omega)
    have hEh4 : Ext (fun x => x = X) h3 h4 := by rw [← hh]; exact Ext.put _ _ rfl
    clear hh
    replace hE := hE.trans hEh4
    clear hB
    have hB := hBh4
    refine S_nilk [1, 2] (by simp only [proj, lk, reduceIte, Nat.reduceEqDiff]; rfl) ?_
    refine hK8 _ _ ?_; clear hK8
    refine V_reg T.mix (by kernel_rfl) ?_
    refine S_mv rfl ?_
    first | refine S_add rfl rfl (by omega) (by omega) ?_ | refine S_bin rfl rfl rfl ?_
    refine S_as rfl ?_
    refine S_nilk [1, 2] (by simp only [proj, lk, reduceIte, Nat.reduceEqDiff]; rfl) ?_
    exact hK5 _ _ ⟨_, by omega, i + 1, h4, by omega, by rw [up_neg] at hB; exact hB, hE, rfl, rfl, rfl⟩
  · skip
    refine V_exitk [1] rfl (by simp only [proj, lk, reduceIte, Nat.reduceEqDiff]; rfl) ?_
    refine hK3 _ _ ?_; clear hK3
    refine V_sr T.mix (by kernel_rfl) (fun K11 hK11 => ?_)
    refine S_mv rfl ?_
    refine S_as rfl ?_
    refine S_nil (hK11 _ _ (V_keep [0] (by simp only [proj, lk, reduceIte, Nat.reduceEqDiff]; rfl) ?_)); clear hK11
    refine V_ret ?_
    refine hR _ _ (ret1 rfl rfl ?_)
    subst hX
    have hi13 : i = 13 := by omega
    subst hi13
    have nn : ∀ v : Nat, v ≤ 12 → neg 13 v = -1 := fun v hv => by unfold neg; rw [if_pos (by omega)]
    refine ⟨rfl, ⟨_, hBk, ⟨⟨rfl, by simp, fun v hv => rfl, fun v hv => nn v hv, fun v hv => nn v hv, fun v hv => nn v hv⟩, rfl, rfl, rfl, fun j h1 h2 => by simp only at h2; omega, TI.zero⟩⟩, hE1.step hEk (fun b hb e => by omega)⟩
end Go.Proofs.Qxb6500401aGreat
