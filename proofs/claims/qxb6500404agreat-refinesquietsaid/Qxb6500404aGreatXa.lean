import Derived.Test.Qxb6500404aGreatSa
set_option linter.unusedVariables false
set_option linter.unusedSimpArgs false
namespace Go.Proofs.Qxb6500404aGreat.HufW
open Go.Eng Go.Huf

def HC.k (u : HC) : Nat → Nat := nk u.wt u.ht u.num
/-- the nodes at hand are small -/
def Sm (u : HC) (P : Nat → Prop) : Prop := ∀ y, P y → y < 529 ∧ u.ht y < 1024 ∧ u.num y < 1024
set_option maxHeartbeats 400000 in
theorem less_spec (h : Heap) (X : Nat) (u : HC) (c : CB h X u) (x y : Nat) (hx : x < 529) (hy : y < 529) (h1 : u.ht x < 1024) (h2 : u.ht y < 1024) (h3 : u.num x < 1024) (h4 : u.num y < 1024) :
    FC Tryz.prog 182 (#[.pointer (some ⟨X, 0, none⟩), .int .i64 (x : Int), .int .i64 (y : Int)] : Array Value) h fun rv h' => rv = .bool (decide (u.k x < u.k y)) ∧ h = h' := by
  try clear q0 q1 q2 q3 q4 q5 q6 q7 q8 q9 q10 q11 q12 alens acode aroot asub awt aht anum apar adep aheap
  obtain ⟨q0, q1, q2, q3, q4, q5, q6, q7, q8, q9, q10, q11, q12⟩ := cq (c)
  obtain ⟨alens, acode, aroot, asub, awt, aht, anum, apar, adep, aheap⟩ := ca (c)
  refine FC_of [(0, .pointer (some ⟨X, 0, none⟩)), (1, .int .i64 (x : Int)), (2, .int .i64 (y : Int))] Tryz.func182 rfl Tryz.ntmps182 (by simp) rfl (fun R hR => ?_)
  refine V_sr T.mix (by kernel_rfl) (fun K1 hK1 => ?_)
  refine S_as rfl ?_
  refine S_nil (hK1 _ _ (V_keep [0, 1, 2] (by simp only [proj, lk, reduceIte, Nat.reduceEqDiff]; rfl) ?_)); clear hK1
  refine V_seq (fun K2 hK2 => ?_)
  refine V_sr T.mix (by kernel_rfl) (fun K3 hK3 => ?_)
  refine S_mv rfl ?_
  refine S_nc rfl ?_
  first | refine S_fa0 T.f70_6 rfl ?_ | refine S_fa T.f70_6 rfl ?_
  refine S_ldK T.ag56 rfl (fun K' hK' => ?_)
  simp (disch := omega) only [q0, q1, q2, q3, q4, q5, q6, q7, q8, q9, q10, q11, q12, alens, acode, aroot, asub, awt, aht, anum, apar, adep, aheap, oP_some, Nat.add_zero]
  refine hK' _ ?_; clear hK' K'
  refine S_mv rfl ?_
  first | refine S_ixn T.el56 rfl rfl (by omega) ?_ | refine S_ix1 T.el56 rfl rfl (by omega) (by omega) ?_ | refine S_ix T.el56 rfl rfl (by omega) (by omega) ?_
  refine S_ldK T.ag3 rfl (fun K' hK' => ?_)
  simp (disch := omega) only [q0, q1, q2, q3, q4, q5, q6, q7, q8, q9, q10, q11, q12, alens, acode, aroot, asub, awt, aht, anum, apar, adep, aheap, oP_some, Nat.add_zero]
  refine hK' _ ?_; clear hK' K'
  refine S_mv rfl ?_
  refine S_nc rfl ?_
  first | refine S_fa0 T.f70_6 rfl ?_ | refine S_fa T.f70_6 rfl ?_
  refine S_ldK T.ag56 rfl (fun K' hK' => ?_)
  simp (disch := omega) only [q0, q1, q2, q3, q4, q5, q6, q7, q8, q9, q10, q11, q12, alens, acode, aroot, asub, awt, aht, anum, apar, adep, aheap, oP_some, Nat.add_zero]
  refine hK' _ ?_; clear hK' K'
  refine S_mv rfl ?_
  first | refine S_ixn T.el56 rfl rfl (by omega) ?_ | refine S_ix1 T.el56 rfl rfl (by omega) (by omega) ?_ | refine S_ix T.el56 rfl rfl (by omega) (by omega) ?_
  refine S_ldK T.ag3 rfl (fun K' hK' => ?_)
  simp (disch := omega) only [q0, q1, q2, q3, q4, q5, q6, q7, q8, q9, q10, q11, q12, alens, acode, aroot, asub, awt, aht, anum, apar, adep, aheap, oP_some, Nat.add_zero]
  refine hK' _ ?_; clear hK' K'
  refine S_bin rfl rfl rfl ?_
  refine S_nil (hK3 _ _ (V_keep [0, 1, 2, 21] (by simp only [proj, lk, reduceIte, Nat.reduceEqDiff]; rfl) ?_)); clear hK3
  refine V_condp rfl (fun c7 => ?_) (fun c7 => ?_)
  · skip
    refine V_sr T.mix (by kernel_rfl) (fun K4 hK4 => ?_)
    refine S_mv rfl ?_
    refine S_nc rfl ?_
    first | refine S_fa0 T.f70_6 rfl ?_ | refine S_fa T.f70_6 rfl ?_
    refine S_ldK T.ag56 rfl (fun K' hK' => ?_)
    simp (disch := omega) only [q0, q1, q2, q3, q4, q5, q6, q7, q8, q9, q10, q11, q12, alens, acode, aroot, asub, awt, aht, anum, apar, adep, aheap, oP_some, Nat.add_zero]
    refine hK' _ ?_; clear hK' K'
    refine S_mv rfl ?_
    first | refine S_ixn T.el56 rfl rfl (by omega) ?_ | refine S_ix1 T.el56 rfl rfl (by omega) (by omega) ?_ | refine S_ix T.el56 rfl rfl (by omega) (by omega) ?_
    refine S_ldK T.ag3 rfl (fun K' hK' => ?_)
    simp (disch := omega) only [q0, q1, q2, q3, q4, q5, q6, q7, q8, q9, q10, q11, q12, alens, acode, aroot, asub, awt, aht, anum, apar, adep, aheap, oP_some, Nat.add_zero]
    refine hK' _ ?_; clear hK' K'
    refine S_mv rfl ?_
    refine S_nc rfl ?_
    first | refine S_fa0 T.f70_6 rfl ?_ | refine S_fa T.f70_6 rfl ?_
    refine S_ldK T.ag56 rfl (fun K' hK' => ?_)
    simp (disch := omega) only [q0, q1, q2, q3, q4, q5, q6, q7, q8, q9, q10, q11, q12, alens, acode, aroot, asub, awt, aht, anum, apar, adep, aheap, oP_some, Nat.add_zero]
    refine hK' _ ?_; clear hK' K'
    refine S_mv rfl ?_
    first | refine S_ixn T.el56 rfl rfl (by omega) ?_ | refine S_ix1 T.el56 rfl rfl (by omega) (by omega) ?_ | refine S_ix T.el56 rfl rfl (by omega) (by omega) ?_
    refine S_ldK T.ag3 rfl (fun K' hK' => ?_)
    simp (disch := omega) only [q0, q1, q2, q3, q4, q5, q6, q7, q8, q9, q10, q11, q12, alens, acode, aroot, asub, awt, aht, anum, apar, adep, aheap, oP_some, Nat.add_zero]
    refine hK' _ ?_; clear hK' K'
    refine S_bin rfl rfl rfl ?_
    refine S_as rfl ?_
    refine S_nil (hK4 _ _ (V_keep [6] (by simp only [proj, lk, reduceIte, Nat.reduceEqDiff]; rfl) ?_)); clear hK4
    refine V_ret ?_
    refine hR _ _ (ret1 rfl rfl ?_)
    exact ⟨by congr 1; rw [decide_eq_decide]; unfold HC.k nk; omega, rfl⟩
  · skip
    refine V_skipk [0, 1, 2] (by simp only [proj, lk, reduceIte, Nat.reduceEqDiff]; rfl) ?_
    refine hK2 _ _ ?_; clear hK2
    refine V_seq (fun K5 hK5 => ?_)
    refine V_sr T.mix (by kernel_rfl) (fun K6 hK6 => ?_)
    refine S_mv rfl ?_
    refine S_nc rfl ?_
    first | refine S_fa0 T.f70_7 rfl ?_ | refine S_fa T.f70_7 rfl ?_
    refine S_ldK T.ag56 rfl (fun K' hK' => ?_)
    simp (disch := omega) only [q0, q1, q2, q3, q4, q5, q6, q7, q8, q9, q10, q11, q12, alens, acode, aroot, asub, awt, aht, anum, apar, adep, aheap, oP_some, Nat.add_zero]
    refine hK' _ ?_; clear hK' K'
    refine S_mv rfl ?_
    first | refine S_ixn T.el56 rfl rfl (by omega) ?_ | refine S_ix1 T.el56 rfl rfl (by omega) (by omega) ?_ | refine S_ix T.el56 rfl rfl (by omega) (by omega) ?_
    refine S_ldK T.ag3 rfl (fun K' hK' => ?_)
    simp (disch := omega) only [q0, q1, q2, q3, q4, q5, q6, q7, q8, q9, q10, q11, q12, alens, acode, aroot, asub, awt, aht, anum, apar, adep, aheap, oP_some, Nat.add_zero]
    refine hK' _ ?_; clear hK' K'
    refine S_mv rfl ?_
    refine S_nc rfl ?_
    first | refine S_fa0 T.f70_7 rfl ?_ | refine S_fa T.f70_7 rfl ?_
    refine S_ldK T.ag56 rfl (fun K' hK' => ?_)
    simp (disch := omega) only [q0, q1, q2, q3, q4, q5, q6, q7, q8, q9, q10, q11, q12, alens, acode, aroot, asub, awt, aht, anum, apar, adep, aheap, oP_some, Nat.add_zero]
    refine hK' _ ?_; clear hK' K'
    refine S_mv rfl ?_
    first | refine S_ixn T.el56 rfl rfl (by omega) ?_ | refine S_ix1 T.el56 rfl rfl (by omega) (by omega) ?_ | refine S_ix T.el56 rfl rfl (by omega) (by omega) ?_
    refine S_ldK T.ag3 rfl (fun K' hK' => ?_)
    simp (disch := omega) only [q0, q1, q2, q3, q4, q5, q6, q7, q8, q9, q10, q11, q12, alens, acode, aroot, asub, awt, aht, anum, apar, adep, aheap, oP_some, Nat.add_zero]
    refine hK' _ ?_; clear hK' K'
    refine S_bin rfl rfl rfl ?_
    refine S_nil (hK6 _ _ (V_keep [0, 1, 2, 51] (by simp only [proj, lk, reduceIte, Nat.reduceEqDiff]; rfl) ?_)); clear hK6
    refine V_condp rfl (fun c10 => ?_) (fun c10 => ?_)
    · skip
      refine V_sr T.mix (by kernel_rfl) (fun K7 hK7 => ?_)
      refine S_mv rfl ?_
      refine S_nc rfl ?_
      first | refine S_fa0 T.f70_7 rfl ?_ | refine S_fa T.f70_7 rfl ?_
      refine S_ldK T.ag56 rfl (fun K' hK' => ?_)
      simp (disch := omega) only [q0, q1, q2, q3, q4, q5, q6, q7, q8, q9, q10, q11, q12, alens, acode, aroot, asub, awt, aht, anum, apar, adep, aheap, oP_some, Nat.add_zero]
      refine hK' _ ?_; clear hK' K'
      refine S_mv rfl ?_
      first | refine S_ixn T.el56 rfl rfl (by omega) ?_ | refine S_ix1 T.el56 rfl rfl (by omega) (by omega) ?_ | refine S_ix T.el56 rfl rfl (by omega) (by omega) ?_
      refine S_ldK T.ag3 rfl (fun K' hK' => ?_)
      simp (disch := omega) only [q0, q1, q2, q3, q4, q5, q6, q7, q8, q9, q10, q11, q12, alens, acode, aroot, asub, awt, aht, anum, apar, adep, aheap, oP_some, Nat.add_zero]
      refine hK' _ ?_; clear hK' K'
      refine S_mv rfl ?_
      refine S_nc rfl ?_
      first | refine S_fa0 T.f70_7 rfl ?_ | refine S_fa T.f70_7 rfl ?_
      refine S_ldK T.ag56 rfl (fun K' hK' => ?_)
      simp (disch := omega) only [q0, q1, q2, q3, q4, q5, q6, q7, q8, q9, q10, q11, q12, alens, acode, aroot, asub, awt, aht, anum, apar, adep, aheap, oP_some, Nat.add_zero]
      refine hK' _ ?_; clear hK' K'
      refine S_mv rfl ?_
      first | refine S_ixn T.el56 rfl rfl (by omega) ?_ | refine S_ix1 T.el56 rfl rfl (by omega) (by omega) ?_ | refine S_ix T.el56 rfl rfl (by omega) (by omega) ?_
      refine S_ldK T.ag3 rfl (fun K' hK' => ?_)
      simp (disch := omega) only [q0, q1, q2, q3, q4, q5, q6, q7, q8, q9, q10, q11, q12, alens, acode, aroot, asub, awt, aht, anum, apar, adep, aheap, oP_some, Nat.add_zero]
      refine hK' _ ?_; clear hK' K'
      refine S_bin rfl rfl rfl ?_
      refine S_as rfl ?_
      refine S_nil (hK7 _ _ (V_keep [6] (by simp only [proj, lk, reduceIte, Nat.reduceEqDiff]; rfl) ?_)); clear hK7
      refine V_ret ?_
      refine hR _ _ (ret1 rfl rfl ?_)
      exact ⟨by congr 1; rw [decide_eq_decide]; unfold HC.k nk; omega, rfl⟩
    · skip
      refine V_skipk [0, 1, 2] (by simp only [proj, lk, reduceIte, Nat.reduceEqDiff]; rfl) ?_
      refine hK5 _ _ ?_; clear hK5
      refine V_sr T.mix (by kernel_rfl) (fun K8 hK8 => ?_)
      refine S_mv rfl ?_
      refine S_nc rfl ?_
      first | refine S_fa0 T.f70_8 rfl ?_ | refine S_fa T.f70_8 rfl ?_
      refine S_ldK T.ag56 rfl (fun K' hK' => ?_)
      simp (disch := omega) only [q0, q1, q2, q3, q4, q5, q6, q7, q8, q9, q10, q11, q12, alens, acode, aroot, asub, awt, aht, anum, apar, adep, aheap, oP_some, Nat.add_zero]
      refine hK' _ ?_; clear hK' K'
      refine S_mv rfl ?_
      first | refine S_ixn T.el56 rfl rfl (by omega) ?_ | refine S_ix1 T.el56 rfl rfl (by omega) (by omega) ?_ | refine S_ix T.el56 rfl rfl (by omega) (by omega) ?_
      refine S_ldK T.ag3 rfl (fun K' hK' => ?_)
      simp (disch := omega) only [q0, q1, q2, q3, q4, q5, q6, q7, q8, q9, q10, q11, q12, alens, acode, aroot, asub, awt, aht, anum, apar, adep, aheap, oP_some, Nat.add_zero]
      refine hK' _ ?_; clear hK' K'
      refine S_mv rfl ?_
      refine S_nc rfl ?_
      first | refine S_fa0 T.f70_8 rfl ?_ | refine S_fa T.f70_8 rfl ?_
      refine S_ldK T.ag56 rfl (fun K' hK' => ?_)
      simp (disch := omega) only [q0, q1, q2, q3, q4, q5, q6, q7, q8, q9, q10, q11, q12, alens, acode, aroot, asub, awt, aht, anum, apar, adep, aheap, oP_some, Nat.add_zero]
      refine hK' _ ?_; clear hK' K'
      refine S_mv rfl ?_
      first | refine S_ixn T.el56 rfl rfl (by omega) ?_ | refine S_ix1 T.el56 rfl rfl (by omega) (by omega) ?_ | refine S_ix T.el56 rfl rfl (by omega) (by omega) ?_
      refine S_ldK T.ag3 rfl (fun K' hK' => ?_)
      simp (disch := omega) only [q0, q1, q2, q3, q4, q5, q6, q7, q8, q9, q10, q11, q12, alens, acode, aroot, asub, awt, aht, anum, apar, adep, aheap, oP_some, Nat.add_zero]
      refine hK' _ ?_; clear hK' K'
      refine S_bin rfl rfl rfl ?_
      refine S_as rfl ?_
      refine S_nil (hK8 _ _ (V_keep [6] (by simp only [proj, lk, reduceIte, Nat.reduceEqDiff]; rfl) ?_)); clear hK8
      refine V_ret ?_
      refine hR _ _ (ret1 rfl rfl ?_)
      exact ⟨by congr 1; rw [decide_eq_decide]; unfold HC.k nk; omega, rfl⟩
set_option maxHeartbeats 1600000 in
theorem hpush_spec (h : Heap) (X : Nat) (u : HC) (c : CB h X u) (x : Nat) (hx : x < 529) (hn : u.fill < 265) (hb : Sm u (fun y => In u.heap u.fill y ∨ y = x)) (hp : Hp u.k u.heap u.fill) (hi : Inj u.heap u.fill) (hni : ¬ In u.heap u.fill x) :
    FC Tryz.prog 179 (#[.pointer (some ⟨X, 0, none⟩), .int .i64 (x : Int)] : Array Value) h fun rv h' => rv = .tuple #[] ∧ ∃ H', CB h' X { u with heap := H', fill := u.fill + 1 } ∧ Hp u.k H' (u.fill + 1) ∧ Inj H' (u.fill + 1) ∧ (∀ y, In H' (u.fill + 1) y ↔ In u.heap u.fill y ∨ y = x) ∧ Ext (CT X) h h' := by
  try clear q0 q1 q2 q3 q4 q5 q6 q7 q8 q9 q10 q11 q12 alens acode aroot asub awt aht anum apar adep aheap
  obtain ⟨q0, q1, q2, q3, q4, q5, q6, q7, q8, q9, q10, q11, q12⟩ := cq (c)
  obtain ⟨alens, acode, aroot, asub, awt, aht, anum, apar, adep, aheap⟩ := ca (c)
  have hcok := cok c
  refine FC_of [(0, .pointer (some ⟨X, 0, none⟩)), (1, .int .i64 (x : Int))] Tryz.func179 rfl Tryz.ntmps179 (by simp) rfl (fun R hR => ?_)
  refine V_sr T.mix (by kernel_rfl) (fun K1 hK1 => ?_)
  refine S_mv rfl ?_
  refine S_nc rfl ?_
  first | refine S_fa0 T.f70_12 rfl ?_ | refine S_fa T.f70_12 rfl ?_
  refine S_ldK T.ag3 rfl (fun K' hK' => ?_)
  simp (disch := omega) only [q0, q1, q2, q3, q4, q5, q6, q7, q8, q9, q10, q11, q12, alens, acode, aroot, asub, awt, aht, anum, apar, adep, aheap, oP_some, Nat.add_zero]
  refine hK' _ ?_; clear hK' K'
  refine S_as rfl ?_
  refine S_nil (hK1 _ _ (V_keep [0, 1, 4] (by simp only [proj, lk, reduceIte, Nat.reduceEqDiff]; rfl) ?_)); clear hK1
  refine V_sr T.mix (by kernel_rfl) (fun K2 hK2 => ?_)
  refine S_mv rfl ?_
  refine S_nc rfl ?_
  first | refine S_fa0 T.f70_12 rfl ?_ | refine S_fa T.f70_12 rfl ?_
  refine S_ldK T.ag3 rfl (fun K' hK' => ?_)
  simp (disch := omega) only [q0, q1, q2, q3, q4, q5, q6, q7, q8, q9, q10, q11, q12, alens, acode, aroot, asub, awt, aht, anum, apar, adep, aheap, oP_some, Nat.add_zero]
  refine hK' _ ?_; clear hK' K'
  refine S_addN (u.fill + 1) rfl rfl (by omega) (by omega) ?_
  refine S_nc rfl ?_
  first | refine S_fa0 T.f70_12 rfl ?_ | refine S_fa T.f70_12 rfl ?_
  refine S_st T.sz3 rfl rfl rfl rfl (by simp (disch := omega) only [hcok]) ?_
  generalize hh : putH _ _ _ = h1
  have c1 : CB h1 X { u with fill := u.fill + 1 } := by rw [← hh]; exact c.pfill (u.fill + 1)
  have hE1 : Ext (CT X) h h1 := by rw [← hh]; exact CB.putx
  clear hh
  refine S_nil (hK2 _ _ (V_keep [0, 1, 4] (by simp only [proj, lk, reduceIte, Nat.reduceEqDiff]; rfl) ?_)); clear hK2
  refine V_seqJ (fun l h' => ∃ (i : Nat) (hk : Heap) (A : Nat → Nat), (CB hk X { u with heap := A, fill := u.fill + 1 }) ∧ (Up u.k u.heap u.fill x A i) ∧ (Ext (CT X) h hk) ∧ (i = 0 ∨ ¬ u.k x < u.k (A ((i - 1) / 2))) ∧ l = [(0, .pointer (some ⟨X, 0, none⟩)), (1, .int .i64 (x : Int)), (4, .int .i64 (i : Int))] ∧ hk = h') ?_ ?_
  · skip
    refine V_block ?_
    refine V_loop (fun m l h' => ∃ (i : Nat) (hk : Heap) (A : Nat → Nat), (CB hk X { u with heap := A, fill := u.fill + 1 }) ∧ (Up u.k u.heap u.fill x A i) ∧ (Ext (CT X) h hk) ∧ m = i + 1 ∧ l = [(0, .pointer (some ⟨X, 0, none⟩)), (1, .int .i64 (x : Int)), (4, .int .i64 (i : Int))] ∧ hk = h') _ ⟨u.fill, h1, u.heap, c1, Up.start hp hi hni, hE1, rfl, rfl, rfl⟩ ?_
    rintro m l h' ⟨i, hk, A, ck, hup, hE, rfl, rfl, rfl⟩ K4 hK4
    try clear q0 q1 q2 q3 q4 q5 q6 q7 q8 q9 q10 q11 q12 alens acode aroot asub awt aht anum apar adep aheap
    obtain ⟨q0, q1, q2, q3, q4, q5, q6, q7, q8, q9, q10, q11, q12⟩ := cq ((show CB hk X { u with heap := A, fill := u.fill + 1 } from ck))
    obtain ⟨alens, acode, aroot, asub, awt, aht, anum, apar, adep, aheap⟩ := ca ((show CB hk X { u with heap := A, fill := u.fill + 1 } from ck))
    have hil := hup.lt
    have hoh := ck.oheap
    refine V_seq (fun K5 hK5 => ?_)
    refine V_sr T.mix (by kernel_rfl) (fun K6 hK6 => ?_)
    refine S_mv rfl ?_
    refine S_bin rfl rfl rfl ?_
    refine S_nil (hK6 _ _ (V_keep [0, 1, 4, 18] (by simp only [proj, lk, reduceIte, Nat.reduceEqDiff]; rfl) ?_)); clear hK6
    refine V_condp rfl (fun c20 => ?_) (fun c20 => ?_)
    · skip
      refine V_skipk [0, 1, 4] (by simp only [proj, lk, reduceIte, Nat.reduceEqDiff]; rfl) ?_
      refine hK5 _ _ ?_; clear hK5
      refine V_block ?_
      refine V_sr T.mix (by kernel_rfl) (fun K7 hK7 => ?_)
      refine S_mv rfl ?_
      first | refine S_sub rfl rfl (by omega) (by omega) ?_ | refine S_bin rfl rfl rfl ?_
      refine S_quo rfl rfl (by omega) (by omega) (by omega) ?_
      rw [show ((i : Int) - 1) / 2 = ((((i - 1) / 2) : Nat) : Int) by omega]
      refine S_as rfl ?_
      refine S_nil (hK7 _ _ (V_keep [0, 1, 4, 5] (by simp only [proj, lk, reduceIte, Nat.reduceEqDiff]; rfl) ?_)); clear hK7
      refine V_seq (fun K8 hK8 => ?_)
      refine V_sr T.mix (by kernel_rfl) (fun K9 hK9 => ?_)
      refine S_mv rfl ?_
      refine S_mv rfl ?_
      refine S_mv rfl ?_
      refine S_nc rfl ?_
      first | refine S_fa0 T.f70_11 rfl ?_ | refine S_fa T.f70_11 rfl ?_
      refine S_ldK T.ag56 rfl (fun K' hK' => ?_)
      simp (disch := omega) only [q0, q1, q2, q3, q4, q5, q6, q7, q8, q9, q10, q11, q12, alens, acode, aroot, asub, awt, aht, anum, apar, adep, aheap, oP_some, Nat.add_zero]
      refine hK' _ ?_; clear hK' K'
      refine S_mv rfl ?_
      first | refine S_ixn T.el56 rfl rfl (by omega) ?_ | refine S_ix1 T.el56 rfl rfl (by omega) (by omega) ?_ | refine S_ix T.el56 rfl rfl (by omega) (by omega) ?_
      refine S_ldK T.ag3 rfl (fun K' hK' => ?_)
      simp (disch := omega) only [q0, q1, q2, q3, q4, q5, q6, q7, q8, q9, q10, q11, q12, alens, acode, aroot, asub, awt, aht, anum, apar, adep, aheap, oP_some, Nat.add_zero]
      refine hK' _ ?_; clear hK' K'
      refine S_call T.hb182 rfl ?_
      have hAu : In u.heap u.fill (A ((i - 1) / 2)) ∨ A ((i - 1) / 2) = x := (hup.s _).1 ⟨((i - 1) / 2), by omega, ups_ne _ _ (by omega)⟩
      obtain ⟨y1, y2, y3⟩ := hb _ hAu
      obtain ⟨x1, x2, x3⟩ := hb x (.inr rfl)
      refine FC.mono (less_spec hk X { u with heap := A, fill := u.fill + 1 } ck x (A ((i - 1) / 2)) hx y1 x2 y2 x3 y3) ?_
      rintro v' h' ⟨rfl, rfl⟩
      refine S_notb rfl ?_
      refine S_nil (hK9 _ _ (V_keep [0, 1, 4, 5, 32] (by simp only [proj, lk, reduceIte, Nat.reduceEqDiff]; rfl) ?_)); clear hK9
      refine V_condb rfl (fun c22 => ?_) (fun c22 => ?_)
      · skip
        replace c22 : ¬ u.k x < u.k (A ((i - 1) / 2)) := by have h9 := c22; simp only [Bool.not_eq_true', Bool.not_eq_false', decide_eq_false_iff_not, decide_eq_true_eq, Classical.not_not, Bool.not_eq_true, Bool.not_eq_false] at h9; exact h9
        refine V_exitk [0, 1, 4] rfl (by simp only [proj, lk, reduceIte, Nat.reduceEqDiff]; rfl) ?_
        exact ⟨i, hk, A, ck, hup, hE, .inr c22, rfl, rfl⟩
      · skip
        replace c22 : u.k x < u.k (A ((i - 1) / 2)) := by have h9 := c22; simp only [Bool.not_eq_true', Bool.not_eq_false', decide_eq_false_iff_not, decide_eq_true_eq, Classical.not_not, Bool.not_eq_true, Bool.not_eq_false] at h9; exact h9
        refine V_skipk [0, 1, 4, 5] (by simp only [proj, lk, reduceIte, Nat.reduceEqDiff]; rfl) ?_
        refine hK8 _ _ ?_; clear hK8
        refine V_sr T.mix (by kernel_rfl) (fun K10 hK10 => ?_)
        refine S_mv rfl ?_
        refine S_nc rfl ?_
        first | refine S_fa0 T.f70_11 rfl ?_ | refine S_fa T.f70_11 rfl ?_
        refine S_ldK T.ag56 rfl (fun K' hK' => ?_)
        simp (disch := omega) only [q0, q1, q2, q3, q4, q5, q6, q7, q8, q9, q10, q11, q12, alens, acode, aroot, asub, awt, aht, anum, apar, adep, aheap, oP_some, Nat.add_zero]
        refine hK' _ ?_; clear hK' K'
        refine S_mv rfl ?_
        refine S_mv rfl ?_
        refine S_nc rfl ?_
        first | refine S_fa0 T.f70_11 rfl ?_ | refine S_fa T.f70_11 rfl ?_
        refine S_ldK T.ag56 rfl (fun K' hK' => ?_)
        simp (disch := omega) only [q0, q1, q2, q3, q4, q5, q6, q7, q8, q9, q10, q11, q12, alens, acode, aroot, asub, awt, aht, anum, apar, adep, aheap, oP_some, Nat.add_zero]
        refine hK' _ ?_; clear hK' K'
        refine S_mv rfl ?_
        first | refine S_ixn T.el56 rfl rfl (by omega) ?_ | refine S_ix1 T.el56 rfl rfl (by omega) (by omega) ?_ | refine S_ix T.el56 rfl rfl (by omega) (by omega) ?_
        refine S_ldK T.ag3 rfl (fun K' hK' => ?_)
        simp (disch := omega) only [q0, q1, q2, q3, q4, q5, q6, q7, q8, q9, q10, q11, q12, alens, acode, aroot, asub, awt, aht, anum, apar, adep, aheap, oP_some, Nat.add_zero]
        refine hK' _ ?_; clear hK' K'
        first | refine S_ixn T.el56 rfl rfl (by omega) ?_ | refine S_ix1 T.el56 rfl rfl (by omega) (by omega) ?_ | refine S_ix T.el56 rfl rfl (by omega) (by omega) ?_
        refine S_st T.sz3 rfl rfl rfl rfl (by simp (disch := omega) only [hoh]) ?_
        generalize hh : putH _ _ _ = h2
        have c2 : CB h2 X { u with heap := ups A i (A ((i - 1) / 2)), fill := u.fill + 1 } := by rw [← hh]; exact ck.pheap i (A ((i - 1) / 2))
        have hE2 : Ext (CT X) hk h2 := by rw [← hh]; exact CB.pute (by omega)
        clear hh
        refine S_nil (hK10 _ _ (V_keep [0, 1, 5] (by simp only [proj, lk, reduceIte, Nat.reduceEqDiff]; rfl) ?_)); clear hK10
        refine V_reg T.mix (by kernel_rfl) ?_
        refine S_mv rfl ?_
        refine S_as rfl ?_
        refine S_nilk [0, 1, 4] (by simp only [proj, lk, reduceIte, Nat.reduceEqDiff]; rfl) ?_
        exact hK4 _ _ ⟨_, by omega, ((i - 1) / 2), h2, ups A i (A ((i - 1) / 2)), c2, hup.step (by omega) c22, hE.trans hE2, rfl, rfl, rfl⟩
    · skip
      refine V_exitk [0, 1, 4] rfl (by simp only [proj, lk, reduceIte, Nat.reduceEqDiff]; rfl) ?_
      exact ⟨i, hk, A, ck, hup, hE, .inl (by omega), rfl, rfl⟩
  rintro l h' ⟨i, hk, A, ck, hup, hE, hst, rfl, rfl⟩
  try clear q0 q1 q2 q3 q4 q5 q6 q7 q8 q9 q10 q11 q12 alens acode aroot asub awt aht anum apar adep aheap
  obtain ⟨q0, q1, q2, q3, q4, q5, q6, q7, q8, q9, q10, q11, q12⟩ := cq ((show CB hk X { u with heap := A, fill := u.fill + 1 } from ck))
  obtain ⟨alens, acode, aroot, asub, awt, aht, anum, apar, adep, aheap⟩ := ca ((show CB hk X { u with heap := A, fill := u.fill + 1 } from ck))
  have hil := hup.lt
  have hoh := ck.oheap
  refine V_reg T.mix (by kernel_rfl) ?_
  refine S_mv rfl ?_
  refine S_nc rfl ?_
  first | refine S_fa0 T.f70_11 rfl ?_ | refine S_fa T.f70_11 rfl ?_
  refine S_ldK T.ag56 rfl (fun K' hK' => ?_)
  simp (disch := omega) only [q0, q1, q2, q3, q4, q5, q6, q7, q8, q9, q10, q11, q12, alens, acode, aroot, asub, awt, aht, anum, apar, adep, aheap, oP_some, Nat.add_zero]
  refine hK' _ ?_; clear hK' K'
  refine S_mv rfl ?_
  refine S_mv rfl ?_
  first | refine S_ixn T.el56 rfl rfl (by omega) ?_ | refine S_ix1 T.el56 rfl rfl (by omega) (by omega) ?_ | refine S_ix T.el56 rfl rfl (by omega) (by omega) ?_
  refine S_st T.sz3 rfl rfl rfl rfl (by simp (disch := omega) only [hoh]) ?_
  generalize hh : putH _ _ _ = h2
  have c2 : CB h2 X { u with heap := ups A i x, fill := u.fill + 1 } := by rw [← hh]; exact ck.pheap i x
  have hE2 : Ext (CT X) hk h2 := by rw [← hh]; exact CB.pute (by omega)
  clear hh
  refine S_nilk [] (by simp only [proj, lk, reduceIte, Nat.reduceEqDiff]; rfl) ?_
  -- end
  refine hR _ _ (ret0 rfl ?_)
  exact ⟨rfl, _, c2, (hup.stop hst).1, (hup.stop hst).2.1, (hup.stop hst).2.2, hE.trans hE2⟩
set_option maxHeartbeats 1600000 in
theorem pop_spec (h : Heap) (X : Nat) (u : HC) (c : CB h X u) (mm : Nat) (hm : u.fill = mm + 1) (hf : mm < 265) (hb : Sm u (In u.heap (mm + 1))) (hp : Hp u.k u.heap (mm + 1)) (hi : Inj u.heap (mm + 1)) :
    FC Tryz.prog 180 (#[.pointer (some ⟨X, 0, none⟩)] : Array Value) h fun rv h' => rv = .int .i64 (u.heap 0 : Int) ∧ ∃ H', CB h' X { u with heap := H', fill := mm } ∧ Hp u.k H' mm ∧ Inj H' mm ∧ (∀ y, In H' mm y ↔ In u.heap (mm + 1) y ∧ y ≠ u.heap 0) ∧ Ext (CT X) h h' := by
  try clear q0 q1 q2 q3 q4 q5 q6 q7 q8 q9 q10 q11 q12 alens acode aroot asub awt aht anum apar adep aheap
  obtain ⟨q0, q1, q2, q3, q4, q5, q6, q7, q8, q9, q10, q11, q12⟩ := cq (c)
  obtain ⟨alens, acode, aroot, asub, awt, aht, anum, apar, adep, aheap⟩ := ca (c)
  have hcok := cok c
  refine FC_of [(0, .pointer (some ⟨X, 0, none⟩))] Tryz.func180 rfl Tryz.ntmps180 (by simp) rfl (fun R hR => ?_)
  refine V_sr T.mix (by kernel_rfl) (fun K1 hK1 => ?_)
  refine S_as rfl ?_
  refine S_nil (hK1 _ _ (V_keep [0] (by simp only [proj, lk, reduceIte, Nat.reduceEqDiff]; rfl) ?_)); clear hK1
  refine V_sr T.mix (by kernel_rfl) (fun K2 hK2 => ?_)
  refine S_mv rfl ?_
  refine S_nc rfl ?_
  first | refine S_fa0 T.f70_11 rfl ?_ | refine S_fa T.f70_11 rfl ?_
  refine S_ldK T.ag56 rfl (fun K' hK' => ?_)
  simp (disch := omega) only [q0, q1, q2, q3, q4, q5, q6, q7, q8, q9, q10, q11, q12, alens, acode, aroot, asub, awt, aht, anum, apar, adep, aheap, oP_some, Nat.add_zero]
  refine hK' _ ?_; clear hK' K'
  first | refine S_ixn T.el56 rfl rfl (by omega) ?_ | refine S_ix1 T.el56 rfl rfl (by omega) (by omega) ?_ | refine S_ix T.el56 rfl rfl (by omega) (by omega) ?_
  refine S_ldK T.ag3 rfl (fun K' hK' => ?_)
  simp (disch := omega) only [q0, q1, q2, q3, q4, q5, q6, q7, q8, q9, q10, q11, q12, alens, acode, aroot, asub, awt, aht, anum, apar, adep, aheap, oP_some, Nat.add_zero]
  refine hK' _ ?_; clear hK' K'
  refine S_as rfl ?_
  refine S_nil (hK2 _ _ (V_keep [0, 3] (by simp only [proj, lk, reduceIte, Nat.reduceEqDiff]; rfl) ?_)); clear hK2
  refine V_sr T.mix (by kernel_rfl) (fun K3 hK3 => ?_)
  refine S_mv rfl ?_
  refine S_nc rfl ?_
  first | refine S_fa0 T.f70_12 rfl ?_ | refine S_fa T.f70_12 rfl ?_
  refine S_ldK T.ag3 rfl (fun K' hK' => ?_)
  simp (disch := omega) only [q0, q1, q2, q3, q4, q5, q6, q7, q8, q9, q10, q11, q12, alens, acode, aroot, asub, awt, aht, anum, apar, adep, aheap, oP_some, Nat.add_zero]
  refine hK' _ ?_; clear hK' K'
  rw [hm]
  refine S_subN mm rfl rfl (by omega) (by omega) ?_
  refine S_nc rfl ?_
  first | refine S_fa0 T.f70_12 rfl ?_ | refine S_fa T.f70_12 rfl ?_
  refine S_st T.sz3 rfl rfl rfl rfl (by simp (disch := omega) only [hcok]) ?_
  generalize hh : putH _ _ _ = h1
  have c1 : CB h1 X { u with fill := mm } := by rw [← hh]; exact c.pfill mm
  have hE1 : Ext (CT X) h h1 := by rw [← hh]; exact CB.putx
  clear hh
  try clear q0 q1 q2 q3 q4 q5 q6 q7 q8 q9 q10 q11 q12 alens acode aroot asub awt aht anum apar adep aheap
  obtain ⟨q0, q1, q2, q3, q4, q5, q6, q7, q8, q9, q10, q11, q12⟩ := cq (c1)
  obtain ⟨alens, acode, aroot, asub, awt, aht, anum, apar, adep, aheap⟩ := ca (c1)
  refine S_nil (hK3 _ _ (V_keep [0, 3] (by simp only [proj, lk, reduceIte, Nat.reduceEqDiff]; rfl) ?_)); clear hK3
  refine V_sr T.mix (by kernel_rfl) (fun K4 hK4 => ?_)
  refine S_mv rfl ?_
  refine S_nc rfl ?_
  first | refine S_fa0 T.f70_11 rfl ?_ | refine S_fa T.f70_11 rfl ?_
  refine S_ldK T.ag56 rfl (fun K' hK' => ?_)
  simp (disch := omega) only [q0, q1, q2, q3, q4, q5, q6, q7, q8, q9, q10, q11, q12, alens, acode, aroot, asub, awt, aht, anum, apar, adep, aheap, oP_some, Nat.add_zero]
  refine hK' _ ?_; clear hK' K'
  refine S_mv rfl ?_
  refine S_nc rfl ?_
  first | refine S_fa0 T.f70_12 rfl ?_ | refine S_fa T.f70_12 rfl ?_
  refine S_ldK T.ag3 rfl (fun K' hK' => ?_)
  simp (disch := omega) only [q0, q1, q2, q3, q4, q5, q6, q7, q8, q9, q10, q11, q12, alens, acode, aroot, asub, awt, aht, anum, apar, adep, aheap, oP_some, Nat.add_zero]
  refine hK' _ ?_; clear hK' K'
  first | refine S_ixn T.el56 rfl rfl (by omega) ?_ | refine S_ix1 T.el56 rfl rfl (by omega) (by omega) ?_ | refine S_ix T.el56 rfl rfl (by omega) (by omega) ?_
  refine S_ldK T.ag3 rfl (fun K' hK' => ?_)
  simp (disch := omega) only [q0, q1, q2, q3, q4, q5, q6, q7, q8, q9, q10, q11, q12, alens, acode, aroot, asub, awt, aht, anum, apar, adep, aheap, oP_some, Nat.add_zero]
  refine hK' _ ?_; clear hK' K'
  refine S_as rfl ?_
  refine S_nil (hK4 _ _ (V_keep [0, 3, 4] (by simp only [proj, lk, reduceIte, Nat.reduceEqDiff]; rfl) ?_)); clear hK4
  refine V_sr T.mix (by kernel_rfl) (fun K5 hK5 => ?_)
  refine S_as rfl ?_
  refine S_nil (hK5 _ _ (V_keep [0, 3, 4, 5] (by simp only [proj, lk, reduceIte, Nat.reduceEqDiff]; rfl) ?_)); clear hK5
  refine V_seqJ (fun l h' => ∃ (i : Nat) (hk : Heap) (A : Nat → Nat), (CB hk X { u with heap := A, fill := mm }) ∧ (Dn u.k u.heap mm (u.heap mm) A i) ∧ (Ext (CT X) h hk) ∧ (∀ j, j < mm → j = 2 * i + 1 ∨ j = 2 * i + 2 → u.k (u.heap mm) ≤ u.k (A j)) ∧ l = [(0, .pointer (some ⟨X, 0, none⟩)), (3, .int .i64 (u.heap 0 : Int)), (4, .int .i64 (u.heap mm : Int)), (5, .int .i64 (i : Int))] ∧ hk = h') ?_ ?_
  · skip
    refine V_block ?_
    refine V_loop (fun m l h' => ∃ (i : Nat) (hk : Heap) (A : Nat → Nat), (CB hk X { u with heap := A, fill := mm }) ∧ (Dn u.k u.heap mm (u.heap mm) A i) ∧ (Ext (CT X) h hk) ∧ m = mm + 1 - i ∧ l = [(0, .pointer (some ⟨X, 0, none⟩)), (3, .int .i64 (u.heap 0 : Int)), (4, .int .i64 (u.heap mm : Int)), (5, .int .i64 (i : Int))] ∧ hk = h') _ ⟨0, h1, u.heap, c1, Dn.start hp hi, hE1, rfl, rfl, rfl⟩ ?_
    rintro m l h' ⟨i, hk, A, ck, hdn, hE, rfl, rfl, rfl⟩ K7 hK7
    try clear q0 q1 q2 q3 q4 q5 q6 q7 q8 q9 q10 q11 q12 alens acode aroot asub awt aht anum apar adep aheap
    obtain ⟨q0, q1, q2, q3, q4, q5, q6, q7, q8, q9, q10, q11, q12⟩ := cq ((show CB hk X { u with heap := A, fill := mm } from ck))
    obtain ⟨alens, acode, aroot, asub, awt, aht, anum, apar, adep, aheap⟩ := ca ((show CB hk X { u with heap := A, fill := mm } from ck))
    have hil := hdn.lt
    have hoh := ck.oheap
    refine V_seq (fun K8 hK8 => ?_)
    refine V_sr T.mix (by kernel_rfl) (fun K9 hK9 => ?_)
    refine S_mv rfl ?_
    first | refine S_mul rfl rfl (by omega) (by omega) ?_ | refine S_bin rfl rfl rfl ?_
    first | refine S_add rfl rfl (by omega) (by omega) ?_ | refine S_bin rfl rfl rfl ?_
    refine S_mv rfl ?_
    refine S_nc rfl ?_
    first | refine S_fa0 T.f70_12 rfl ?_ | refine S_fa T.f70_12 rfl ?_
    refine S_ldK T.ag3 rfl (fun K' hK' => ?_)
    simp (disch := omega) only [q0, q1, q2, q3, q4, q5, q6, q7, q8, q9, q10, q11, q12, alens, acode, aroot, asub, awt, aht, anum, apar, adep, aheap, oP_some, Nat.add_zero]
    refine hK' _ ?_; clear hK' K'
    refine S_bin rfl rfl rfl ?_
    refine S_nil (hK9 _ _ (V_keep [0, 3, 4, 5, 37] (by simp only [proj, lk, reduceIte, Nat.reduceEqDiff]; rfl) ?_)); clear hK9
    refine V_condp rfl (fun c37 => ?_) (fun c37 => ?_)
    · skip
      refine V_skipk [0, 3, 4, 5] (by simp only [proj, lk, reduceIte, Nat.reduceEqDiff]; rfl) ?_
      refine hK8 _ _ ?_; clear hK8
      refine V_block ?_
      refine V_sr T.mix (by kernel_rfl) (fun K10 hK10 => ?_)
      refine S_mv rfl ?_
      first | refine S_mul rfl rfl (by omega) (by omega) ?_ | refine S_bin rfl rfl rfl ?_
      refine S_addN (2 * i + 1) rfl rfl (by omega) (by omega) ?_
      refine S_as rfl ?_
      refine S_nil (hK10 _ _ (V_keep [0, 3, 4, 5, 6] (by simp only [proj, lk, reduceIte, Nat.reduceEqDiff]; rfl) ?_)); clear hK10
      refine V_seqJ (fun l h' => ∃ (cc : Nat), (Kid u.k A mm i cc) ∧ l = [(0, .pointer (some ⟨X, 0, none⟩)), (3, .int .i64 (u.heap 0 : Int)), (4, .int .i64 (u.heap mm : Int)), (5, .int .i64 (i : Int)), (6, .int .i64 (cc : Int))] ∧ hk = h') ?_ ?_
      · skip
        refine V_sr T.mix (by kernel_rfl) (fun K12 hK12 => ?_)
        refine S_mv rfl ?_
        refine S_addN (2 * i + 2) rfl rfl (by omega) (by omega) ?_
        refine S_mv rfl ?_
        refine S_nc rfl ?_
        first | refine S_fa0 T.f70_12 rfl ?_ | refine S_fa T.f70_12 rfl ?_
        refine S_ldK T.ag3 rfl (fun K' hK' => ?_)
        simp (disch := omega) only [q0, q1, q2, q3, q4, q5, q6, q7, q8, q9, q10, q11, q12, alens, acode, aroot, asub, awt, aht, anum, apar, adep, aheap, oP_some, Nat.add_zero]
        refine hK' _ ?_; clear hK' K'
        refine S_bin rfl rfl rfl ?_
        refine S_nil (hK12 _ _ (V_keep [0, 3, 4, 5, 6, 47] (by simp only [proj, lk, reduceIte, Nat.reduceEqDiff]; rfl) ?_)); clear hK12
        refine V_condp rfl (fun c39 => ?_) (fun c39 => ?_)
        · skip
          refine V_sr T.mix (by kernel_rfl) (fun K13 hK13 => ?_)
          refine S_mv rfl ?_
          refine S_mv rfl ?_
          refine S_nc rfl ?_
          first | refine S_fa0 T.f70_11 rfl ?_ | refine S_fa T.f70_11 rfl ?_
          refine S_ldK T.ag56 rfl (fun K' hK' => ?_)
          simp (disch := omega) only [q0, q1, q2, q3, q4, q5, q6, q7, q8, q9, q10, q11, q12, alens, acode, aroot, asub, awt, aht, anum, apar, adep, aheap, oP_some, Nat.add_zero]
          refine hK' _ ?_; clear hK' K'
          refine S_mv rfl ?_
          refine S_addN (2 * i + 2) rfl rfl (by omega) (by omega) ?_
          first | refine S_ixn T.el56 rfl rfl (by omega) ?_ | refine S_ix1 T.el56 rfl rfl (by omega) (by omega) ?_ | refine S_ix T.el56 rfl rfl (by omega) (by omega) ?_
          refine S_ldK T.ag3 rfl (fun K' hK' => ?_)
          simp (disch := omega) only [q0, q1, q2, q3, q4, q5, q6, q7, q8, q9, q10, q11, q12, alens, acode, aroot, asub, awt, aht, anum, apar, adep, aheap, oP_some, Nat.add_zero]
          refine hK' _ ?_; clear hK' K'
          refine S_mv rfl ?_
          refine S_nc rfl ?_
          first | refine S_fa0 T.f70_11 rfl ?_ | refine S_fa T.f70_11 rfl ?_
          refine S_ldK T.ag56 rfl (fun K' hK' => ?_)
          simp (disch := omega) only [q0, q1, q2, q3, q4, q5, q6, q7, q8, q9, q10, q11, q12, alens, acode, aroot, asub, awt, aht, anum, apar, adep, aheap, oP_some, Nat.add_zero]
          refine hK' _ ?_; clear hK' K'
          refine S_mv rfl ?_
          first | refine S_ixn T.el56 rfl rfl (by omega) ?_ | refine S_ix1 T.el56 rfl rfl (by omega) (by omega) ?_ | refine S_ix T.el56 rfl rfl (by omega) (by omega) ?_
          refine S_ldK T.ag3 rfl (fun K' hK' => ?_)
          simp (disch := omega) only [q0, q1, q2, q3, q4, q5, q6, q7, q8, q9, q10, q11, q12, alens, acode, aroot, asub, awt, aht, anum, apar, adep, aheap, oP_some, Nat.add_zero]
          refine hK' _ ?_; clear hK' K'
          refine S_call T.hb182 rfl ?_
          have hA1 := (hdn.s (A (2 * i + 1))).1 ⟨2 * i + 1, by omega, ups_ne _ _ (by omega)⟩
          have hA2 := (hdn.s (A (2 * i + 2))).1 ⟨2 * i + 2, by omega, ups_ne _ _ (by omega)⟩
          obtain ⟨y1, y2, y3⟩ := hb _ hA1.1
          obtain ⟨x1, x2, x3⟩ := hb _ hA2.1
          refine FC.mono (less_spec hk X { u with heap := A, fill := mm } ck (A (2 * i + 2)) (A (2 * i + 1)) x1 y1 x2 y2 x3 y3) ?_
          rintro v' h' ⟨rfl, rfl⟩
          refine S_nil (hK13 _ _ (V_keep [0, 3, 4, 5, 6, 64] (by simp only [proj, lk, reduceIte, Nat.reduceEqDiff]; rfl) ?_)); clear hK13
          refine V_condb rfl (fun c40 => ?_) (fun c40 => ?_)
          · skip
            replace c40 : u.k (A (2 * i + 2)) < u.k (A (2 * i + 1)) := by have h9 := c40; simp only [Bool.not_eq_true', Bool.not_eq_false', decide_eq_false_iff_not, decide_eq_true_eq, Classical.not_not, Bool.not_eq_true, Bool.not_eq_false] at h9; exact h9
            refine V_reg T.mix (by kernel_rfl) ?_
            refine S_mv rfl ?_
            refine S_addN (2 * i + 2) rfl rfl (by omega) (by omega) ?_
            refine S_as rfl ?_
            refine S_nilk [0, 3, 4, 5, 6] (by simp only [proj, lk, reduceIte, Nat.reduceEqDiff]; rfl) ?_
            exact ⟨2 * i + 2, ⟨by omega, .inr rfl, fun j hj e => by rcases e with e | e; (rw [e]; exact Nat.le_of_lt c40); (rw [e]; exact Nat.le_refl _)⟩, rfl, rfl⟩
          · skip
            replace c40 : ¬ u.k (A (2 * i + 2)) < u.k (A (2 * i + 1)) := by have h9 := c40; simp only [Bool.not_eq_true', Bool.not_eq_false', decide_eq_false_iff_not, decide_eq_true_eq, Classical.not_not, Bool.not_eq_true, Bool.not_eq_false] at h9; exact h9
            refine V_skipk [0, 3, 4, 5, 6] (by simp only [proj, lk, reduceIte, Nat.reduceEqDiff]; rfl) ?_
            exact ⟨2 * i + 1, ⟨by omega, .inl rfl, fun j hj e => by rcases e with e | e; (rw [e]; exact Nat.le_refl _); (rw [e]; exact Nat.not_lt.1 c40)⟩, rfl, rfl⟩
        · skip
          refine V_skipk [0, 3, 4, 5, 6] (by simp only [proj, lk, reduceIte, Nat.reduceEqDiff]; rfl) ?_
          exact ⟨2 * i + 1, ⟨by omega, .inl rfl, fun j hj e => by rcases e with e | e; (rw [e]; exact Nat.le_refl _); (omega)⟩, rfl, rfl⟩
      rintro l h' ⟨cc, hkid, rfl, rfl⟩
      have hk1 := hkid.1
      have hk2 := hkid.2.1
      refine V_seq (fun K14 hK14 => ?_)
      refine V_sr T.mix (by kernel_rfl) (fun K15 hK15 => ?_)
      refine S_mv rfl ?_
      refine S_mv rfl ?_
      refine S_nc rfl ?_
      first | refine S_fa0 T.f70_11 rfl ?_ | refine S_fa T.f70_11 rfl ?_
      refine S_ldK T.ag56 rfl (fun K' hK' => ?_)
      simp (disch := omega) only [q0, q1, q2, q3, q4, q5, q6, q7, q8, q9, q10, q11, q12, alens, acode, aroot, asub, awt, aht, anum, apar, adep, aheap, oP_some, Nat.add_zero]
      refine hK' _ ?_; clear hK' K'
      refine S_mv rfl ?_
      first | refine S_ixn T.el56 rfl rfl (by omega) ?_ | refine S_ix1 T.el56 rfl rfl (by omega) (by omega) ?_ | refine S_ix T.el56 rfl rfl (by omega) (by omega) ?_
      refine S_ldK T.ag3 rfl (fun K' hK' => ?_)
      simp (disch := omega) only [q0, q1, q2, q3, q4, q5, q6, q7, q8, q9, q10, q11, q12, alens, acode, aroot, asub, awt, aht, anum, apar, adep, aheap, oP_some, Nat.add_zero]
      refine hK' _ ?_; clear hK' K'
      refine S_mv rfl ?_
      refine S_call T.hb182 rfl ?_
      have hA1 := (hdn.s (A cc)).1 ⟨cc, hkid.1, ups_ne _ _ (by have h9 := hkid.2.1; omega)⟩
      obtain ⟨y1, y2, y3⟩ := hb _ hA1.1
      obtain ⟨x1, x2, x3⟩ := hb (u.heap mm) ⟨mm, by omega, rfl⟩
      refine FC.mono (less_spec hk X { u with heap := A, fill := mm } ck (A cc) (u.heap mm) y1 x1 y2 x2 y3 x3) ?_
      rintro v' h' ⟨rfl, rfl⟩
      refine S_notb rfl ?_
      refine S_nil (hK15 _ _ (V_keep [0, 3, 4, 5, 6, 77] (by simp only [proj, lk, reduceIte, Nat.reduceEqDiff]; rfl) ?_)); clear hK15
      refine V_condb rfl (fun c44 => ?_) (fun c44 => ?_)
      · skip
        replace c44 : ¬ u.k (A cc) < u.k (u.heap mm) := by have h9 := c44; simp only [Bool.not_eq_true', Bool.not_eq_false', decide_eq_false_iff_not, decide_eq_true_eq, Classical.not_not, Bool.not_eq_true, Bool.not_eq_false] at h9; exact h9
        refine V_exitk [0, 3, 4, 5] rfl (by simp only [proj, lk, reduceIte, Nat.reduceEqDiff]; rfl) ?_
        exact ⟨i, hk, A, ck, hdn, hE, fun j hj e => Nat.le_trans (Nat.not_lt.1 c44) (hkid.2.2 j hj e), rfl, rfl⟩
      · skip
        replace c44 : u.k (A cc) < u.k (u.heap mm) := by have h9 := c44; simp only [Bool.not_eq_true', Bool.not_eq_false', decide_eq_false_iff_not, decide_eq_true_eq, Classical.not_not, Bool.not_eq_true, Bool.not_eq_false] at h9; exact h9
        refine V_skipk [0, 3, 4, 5, 6] (by simp only [proj, lk, reduceIte, Nat.reduceEqDiff]; rfl) ?_
        refine hK14 _ _ ?_; clear hK14
        refine V_sr T.mix (by kernel_rfl) (fun K16 hK16 => ?_)
        refine S_mv rfl ?_
        refine S_nc rfl ?_
        first | refine S_fa0 T.f70_11 rfl ?_ | refine S_fa T.f70_11 rfl ?_
        refine S_ldK T.ag56 rfl (fun K' hK' => ?_)
        simp (disch := omega) only [q0, q1, q2, q3, q4, q5, q6, q7, q8, q9, q10, q11, q12, alens, acode, aroot, asub, awt, aht, anum, apar, adep, aheap, oP_some, Nat.add_zero]
        refine hK' _ ?_; clear hK' K'
        refine S_mv rfl ?_
        refine S_mv rfl ?_
        refine S_nc rfl ?_
        first | refine S_fa0 T.f70_11 rfl ?_ | refine S_fa T.f70_11 rfl ?_
        refine S_ldK T.ag56 rfl (fun K' hK' => ?_)
        simp (disch := omega) only [q0, q1, q2, q3, q4, q5, q6, q7, q8, q9, q10, q11, q12, alens, acode, aroot, asub, awt, aht, anum, apar, adep, aheap, oP_some, Nat.add_zero]
        refine hK' _ ?_; clear hK' K'
        refine S_mv rfl ?_
        first | refine S_ixn T.el56 rfl rfl (by omega) ?_ | refine S_ix1 T.el56 rfl rfl (by omega) (by omega) ?_ | refine S_ix T.el56 rfl rfl (by omega) (by omega) ?_
        refine S_ldK T.ag3 rfl (fun K' hK' => ?_)
        simp (disch := omega) only [q0, q1, q2, q3, q4, q5, q6, q7, q8, q9, q10, q11, q12, alens, acode, aroot, asub, awt, aht, anum, apar, adep, aheap, oP_some, Nat.add_zero]
        refine hK' _ ?_; clear hK' K'
        first | refine S_ixn T.el56 rfl rfl (by omega) ?_ | refine S_ix1 T.el56 rfl rfl (by omega) (by omega) ?_ | refine S_ix T.el56 rfl rfl (by omega) (by omega) ?_
        refine S_st T.sz3 rfl rfl rfl rfl (by simp (disch := omega) only [hoh]) ?_
        generalize hh : putH _ _ _ = h2
        have c2 : CB h2 X { u with heap := ups A i (A cc), fill := mm } := by rw [← hh]; exact ck.pheap i (A cc)
        have hE2 : Ext (CT X) hk h2 := by rw [← hh]; exact CB.pute (by omega)
        clear hh
        refine S_nil (hK16 _ _ (V_keep [0, 3, 4, 6] (by simp only [proj, lk, reduceIte, Nat.reduceEqDiff]; rfl) ?_)); clear hK16
        refine V_reg T.mix (by kernel_rfl) ?_
        refine S_mv rfl ?_
        refine S_as rfl ?_
        refine S_nilk [0, 3, 4, 5] (by simp only [proj, lk, reduceIte, Nat.reduceEqDiff]; rfl) ?_
        exact hK7 _ _ ⟨_, by omega, cc, h2, ups A i (A cc), c2, hdn.step hkid c44, hE.trans hE2, rfl, rfl, rfl⟩
    · skip
      refine V_exitk [0, 3, 4, 5] rfl (by simp only [proj, lk, reduceIte, Nat.reduceEqDiff]; rfl) ?_
      exact ⟨i, hk, A, ck, hdn, hE, fun j hj e => by omega, rfl, rfl⟩
  rintro l h' ⟨i, hk, A, ck, hdn, hE, hst, rfl, rfl⟩
  try clear q0 q1 q2 q3 q4 q5 q6 q7 q8 q9 q10 q11 q12 alens acode aroot asub awt aht anum apar adep aheap
  obtain ⟨q0, q1, q2, q3, q4, q5, q6, q7, q8, q9, q10, q11, q12⟩ := cq ((show CB hk X { u with heap := A, fill := mm } from ck))
  obtain ⟨alens, acode, aroot, asub, awt, aht, anum, apar, adep, aheap⟩ := ca ((show CB hk X { u with heap := A, fill := mm } from ck))
  have hil := hdn.lt
  have hoh := ck.oheap
  refine V_sr T.mix (by kernel_rfl) (fun K17 hK17 => ?_)
  refine S_mv rfl ?_
  refine S_nc rfl ?_
  first | refine S_fa0 T.f70_11 rfl ?_ | refine S_fa T.f70_11 rfl ?_
  refine S_ldK T.ag56 rfl (fun K' hK' => ?_)
  simp (disch := omega) only [q0, q1, q2, q3, q4, q5, q6, q7, q8, q9, q10, q11, q12, alens, acode, aroot, asub, awt, aht, anum, apar, adep, aheap, oP_some, Nat.add_zero]
  refine hK' _ ?_; clear hK' K'
  refine S_mv rfl ?_
  refine S_mv rfl ?_
  first | refine S_ixn T.el56 rfl rfl (by omega) ?_ | refine S_ix1 T.el56 rfl rfl (by omega) (by omega) ?_ | refine S_ix T.el56 rfl rfl (by omega) (by omega) ?_
  refine S_st T.sz3 rfl rfl rfl rfl (by simp (disch := omega) only [hoh]) ?_
  generalize hh : putH _ _ _ = h2
  have c2 : CB h2 X { u with heap := ups A i (u.heap mm), fill := mm } := by rw [← hh]; exact ck.pheap i (u.heap mm)
  have hE2 : Ext (CT X) hk h2 := by rw [← hh]; exact CB.pute (by omega)
  clear hh
  refine S_nil (hK17 _ _ (V_keep [3] (by simp only [proj, lk, reduceIte, Nat.reduceEqDiff]; rfl) ?_)); clear hK17
  refine V_sr T.mix (by kernel_rfl) (fun K18 hK18 => ?_)
  refine S_mv rfl ?_
  refine S_as rfl ?_
  refine S_nil (hK18 _ _ (V_keep [2] (by simp only [proj, lk, reduceIte, Nat.reduceEqDiff]; rfl) ?_)); clear hK18
  refine V_ret ?_
  refine hR _ _ (ret1 rfl rfl ?_)
  exact ⟨rfl, _, c2, (hdn.stop hst).1, (hdn.stop hst).2.1, (hdn.stop hst).2.2, hE.trans hE2⟩
end Go.Proofs.Qxb6500404aGreat.HufW
