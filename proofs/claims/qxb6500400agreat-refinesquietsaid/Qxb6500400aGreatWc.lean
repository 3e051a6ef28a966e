import Derived.Test.Qxb6500400aGreatRc
set_option linter.unusedVariables false
set_option linter.unusedSimpArgs false
namespace Go.Proofs.Qxb6500400aGreat
open Go.Eng Go.Trl

theorem OwnR_lo0 {lo : Nat} {h : Heap} {a : Option Addr} {k cap : Nat} {xs : List Value} {e : TypeId} {size : Nat} (ho : OwnR lo h a k cap xs e size) : OwnR 0 h a k cap xs e size := by
  rcases ho with x | ⟨b, cs, h1, h2, h3⟩
  · exact .inl x
  · exact .inr ⟨b, cs, h1, Nat.zero_le _, h3⟩
theorem its_one (L : List It) : ∀ v ∈ its L, v.oneCell' = true := by
  intro v hv
  simp only [its, List.mem_flatMap, itC] at hv
  obtain ⟨x, _, hx⟩ := hv
  simp at hx
  rcases hx with e | e | e <;> subst e <;> rfl
theorem new_blk {h h2 : Heap} {a a1 : Option Addr} {n : Nat} (hb : blkA a1 = blkA a ∨ blkA a1 = some n) (hn : h.size ≤ n) : ∀ b, blkA a1 = some b → blkA a = some b ∨ h.size ≤ b := fun b e => by
  rcases hb with x | x
  · exact .inl (x ▸ e)
  · rw [x] at e; cases e; exact .inr hn
set_option maxHeartbeats 400000 in
theorem mlevel_spec (h : Heap) (M : Nat) (F : Nat → Prop) (s : TS) (ms : MS h M F s) :
    FC Tryz.prog 49 (#[.pointer (some ⟨M, 0, none⟩)] : Array Value) h fun v h' => v = .int .i64 (s.k : Int) ∧ h = h' := by
  obtain ⟨a, cap, ja, jc, js, mt, hF⟩ := ms
  have m0 := mt.c0
  have m1 := mt.c1
  have m2 := mt.c2
  have m3 := mt.c3
  have g0 := m0
  have g1 := m0
  have g2 := m0
  have hlen := TI.len mt.ok
  have hdep := TI.dep mt.ok
  have hcc := mt.ok.c
  refine FC_of [(0, .pointer (some ⟨M, 0, none⟩))] Tryz.func49 rfl Tryz.ntmps49 (by simp) rfl (fun R hR => ?_)
  refine V_sr T.mix (by kernel_rfl) (fun K1 hK1 => ?_)
  refine S_as rfl ?_
  refine S_nil (hK1 _ _ (V_keep [0] (by simp only [proj, lk, reduceIte, Nat.reduceEqDiff]; rfl) ?_)); clear hK1
  refine V_sr T.mix (by kernel_rfl) (fun K2 hK2 => ?_)
  refine S_mv rfl ?_
  refine S_nc rfl ?_
  first | refine S_fa0 T.f87_1 rfl ?_ | refine S_fa T.f87_1 rfl ?_
  refine S_ldK T.ag3 rfl (fun K' hK' => ?_)
  simp (disch := omega) only [m0, m1, m2, m3, g0, g1, g2, oP_some, Nat.add_zero]
  refine hK' _ ?_; clear hK' K'
  refine S_as rfl ?_
  refine S_nil (hK2 _ _ (V_keep [2] (by simp only [proj, lk, reduceIte, Nat.reduceEqDiff]; rfl) ?_)); clear hK2
  refine V_ret ?_
  refine hR _ _ (ret1 rfl rfl ?_)
  exact ⟨rfl, rfl⟩
set_option maxHeartbeats 400000 in
theorem mlen_spec (h : Heap) (M : Nat) (F : Nat → Prop) (s : TS) (ms : MS h M F s) :
    FC Tryz.prog 50 (#[.pointer (some ⟨M, 0, none⟩)] : Array Value) h fun v h' => v = .int .i64 (s.L.length : Int) ∧ h = h' := by
  obtain ⟨a, cap, ja, jc, js, mt, hF⟩ := ms
  have m0 := mt.c0
  have m1 := mt.c1
  have m2 := mt.c2
  have m3 := mt.c3
  have g0 := m0
  have g1 := m0
  have g2 := m0
  have hlen := TI.len mt.ok
  have hdep := TI.dep mt.ok
  have hcc := mt.ok.c
  refine FC_of [(0, .pointer (some ⟨M, 0, none⟩))] Tryz.func50 rfl Tryz.ntmps50 (by simp) rfl (fun R hR => ?_)
  refine V_sr T.mix (by kernel_rfl) (fun K1 hK1 => ?_)
  refine S_as rfl ?_
  refine S_nil (hK1 _ _ (V_keep [0] (by simp only [proj, lk, reduceIte, Nat.reduceEqDiff]; rfl) ?_)); clear hK1
  refine V_sr T.mix (by kernel_rfl) (fun K2 hK2 => ?_)
  refine S_mv rfl ?_
  refine S_nc rfl ?_
  first | refine S_fa0 T.f87_0 rfl ?_ | refine S_fa T.f87_0 rfl ?_
  refine S_ldK T.ag85 rfl (fun K' hK' => ?_)
  simp (disch := omega) only [m0, m1, m2, m3, g0, g1, g2, oP_some, Nat.add_zero]
  refine hK' _ ?_; clear hK' K'
  refine S_lenl T.el85 rfl ?_
  refine S_as rfl ?_
  refine S_nil (hK2 _ _ (V_keep [2] (by simp only [proj, lk, reduceIte, Nat.reduceEqDiff]; rfl) ?_)); clear hK2
  refine V_ret ?_
  refine hR _ _ (ret1 rfl rfl ?_)
  exact ⟨rfl, rfl⟩
set_option maxHeartbeats 400000 in
theorem mpending_spec (h : Heap) (M : Nat) (F : Nat → Prop) (s : TS) (ms : MS h M F s) :
    FC Tryz.prog 51 (#[.pointer (some ⟨M, 0, none⟩)] : Array Value) h fun v h' => v = .int .i64 ((s.L.length : Int) - s.c) ∧ h = h' := by
  obtain ⟨a, cap, ja, jc, js, mt, hF⟩ := ms
  have m0 := mt.c0
  have m1 := mt.c1
  have m2 := mt.c2
  have m3 := mt.c3
  have g0 := m0
  have g1 := m0
  have g2 := m0
  have hlen := TI.len mt.ok
  have hdep := TI.dep mt.ok
  have hcc := mt.ok.c
  refine FC_of [(0, .pointer (some ⟨M, 0, none⟩))] Tryz.func51 rfl Tryz.ntmps51 (by simp) rfl (fun R hR => ?_)
  refine V_sr T.mix (by kernel_rfl) (fun K1 hK1 => ?_)
  refine S_as rfl ?_
  refine S_nil (hK1 _ _ (V_keep [0] (by simp only [proj, lk, reduceIte, Nat.reduceEqDiff]; rfl) ?_)); clear hK1
  refine V_sr T.mix (by kernel_rfl) (fun K2 hK2 => ?_)
  refine S_mv rfl ?_
  refine S_nc rfl ?_
  first | refine S_fa0 T.f87_0 rfl ?_ | refine S_fa T.f87_0 rfl ?_
  refine S_ldK T.ag85 rfl (fun K' hK' => ?_)
  simp (disch := omega) only [m0, m1, m2, m3, g0, g1, g2, oP_some, Nat.add_zero]
  refine hK' _ ?_; clear hK' K'
  refine S_lenl T.el85 rfl ?_
  refine S_mv rfl ?_
  refine S_nc rfl ?_
  first | refine S_fa0 T.f87_2 rfl ?_ | refine S_fa T.f87_2 rfl ?_
  refine S_ldK T.ag3 rfl (fun K' hK' => ?_)
  simp (disch := omega) only [m0, m1, m2, m3, g0, g1, g2, oP_some, Nat.add_zero]
  refine hK' _ ?_; clear hK' K'
  first | refine S_sub rfl rfl (by omega) (by omega) ?_ | refine S_bin rfl rfl rfl ?_
  refine S_as rfl ?_
  refine S_nil (hK2 _ _ (V_keep [2] (by simp only [proj, lk, reduceIte, Nat.reduceEqDiff]; rfl) ?_)); clear hK2
  refine V_ret ?_
  refine hR _ _ (ret1 rfl rfl ?_)
  exact ⟨rfl, rfl⟩
set_option maxHeartbeats 400000 in
theorem mnew_spec (h : Heap) :
    FC Tryz.prog 19 (#[] : Array Value) h fun v h' => v = .pointer (some ⟨h.size, 0, none⟩) ∧ MS h' h.size (fun b => b = h.size) ⟨[], 0, 0⟩ ∧ Ext (fun _ => False) h h' := by
  refine FC_of [] Tryz.func19 rfl Tryz.ntmps19 (by simp) rfl (fun R hR => ?_)
  refine V_sr T.mix (by kernel_rfl) (fun K1 hK1 => ?_)
  refine S_as rfl ?_
  refine S_nil (hK1 _ _ (V_keep [] (by simp only [proj, lk, reduceIte, Nat.reduceEqDiff]; rfl) ?_)); clear hK1
  refine V_sr T.mix (by kernel_rfl) (fun K2 hK2 => ?_)
  refine S_bld rfl (T.bld87) ?_
  refine S_boxA rfl ?_
  generalize hh : Array.push h _ = h1
  have hB : B h1 h.size #[.slice none 0 0, .int .i64 0, .int .i64 0, .slice none 0 0] 87 := by rw [← hh]; exact B.new _ _ _
  have hE1 : Ext (fun _ => False) h h1 := by rw [← hh]; exact Ext.push _ _ _
  clear hh
  refine S_as rfl ?_
  refine S_nil (hK2 _ _ (V_keep [0] (by simp only [proj, lk, reduceIte, Nat.reduceEqDiff]; rfl) ?_)); clear hK2
  refine V_ret ?_
  refine hR _ _ (ret1 rfl rfl ?_)
  exact ⟨rfl, ⟨none, 0, none, 0, [], ⟨hB, OwnR.nil _ _ _ _, OwnR.nil _ _ _ _, by simp [blkA], by simp [blkA], by simp [blkA], Ok.zero, by simp⟩, by simp [blkA]⟩, hE1⟩
set_option maxHeartbeats 400000 in
theorem mreset_spec (h : Heap) (M : Nat) (F : Nat → Prop) (s : TS) (ms : MS h M F s) :
    FC Tryz.prog 80 (#[.pointer (some ⟨M, 0, none⟩)] : Array Value) h fun rv h' => rv = .tuple #[] ∧ ∃ F', MS h' M F' (⟨[], 0, 0⟩) ∧ MX F F' h h' := by
  obtain ⟨a, cap, ja, jc, js, mt, hF⟩ := ms
  have m0 := mt.c0
  have m1 := mt.c1
  have m2 := mt.c2
  have m3 := mt.c3
  have g0 := m0
  have g1 := m0
  have g2 := m0
  have hlen := TI.len mt.ok
  have hdep := TI.dep mt.ok
  have hcc := mt.ok.c
  have mok : ∀ j, j < 4 → okPut h ⟨M, j, none⟩ = true := fun j hj => mt.t.ok (by simpa using hj)
  refine FC_of [(0, .pointer (some ⟨M, 0, none⟩))] Tryz.func80 rfl Tryz.ntmps80 (by simp) rfl (fun R hR => ?_)
  refine V_sr T.mix (by kernel_rfl) (fun K1 hK1 => ?_)
  refine S_mv rfl ?_
  refine S_nc rfl ?_
  first | refine S_fa0 T.f87_0 rfl ?_ | refine S_fa T.f87_0 rfl ?_
  refine S_st T.sz85 rfl rfl rfl rfl (by simp (disch := omega) only [mok]) ?_
  generalize hh : putH _ _ _ = h1
  have hTh1 : B h1 M #[.slice none (0) 0, .int .i64 (s.k), .int .i64 (s.c), .slice ja (js.length) jc] 87 := by rw [← hh]; exact mt.t.put 0 _
  have hEh1 : Ext (fun x => x = M) h h1 := by rw [← hh]; exact Ext.put _ _ rfl
  clear hh
  try clear mok
  have mok : ∀ j, j < 4 → okPut h1 ⟨M, j, none⟩ = true := fun j hj => hTh1.ok (by simpa using hj)
  refine S_nil (hK1 _ _ (V_keep [0] (by simp only [proj, lk, reduceIte, Nat.reduceEqDiff]; rfl) ?_)); clear hK1
  refine V_sr T.mix (by kernel_rfl) (fun K2 hK2 => ?_)
  refine S_mv rfl ?_
  refine S_nc rfl ?_
  first | refine S_fa0 T.f87_1 rfl ?_ | refine S_fa T.f87_1 rfl ?_
  refine S_st T.sz3 rfl rfl rfl rfl (by simp (disch := omega) only [mok]) ?_
  generalize hh : putH _ _ _ = h2
  have hTh2 : B h2 M #[.slice none (0) 0, .int .i64 (0), .int .i64 (s.c), .slice ja (js.length) jc] 87 := by rw [← hh]; exact hTh1.put 1 _
  have hEh2 : Ext (fun x => x = M) h1 h2 := by rw [← hh]; exact Ext.put _ _ rfl
  clear hh
  try clear mok
  have mok : ∀ j, j < 4 → okPut h2 ⟨M, j, none⟩ = true := fun j hj => hTh2.ok (by simpa using hj)
  refine S_nil (hK2 _ _ (V_keep [0] (by simp only [proj, lk, reduceIte, Nat.reduceEqDiff]; rfl) ?_)); clear hK2
  refine V_reg T.mix (by kernel_rfl) ?_
  refine S_mv rfl ?_
  refine S_nc rfl ?_
  first | refine S_fa0 T.f87_2 rfl ?_ | refine S_fa T.f87_2 rfl ?_
  refine S_st T.sz3 rfl rfl rfl rfl (by simp (disch := omega) only [mok]) ?_
  generalize hh : putH _ _ _ = h3
  have hTh3 : B h3 M #[.slice none (0) 0, .int .i64 (0), .int .i64 (0), .slice ja (js.length) jc] 87 := by rw [← hh]; exact hTh2.put 2 _
  have hEh3 : Ext (fun x => x = M) h2 h3 := by rw [← hh]; exact Ext.put _ _ rfl
  clear hh
  try clear mok
  have mok : ∀ j, j < 4 → okPut h3 ⟨M, j, none⟩ = true := fun j hj => hTh3.ok (by simpa using hj)
  refine S_nilk [] (by simp only [proj, lk, reduceIte, Nat.reduceEqDiff]; rfl) ?_
  -- end
  refine hR _ _ (ret0 rfl ?_)
  exact ⟨rfl, fun b => b = M ∨ blkA ja = some b, ⟨none, 0, ja, jc, js, ⟨hTh3, OwnR.nil _ _ _ _, OwnR.ext mt.ju ((hEh1.trans hEh2).trans hEh3) (fun b e x => mt.n2 (by rw [e, ← x]; rfl)), by simp [blkA], mt.n2, by simp [blkA], Ok.zero, mt.jl⟩, by simp [blkA]⟩, ⟨((hEh1.trans hEh2).trans hEh3).mono fun b e => (hF b).2 (.inl e), fun b e => .inl ((hF b).2 (by rcases e with e | e; exact .inl e; exact .inr (.inr e)))⟩⟩
set_option maxHeartbeats 400000 in
theorem find_spec (h : Heap) (M : Nat) (F : Nat → Prop) (s : TS) (ms : MS h M F s) (v : Int) :
    FC Tryz.prog 88 (#[.pointer (some ⟨M, 0, none⟩), .int .i64 v] : Array Value) h fun rv h' => rv = .int .i64 (plaV s.L v) ∧ h = h' := by
  obtain ⟨a, cap, ja, jc, js, mt, hF⟩ := ms
  have m0 := mt.c0
  have m1 := mt.c1
  have m2 := mt.c2
  have m3 := mt.c3
  have g0 := m0
  have g1 := m0
  have g2 := m0
  have hlen := TI.len mt.ok
  have hdep := TI.dep mt.ok
  have hcc := mt.ok.c
  refine FC_of [(0, .pointer (some ⟨M, 0, none⟩)), (1, .int .i64 v)] Tryz.func88 rfl Tryz.ntmps88 (by simp) rfl (fun R hR => ?_)
  refine V_sr T.mix (by kernel_rfl) (fun K1 hK1 => ?_)
  refine S_as rfl ?_
  refine S_nil (hK1 _ _ (V_keep [0, 1] (by simp only [proj, lk, reduceIte, Nat.reduceEqDiff]; rfl) ?_)); clear hK1
  refine V_seq (fun K2 hK2 => ?_)
  refine V_sr T.mix (by kernel_rfl) (fun K3 hK3 => ?_)
  refine S_as rfl ?_
  refine S_nil (hK3 _ _ (V_keep [0, 1, 5] (by simp only [proj, lk, reduceIte, Nat.reduceEqDiff]; rfl) ?_)); clear hK3
  refine V_block ?_
  refine V_loop (fun m l h' => ∃ (i : Nat), (i ≤ s.L.length) ∧ (loc (s.L.take i) v = none) ∧ m = s.L.length - i ∧ l = [(0, .pointer (some ⟨M, 0, none⟩)), (1, .int .i64 v), (5, .int .i64 (i : Int))] ∧ h = h') _ ⟨0, by omega, rfl, rfl, rfl, rfl⟩ ?_
  rintro m l h' ⟨i, hi, hn, rfl, rfl, rfl⟩ K4 hK4
  refine V_seq (fun K5 hK5 => ?_)
  refine V_sr T.mix (by kernel_rfl) (fun K6 hK6 => ?_)
  refine S_mv rfl ?_
  refine S_mv rfl ?_
  refine S_nc rfl ?_
  first | refine S_fa0 T.f87_0 rfl ?_ | refine S_fa T.f87_0 rfl ?_
  refine S_ldK T.ag85 rfl (fun K' hK' => ?_)
  simp (disch := omega) only [m0, m1, m2, m3, g0, g1, g2, oP_some, Nat.add_zero]
  refine hK' _ ?_; clear hK' K'
  refine S_lenl T.el85 rfl ?_
  refine S_bin rfl rfl rfl ?_
  refine S_nil (hK6 _ _ (V_keep [0, 1, 5, 12] (by simp only [proj, lk, reduceIte, Nat.reduceEqDiff]; rfl) ?_)); clear hK6
  refine V_condp rfl (fun c37 => ?_) (fun c37 => ?_)
  · skip
    clear g0 g1 g2
    obtain ⟨ab, rfl, hab, hgt⟩ := row_get mt.it (by omega)
    have g0 := (hgt i (by omega)).1
    have g1 := (hgt i (by omega)).2.1
    have g2 := (hgt i (by omega)).2.2
    have hlt0 : i < s.L.length := by omega
    have hxi : s.L[i]? = some (s.L.getD i ⟨0, 0, 0⟩) := by simp [hlt0]
    have hgd := (mt.ok.g _ (List.mem_of_getElem? hxi)).1
    unfold good at hgd
    refine V_skipk [0, 1, 5] (by simp only [proj, lk, reduceIte, Nat.reduceEqDiff]; rfl) ?_
    refine hK5 _ _ ?_; clear hK5
    refine V_seq (fun K7 hK7 => ?_)
    refine V_block ?_
    refine V_sr T.mix (by kernel_rfl) (fun K8 hK8 => ?_)
    refine S_mv rfl ?_
    refine S_nc rfl ?_
    first | refine S_fa0 T.f87_0 rfl ?_ | refine S_fa T.f87_0 rfl ?_
    refine S_ldK T.ag85 rfl (fun K' hK' => ?_)
    simp (disch := omega) only [m0, m1, m2, m3, g0, g1, g2, oP_some, Nat.add_zero]
    refine hK' _ ?_; clear hK' K'
    refine S_mv rfl ?_
    first | refine S_ixmn T.el85 rfl rfl (by omega) ?_ | refine S_ixm T.el85 rfl rfl (by omega) (by omega) ?_ | refine S_ix T.el85 rfl rfl (by omega) (by omega) ?_
    first | refine S_fa0 T.f114_0 rfl ?_ | refine S_fa T.f114_0 rfl ?_
    refine S_ldK T.ag3 rfl (fun K' hK' => ?_)
    simp (disch := omega) only [m0, m1, m2, m3, g0, g1, g2, oP_some, Nat.add_zero]
    refine hK' _ ?_; clear hK' K'
    refine S_call T.hb65 rfl ?_
    refine FC.mono (var_spec h (s.L.getD i ⟨0, 0, 0⟩).lit (by omega) (by omega)) ?_
    rintro v' h' ⟨rfl, rfl⟩
    refine S_mv rfl ?_
    refine S_bin rfl rfl rfl ?_
    refine S_nil (hK8 _ _ (V_keep [0, 1, 5, 25] (by simp only [proj, lk, reduceIte, Nat.reduceEqDiff]; rfl) ?_)); clear hK8
    refine V_condp rfl (fun c38 => ?_) (fun c38 => ?_)
    · skip
      have hfd := loc_at hn hxi (by rw [vr_abs]; exact c38)
      refine V_sr T.mix (by kernel_rfl) (fun K9 hK9 => ?_)
      refine S_mv rfl ?_
      refine S_as rfl ?_
      refine S_nil (hK9 _ _ (V_keep [4] (by simp only [proj, lk, reduceIte, Nat.reduceEqDiff]; rfl) ?_)); clear hK9
      refine V_ret ?_
      refine hR _ _ (ret1 rfl rfl ?_)
      exact ⟨by unfold plaV; rw [hfd], rfl⟩
    · skip
      have hn2 : loc (s.L.take (i + 1)) v = none := by rw [List.take_add_one, hxi, Option.toList_some, loc_app, hn]; simp only []; rw [if_neg (by rw [vr_abs]; exact c38)]
      refine V_skipk [0, 1, 5] (by simp only [proj, lk, reduceIte, Nat.reduceEqDiff]; rfl) ?_
      refine hK7 _ _ ?_; clear hK7
      refine V_reg T.mix (by kernel_rfl) ?_
      refine S_mv rfl ?_
      first | refine S_add rfl rfl (by omega) (by omega) ?_ | refine S_bin rfl rfl rfl ?_
      refine S_as rfl ?_
      refine S_nilk [0, 1, 5] (by simp only [proj, lk, reduceIte, Nat.reduceEqDiff]; rfl) ?_
      exact hK4 _ _ ⟨_, by omega, i + 1, by omega, hn2, rfl, rfl, rfl⟩
  · skip
    refine V_exitk [] rfl (by simp only [proj, lk, reduceIte, Nat.reduceEqDiff]; rfl) ?_
    refine hK2 _ _ ?_; clear hK2
    refine V_sr T.mix (by kernel_rfl) (fun K10 hK10 => ?_)
    refine S_as rfl ?_
    refine S_nil (hK10 _ _ (V_keep [4] (by simp only [proj, lk, reduceIte, Nat.reduceEqDiff]; rfl) ?_)); clear hK10
    refine V_ret ?_
    refine hR _ _ (ret1 rfl rfl ?_)
    have hii : i = s.L.length := by omega
    subst hii
    rw [List.take_length] at hn
    exact ⟨by unfold plaV; rw [hn], rfl⟩
set_option maxHeartbeats 400000 in
theorem mplace_spec (h : Heap) (M : Nat) (F : Nat → Prop) (s : TS) (ms : MS h M F s) (v : Int) :
    FC Tryz.prog 55 (#[.pointer (some ⟨M, 0, none⟩), .int .i64 v] : Array Value) h fun rv h' => rv = .int .i64 (plaV s.L v) ∧ h = h' := by
  obtain ⟨a, cap, ja, jc, js, mt, hF⟩ := ms
  have m0 := mt.c0
  have m1 := mt.c1
  have m2 := mt.c2
  have m3 := mt.c3
  have g0 := m0
  have g1 := m0
  have g2 := m0
  have hlen := TI.len mt.ok
  have hdep := TI.dep mt.ok
  have hcc := mt.ok.c
  refine FC_of [(0, .pointer (some ⟨M, 0, none⟩)), (1, .int .i64 v)] Tryz.func55 rfl Tryz.ntmps55 (by simp) rfl (fun R hR => ?_)
  refine V_sr T.mix (by kernel_rfl) (fun K1 hK1 => ?_)
  refine S_as rfl ?_
  refine S_nil (hK1 _ _ (V_keep [0, 1] (by simp only [proj, lk, reduceIte, Nat.reduceEqDiff]; rfl) ?_)); clear hK1
  refine V_sr T.mix (by kernel_rfl) (fun K2 hK2 => ?_)
  refine S_mv rfl ?_
  refine S_mv rfl ?_
  refine S_call T.hb88 rfl ?_
  refine FC.mono (find_spec h M F s ⟨a, cap, ja, jc, js, mt, hF⟩ v) ?_
  rintro v' h' ⟨rfl, rfl⟩
  refine S_as rfl ?_
  refine S_nil (hK2 _ _ (V_keep [4] (by simp only [proj, lk, reduceIte, Nat.reduceEqDiff]; rfl) ?_)); clear hK2
  refine V_ret ?_
  refine hR _ _ (ret1 rfl rfl ?_)
  exact ⟨rfl, rfl⟩
set_option maxHeartbeats 400000 in
theorem mlevelof_spec (h : Heap) (M : Nat) (F : Nat → Prop) (s : TS) (ms : MS h M F s) (v : Int) :
    FC Tryz.prog 53 (#[.pointer (some ⟨M, 0, none⟩), .int .i64 v] : Array Value) h fun rv h' => rv = .int .i64 (levV s.L v) ∧ h = h' := by
  obtain ⟨a, cap, ja, jc, js, mt, hF⟩ := ms
  have m0 := mt.c0
  have m1 := mt.c1
  have m2 := mt.c2
  have m3 := mt.c3
  have g0 := m0
  have g1 := m0
  have g2 := m0
  have hlen := TI.len mt.ok
  have hdep := TI.dep mt.ok
  have hcc := mt.ok.c
  refine FC_of [(0, .pointer (some ⟨M, 0, none⟩)), (1, .int .i64 v)] Tryz.func53 rfl Tryz.ntmps53 (by simp) rfl (fun R hR => ?_)
  refine V_sr T.mix (by kernel_rfl) (fun K1 hK1 => ?_)
  refine S_as rfl ?_
  refine S_nil (hK1 _ _ (V_keep [0, 1] (by simp only [proj, lk, reduceIte, Nat.reduceEqDiff]; rfl) ?_)); clear hK1
  refine V_sr T.mix (by kernel_rfl) (fun K2 hK2 => ?_)
  refine S_mv rfl ?_
  refine S_mv rfl ?_
  refine S_call T.hb88 rfl ?_
  refine FC.mono (find_spec h M F s ⟨a, cap, ja, jc, js, mt, hF⟩ v) ?_
  rintro v' h' ⟨rfl, rfl⟩
  refine S_as rfl ?_
  refine S_nil (hK2 _ _ (V_keep [0, 5] (by simp only [proj, lk, reduceIte, Nat.reduceEqDiff]; rfl) ?_)); clear hK2
  refine V_seq (fun K3 hK3 => ?_)
  refine V_sr T.mix (by kernel_rfl) (fun K4 hK4 => ?_)
  refine S_mv rfl ?_
  refine S_bin rfl rfl rfl ?_
  refine S_nil (hK4 _ _ (V_keep [0, 5, 10] (by simp only [proj, lk, reduceIte, Nat.reduceEqDiff]; rfl) ?_)); clear hK4
  refine V_condp rfl (fun c130 => ?_) (fun c130 => ?_)
  · skip
    refine V_sr T.mix (by kernel_rfl) (fun K5 hK5 => ?_)
    refine S_as rfl ?_
    refine S_nil (hK5 _ _ (V_keep [4] (by simp only [proj, lk, reduceIte, Nat.reduceEqDiff]; rfl) ?_)); clear hK5
    refine V_ret ?_
    refine hR _ _ (ret1 rfl rfl ?_)
    exact ⟨by unfold levV; rw [show loc s.L v = none from pla_new.1 (by omega)], rfl⟩
  · skip
    obtain ⟨n, hpn⟩ : ∃ n : Nat, plaV s.L v = n := ⟨(plaV s.L v).toNat, by omega⟩
    have hpl := plaV_lt (L := s.L) (v := v)
    obtain ⟨x, hx1, hx2, hx3⟩ := pla_item hpn
    rw [hpn]
    clear g0 g1 g2
    obtain ⟨ab, rfl, hab, hgt⟩ := row_get mt.it (by omega)
    have g0 := (hgt n (by omega)).1
    have g1 := (hgt n (by omega)).2.1
    have g2 := (hgt n (by omega)).2.2
    refine V_skipk [0, 5] (by simp only [proj, lk, reduceIte, Nat.reduceEqDiff]; rfl) ?_
    refine hK3 _ _ ?_; clear hK3
    refine V_sr T.mix (by kernel_rfl) (fun K6 hK6 => ?_)
    refine S_mv rfl ?_
    refine S_nc rfl ?_
    first | refine S_fa0 T.f87_0 rfl ?_ | refine S_fa T.f87_0 rfl ?_
    refine S_ldK T.ag85 rfl (fun K' hK' => ?_)
    simp (disch := omega) only [m0, m1, m2, m3, g0, g1, g2, oP_some, Nat.add_zero]
    refine hK' _ ?_; clear hK' K'
    refine S_mv rfl ?_
    first | refine S_ixmn T.el85 rfl rfl (by omega) ?_ | refine S_ixm T.el85 rfl rfl (by omega) (by omega) ?_ | refine S_ix T.el85 rfl rfl (by omega) (by omega) ?_
    first | refine S_fa0 T.f114_1 rfl ?_ | refine S_fa T.f114_1 rfl ?_
    refine S_ldK T.ag3 rfl (fun K' hK' => ?_)
    simp (disch := omega) only [m0, m1, m2, m3, g0, g1, g2, oP_some, Nat.add_zero]
    refine hK' _ ?_; clear hK' K'
    refine S_as rfl ?_
    refine S_nil (hK6 _ _ (V_keep [4] (by simp only [proj, lk, reduceIte, Nat.reduceEqDiff]; rfl) ?_)); clear hK6
    refine V_ret ?_
    refine hR _ _ (ret1 rfl rfl ?_)
    exact ⟨by unfold levV; rw [hx3, hx2], rfl⟩
set_option maxHeartbeats 400000 in
theorem mreason_spec (h : Heap) (M : Nat) (F : Nat → Prop) (s : TS) (ms : MS h M F s) (v : Int) :
    FC Tryz.prog 54 (#[.pointer (some ⟨M, 0, none⟩), .int .i64 v] : Array Value) h fun rv h' => rv = .int .i64 (reaV s.L v) ∧ h = h' := by
  obtain ⟨a, cap, ja, jc, js, mt, hF⟩ := ms
  have m0 := mt.c0
  have m1 := mt.c1
  have m2 := mt.c2
  have m3 := mt.c3
  have g0 := m0
  have g1 := m0
  have g2 := m0
  have hlen := TI.len mt.ok
  have hdep := TI.dep mt.ok
  have hcc := mt.ok.c
  refine FC_of [(0, .pointer (some ⟨M, 0, none⟩)), (1, .int .i64 v)] Tryz.func54 rfl Tryz.ntmps54 (by simp) rfl (fun R hR => ?_)
  refine V_sr T.mix (by kernel_rfl) (fun K1 hK1 => ?_)
  refine S_as rfl ?_
  refine S_nil (hK1 _ _ (V_keep [0, 1] (by simp only [proj, lk, reduceIte, Nat.reduceEqDiff]; rfl) ?_)); clear hK1
  refine V_sr T.mix (by kernel_rfl) (fun K2 hK2 => ?_)
  refine S_mv rfl ?_
  refine S_mv rfl ?_
  refine S_call T.hb88 rfl ?_
  refine FC.mono (find_spec h M F s ⟨a, cap, ja, jc, js, mt, hF⟩ v) ?_
  rintro v' h' ⟨rfl, rfl⟩
  refine S_as rfl ?_
  refine S_nil (hK2 _ _ (V_keep [0, 5] (by simp only [proj, lk, reduceIte, Nat.reduceEqDiff]; rfl) ?_)); clear hK2
  refine V_seq (fun K3 hK3 => ?_)
  refine V_sr T.mix (by kernel_rfl) (fun K4 hK4 => ?_)
  refine S_mv rfl ?_
  refine S_bin rfl rfl rfl ?_
  refine S_nil (hK4 _ _ (V_keep [0, 5, 10] (by simp only [proj, lk, reduceIte, Nat.reduceEqDiff]; rfl) ?_)); clear hK4
  refine V_condp rfl (fun c138 => ?_) (fun c138 => ?_)
  · skip
    refine V_sr T.mix (by kernel_rfl) (fun K5 hK5 => ?_)
    refine S_as rfl ?_
    refine S_nil (hK5 _ _ (V_keep [4] (by simp only [proj, lk, reduceIte, Nat.reduceEqDiff]; rfl) ?_)); clear hK5
    refine V_ret ?_
    refine hR _ _ (ret1 rfl rfl ?_)
    exact ⟨by unfold reaV; rw [show loc s.L v = none from pla_new.1 (by omega)], rfl⟩
  · skip
    obtain ⟨n, hpn⟩ : ∃ n : Nat, plaV s.L v = n := ⟨(plaV s.L v).toNat, by omega⟩
    have hpl := plaV_lt (L := s.L) (v := v)
    obtain ⟨x, hx1, hx2, hx3⟩ := pla_item hpn
    rw [hpn]
    clear g0 g1 g2
    obtain ⟨ab, rfl, hab, hgt⟩ := row_get mt.it (by omega)
    have g0 := (hgt n (by omega)).1
    have g1 := (hgt n (by omega)).2.1
    have g2 := (hgt n (by omega)).2.2
    refine V_skipk [0, 5] (by simp only [proj, lk, reduceIte, Nat.reduceEqDiff]; rfl) ?_
    refine hK3 _ _ ?_; clear hK3
    refine V_sr T.mix (by kernel_rfl) (fun K6 hK6 => ?_)
    refine S_mv rfl ?_
    refine S_nc rfl ?_
    first | refine S_fa0 T.f87_0 rfl ?_ | refine S_fa T.f87_0 rfl ?_
    refine S_ldK T.ag85 rfl (fun K' hK' => ?_)
    simp (disch := omega) only [m0, m1, m2, m3, g0, g1, g2, oP_some, Nat.add_zero]
    refine hK' _ ?_; clear hK' K'
    refine S_mv rfl ?_
    first | refine S_ixmn T.el85 rfl rfl (by omega) ?_ | refine S_ixm T.el85 rfl rfl (by omega) (by omega) ?_ | refine S_ix T.el85 rfl rfl (by omega) (by omega) ?_
    first | refine S_fa0 T.f114_2 rfl ?_ | refine S_fa T.f114_2 rfl ?_
    refine S_ldK T.ag3 rfl (fun K' hK' => ?_)
    simp (disch := omega) only [m0, m1, m2, m3, g0, g1, g2, oP_some, Nat.add_zero]
    refine hK' _ ?_; clear hK' K'
    refine S_as rfl ?_
    refine S_nil (hK6 _ _ (V_keep [4] (by simp only [proj, lk, reduceIte, Nat.reduceEqDiff]; rfl) ?_)); clear hK6
    refine V_ret ?_
    refine hR _ _ (ret1 rfl rfl ?_)
    exact ⟨by unfold reaV; rw [hx3, hx2], rfl⟩
set_option maxHeartbeats 400000 in
theorem mvalue_spec (h : Heap) (M : Nat) (F : Nat → Prop) (s : TS) (ms : MS h M F s) (lt : Int) :
    FC Tryz.prog 52 (#[.pointer (some ⟨M, 0, none⟩), .int .i64 lt] : Array Value) h fun v h' => v = .int .i64 (valO s lt) ∧ h = h' := by
  obtain ⟨a, cap, ja, jc, js, mt, hF⟩ := ms
  have m0 := mt.c0
  have m1 := mt.c1
  have m2 := mt.c2
  have m3 := mt.c3
  have g0 := m0
  have g1 := m0
  have g2 := m0
  have hlen := TI.len mt.ok
  have hdep := TI.dep mt.ok
  have hcc := mt.ok.c
  refine FC_of [(0, .pointer (some ⟨M, 0, none⟩)), (1, .int .i64 lt)] Tryz.func52 rfl Tryz.ntmps52 (by simp) rfl (fun R hR => ?_)
  refine V_sr T.mix (by kernel_rfl) (fun K1 hK1 => ?_)
  refine S_as rfl ?_
  refine S_nil (hK1 _ _ (V_keep [0, 1] (by simp only [proj, lk, reduceIte, Nat.reduceEqDiff]; rfl) ?_)); clear hK1
  refine V_seq (fun K2 hK2 => ?_)
  refine V_sr T.mix (by kernel_rfl) (fun K3 hK3 => ?_)
  refine S_mv rfl ?_
  refine S_call T.hb84 rfl ?_
  refine FC.mono (goodlit_spec _ lt) ?_
  rintro v' h' ⟨g, rfl, hg, rfl⟩
  refine S_notb rfl ?_
  refine S_nil (hK3 _ _ (V_keep [0, 1, 9] (by simp only [proj, lk, reduceIte, Nat.reduceEqDiff]; rfl) ?_)); clear hK3
  refine V_condb rfl (fun c103 => ?_) (fun c103 => ?_)
  · skip
    simp only [Bool.not_eq_true'] at c103
    have hng : ¬ good lt := fun e => by rw [hg.2 e] at c103; cases c103
    unfold good at hng
    refine V_sr T.mix (by kernel_rfl) (fun K4 hK4 => ?_)
    refine S_as rfl ?_
    refine S_nil (hK4 _ _ (V_keep [4] (by simp only [proj, lk, reduceIte, Nat.reduceEqDiff]; rfl) ?_)); clear hK4
    refine V_ret ?_
    refine hR _ _ (ret1 rfl rfl ?_)
    exact ⟨by unfold valO; rw [if_neg hng], rfl⟩
  · skip
    simp only [Bool.not_eq_false'] at c103
    have hgl := hg.1 c103
    have hgl2 := hgl
    unfold good at hgl2
    refine V_skipk [0, 1] (by simp only [proj, lk, reduceIte, Nat.reduceEqDiff]; rfl) ?_
    refine hK2 _ _ ?_; clear hK2
    refine V_sr T.mix (by kernel_rfl) (fun K5 hK5 => ?_)
    refine S_mv rfl ?_
    refine S_call T.hb65 rfl ?_
    refine FC.mono (var_spec _ lt (by omega) (by omega)) ?_
    rintro v' h' ⟨rfl, rfl⟩
    refine S_as rfl ?_
    refine S_nil (hK5 _ _ (V_keep [0, 1, 5] (by simp only [proj, lk, reduceIte, Nat.reduceEqDiff]; rfl) ?_)); clear hK5
    refine V_sr T.mix (by kernel_rfl) (fun K6 hK6 => ?_)
    refine S_mv rfl ?_
    refine S_mv rfl ?_
    refine S_call T.hb88 rfl ?_
    refine FC.mono (find_spec h M F s ⟨a, cap, ja, jc, js, mt, hF⟩ (lt.natAbs : Int)) ?_
    rintro v' h' ⟨rfl, rfl⟩
    refine S_as rfl ?_
    refine S_nil (hK6 _ _ (V_keep [0, 1, 6] (by simp only [proj, lk, reduceIte, Nat.reduceEqDiff]; rfl) ?_)); clear hK6
    refine V_seq (fun K7 hK7 => ?_)
    refine V_sr T.mix (by kernel_rfl) (fun K8 hK8 => ?_)
    refine S_mv rfl ?_
    refine S_bin rfl rfl rfl ?_
    refine S_nil (hK8 _ _ (V_keep [0, 1, 6, 16] (by simp only [proj, lk, reduceIte, Nat.reduceEqDiff]; rfl) ?_)); clear hK8
    refine V_condp rfl (fun c108 => ?_) (fun c108 => ?_)
    · skip
      refine V_sr T.mix (by kernel_rfl) (fun K9 hK9 => ?_)
      refine S_as rfl ?_
      refine S_nil (hK9 _ _ (V_keep [4] (by simp only [proj, lk, reduceIte, Nat.reduceEqDiff]; rfl) ?_)); clear hK9
      refine V_ret ?_
      refine hR _ _ (ret1 rfl rfl ?_)
      exact ⟨by unfold valO; rw [if_pos hgl2, valL_eq hgl, vr_abs, show loc s.L (lt.natAbs : Int) = none from pla_new.1 (by omega)], rfl⟩
    · skip
      obtain ⟨n, hpn⟩ : ∃ n : Nat, plaV s.L (lt.natAbs : Int) = n := ⟨(plaV s.L (lt.natAbs : Int)).toNat, by omega⟩
      have hpl := plaV_lt (L := s.L) (v := (lt.natAbs : Int))
      obtain ⟨x, hx1, hx2, hx3⟩ := pla_item hpn
      rw [hpn]
      clear g0 g1 g2
      obtain ⟨ab, rfl, hab, hgt⟩ := row_get mt.it (by omega)
      have g0 := (hgt n (by omega)).1
      have g1 := (hgt n (by omega)).2.1
      have g2 := (hgt n (by omega)).2.2
      refine V_skipk [0, 1, 6] (by simp only [proj, lk, reduceIte, Nat.reduceEqDiff]; rfl) ?_
      refine hK7 _ _ ?_; clear hK7
      refine V_seq (fun K10 hK10 => ?_)
      refine V_sr T.mix (by kernel_rfl) (fun K11 hK11 => ?_)
      refine S_mv rfl ?_
      refine S_nc rfl ?_
      first | refine S_fa0 T.f87_0 rfl ?_ | refine S_fa T.f87_0 rfl ?_
      refine S_ldK T.ag85 rfl (fun K' hK' => ?_)
      simp (disch := omega) only [m0, m1, m2, m3, g0, g1, g2, oP_some, Nat.add_zero]
      refine hK' _ ?_; clear hK' K'
      refine S_mv rfl ?_
      first | refine S_ixmn T.el85 rfl rfl (by omega) ?_ | refine S_ixm T.el85 rfl rfl (by omega) (by omega) ?_ | refine S_ix T.el85 rfl rfl (by omega) (by omega) ?_
      first | refine S_fa0 T.f114_0 rfl ?_ | refine S_fa T.f114_0 rfl ?_
      refine S_ldK T.ag3 rfl (fun K' hK' => ?_)
      simp (disch := omega) only [m0, m1, m2, m3, g0, g1, g2, oP_some, Nat.add_zero]
      refine hK' _ ?_; clear hK' K'
      refine S_mv rfl ?_
      refine S_bin rfl rfl rfl ?_
      refine S_nil (hK11 _ _ (V_keep [26] (by simp only [proj, lk, reduceIte, Nat.reduceEqDiff]; rfl) ?_)); clear hK11
      refine V_condp rfl (fun c111 => ?_) (fun c111 => ?_)
      · skip
        refine V_sr T.mix (by kernel_rfl) (fun K12 hK12 => ?_)
        refine S_as rfl ?_
        refine S_nil (hK12 _ _ (V_keep [4] (by simp only [proj, lk, reduceIte, Nat.reduceEqDiff]; rfl) ?_)); clear hK12
        refine V_ret ?_
        refine hR _ _ (ret1 rfl rfl ?_)
        exact ⟨by unfold valO; rw [if_pos hgl2, valL_eq hgl, vr_abs, hx3]; simp only []; rw [if_pos (by rw [← hx2]; exact c111)], rfl⟩
      · skip
        refine V_skipk [] (by simp only [proj, lk, reduceIte, Nat.reduceEqDiff]; rfl) ?_
        refine hK10 _ _ ?_; clear hK10
        refine V_sr T.mix (by kernel_rfl) (fun K13 hK13 => ?_)
        refine S_as rfl ?_
        refine S_nil (hK13 _ _ (V_keep [4] (by simp only [proj, lk, reduceIte, Nat.reduceEqDiff]; rfl) ?_)); clear hK13
        refine V_ret ?_
        refine hR _ _ (ret1 rfl rfl ?_)
        exact ⟨by unfold valO; rw [if_pos hgl2, valL_eq hgl, vr_abs, hx3]; simp only []; rw [if_neg (by rw [← hx2]; exact c111)], rfl⟩
set_option maxHeartbeats 400000 in
theorem mat_spec (h : Heap) (M : Nat) (F : Nat → Prop) (s : TS) (ms : MS h M F s) (i : Int) :
    FC Tryz.prog 56 (#[.pointer (some ⟨M, 0, none⟩), .int .i64 i] : Array Value) h fun v h' => v = .int .i64 (atL s.L i) ∧ h = h' := by
  obtain ⟨a, cap, ja, jc, js, mt, hF⟩ := ms
  have m0 := mt.c0
  have m1 := mt.c1
  have m2 := mt.c2
  have m3 := mt.c3
  have g0 := m0
  have g1 := m0
  have g2 := m0
  have hlen := TI.len mt.ok
  have hdep := TI.dep mt.ok
  have hcc := mt.ok.c
  refine FC_of [(0, .pointer (some ⟨M, 0, none⟩)), (1, .int .i64 i)] Tryz.func56 rfl Tryz.ntmps56 (by simp) rfl (fun R hR => ?_)
  refine V_sr T.mix (by kernel_rfl) (fun K1 hK1 => ?_)
  refine S_as rfl ?_
  refine S_nil (hK1 _ _ (V_keep [0, 1] (by simp only [proj, lk, reduceIte, Nat.reduceEqDiff]; rfl) ?_)); clear hK1
  refine V_seq (fun K2 hK2 => ?_)
  refine V_sr T.mix (by kernel_rfl) (fun K3 hK3 => ?_)
  refine S_mv rfl ?_
  refine S_bin rfl rfl rfl ?_
  refine S_mv rfl ?_
  refine S_dec (fun g122 => ?_) (fun g122 => ?_)
  · skip
    refine S_gf rfl ?_
    refine S_gf rfl ?_
    refine S_gf rfl ?_
    refine S_gf rfl ?_
    refine S_gf rfl ?_
    refine S_gf rfl ?_
    refine S_gf rfl ?_
    refine S_pt rfl rfl ?_
    refine S_nil (hK3 _ _ (V_keep [0, 1, 15] (by simp only [proj, lk, reduceIte, Nat.reduceEqDiff]; rfl) ?_)); clear hK3
    refine V_condt rfl ?_
    refine V_sr T.mix (by kernel_rfl) (fun K4 hK4 => ?_)
    refine S_as rfl ?_
    refine S_nil (hK4 _ _ (V_keep [4] (by simp only [proj, lk, reduceIte, Nat.reduceEqDiff]; rfl) ?_)); clear hK4
    refine V_ret ?_
    refine hR _ _ (ret1 rfl rfl ?_)
    exact ⟨by unfold atL; rw [if_neg (by omega)], rfl⟩
  · skip
    refine S_gt rfl ?_
    refine S_mv rfl ?_
    refine S_gt rfl ?_
    refine S_mv rfl ?_
    refine S_gt rfl ?_
    refine S_nc rfl ?_
    refine S_gt rfl ?_
    first | refine S_fa0 T.f87_0 rfl ?_ | refine S_fa T.f87_0 rfl ?_
    refine S_gt rfl ?_
    refine S_ldK T.ag85 rfl (fun K' hK' => ?_)
    simp (disch := omega) only [m0, m1, m2, m3, g0, g1, g2, oP_some, Nat.add_zero]
    refine hK' _ ?_; clear hK' K'
    refine S_gt rfl ?_
    refine S_lenl T.el85 rfl ?_
    refine S_gt rfl ?_
    refine S_bin rfl rfl rfl ?_
    refine S_pf rfl rfl ?_
    refine S_nil (hK3 _ _ (V_keep [0, 1, 15] (by simp only [proj, lk, reduceIte, Nat.reduceEqDiff]; rfl) ?_)); clear hK3
    refine V_condp rfl (fun c122 => ?_) (fun c122 => ?_)
    · skip
      refine V_sr T.mix (by kernel_rfl) (fun K5 hK5 => ?_)
      refine S_as rfl ?_
      refine S_nil (hK5 _ _ (V_keep [4] (by simp only [proj, lk, reduceIte, Nat.reduceEqDiff]; rfl) ?_)); clear hK5
      refine V_ret ?_
      refine hR _ _ (ret1 rfl rfl ?_)
      exact ⟨by unfold atL; rw [if_neg (by omega)], rfl⟩
    · skip
      obtain ⟨n, rfl⟩ : ∃ n : Nat, i = n := ⟨i.toNat, by omega⟩
      clear g0 g1 g2
      obtain ⟨ab, rfl, hab, hgt⟩ := row_get mt.it (by omega)
      have g0 := (hgt n (by omega)).1
      have g1 := (hgt n (by omega)).2.1
      have g2 := (hgt n (by omega)).2.2
      refine V_skipk [0, 1] (by simp only [proj, lk, reduceIte, Nat.reduceEqDiff]; rfl) ?_
      refine hK2 _ _ ?_; clear hK2
      refine V_sr T.mix (by kernel_rfl) (fun K6 hK6 => ?_)
      refine S_mv rfl ?_
      refine S_nc rfl ?_
      first | refine S_fa0 T.f87_0 rfl ?_ | refine S_fa T.f87_0 rfl ?_
      refine S_ldK T.ag85 rfl (fun K' hK' => ?_)
      simp (disch := omega) only [m0, m1, m2, m3, g0, g1, g2, oP_some, Nat.add_zero]
      refine hK' _ ?_; clear hK' K'
      refine S_mv rfl ?_
      first | refine S_ixmn T.el85 rfl rfl (by omega) ?_ | refine S_ixm T.el85 rfl rfl (by omega) (by omega) ?_ | refine S_ix T.el85 rfl rfl (by omega) (by omega) ?_
      first | refine S_fa0 T.f114_0 rfl ?_ | refine S_fa T.f114_0 rfl ?_
      refine S_ldK T.ag3 rfl (fun K' hK' => ?_)
      simp (disch := omega) only [m0, m1, m2, m3, g0, g1, g2, oP_some, Nat.add_zero]
      refine hK' _ ?_; clear hK' K'
      refine S_as rfl ?_
      refine S_nil (hK6 _ _ (V_keep [4] (by simp only [proj, lk, reduceIte, Nat.reduceEqDiff]; rfl) ?_)); clear hK6
      refine V_ret ?_
      refine hR _ _ (ret1 rfl rfl ?_)
      exact ⟨by unfold atL; rw [if_pos (by omega), Int.toNat_natCast], rfl⟩
set_option maxHeartbeats 400000 in
theorem mtake_spec (h : Heap) (M : Nat) (F : Nat → Prop) (s : TS) (ms : MS h M F s) :
    FC Tryz.prog 125 (#[.pointer (some ⟨M, 0, none⟩)] : Array Value) h fun rv h' => rv = .int .i64 (takeV s) ∧ ∃ F', MS h' M F' (takeS s) ∧ MX F F' h h' := by
  obtain ⟨a, cap, ja, jc, js, mt, hF⟩ := ms
  have m0 := mt.c0
  have m1 := mt.c1
  have m2 := mt.c2
  have m3 := mt.c3
  have g0 := m0
  have g1 := m0
  have g2 := m0
  have hlen := TI.len mt.ok
  have hdep := TI.dep mt.ok
  have hcc := mt.ok.c
  have mok : ∀ j, j < 4 → okPut h ⟨M, j, none⟩ = true := fun j hj => mt.t.ok (by simpa using hj)
  refine FC_of [(0, .pointer (some ⟨M, 0, none⟩))] Tryz.func125 rfl Tryz.ntmps125 (by simp) rfl (fun R hR => ?_)
  refine V_sr T.mix (by kernel_rfl) (fun K1 hK1 => ?_)
  refine S_as rfl ?_
  refine S_nil (hK1 _ _ (V_keep [0] (by simp only [proj, lk, reduceIte, Nat.reduceEqDiff]; rfl) ?_)); clear hK1
  refine V_seq (fun K2 hK2 => ?_)
  refine V_sr T.mix (by kernel_rfl) (fun K3 hK3 => ?_)
  refine S_mv rfl ?_
  refine S_nc rfl ?_
  first | refine S_fa0 T.f87_2 rfl ?_ | refine S_fa T.f87_2 rfl ?_
  refine S_ldK T.ag3 rfl (fun K' hK' => ?_)
  simp (disch := omega) only [m0, m1, m2, m3, g0, g1, g2, oP_some, Nat.add_zero]
  refine hK' _ ?_; clear hK' K'
  refine S_mv rfl ?_
  refine S_nc rfl ?_
  first | refine S_fa0 T.f87_0 rfl ?_ | refine S_fa T.f87_0 rfl ?_
  refine S_ldK T.ag85 rfl (fun K' hK' => ?_)
  simp (disch := omega) only [m0, m1, m2, m3, g0, g1, g2, oP_some, Nat.add_zero]
  refine hK' _ ?_; clear hK' K'
  refine S_lenl T.el85 rfl ?_
  refine S_bin rfl rfl rfl ?_
  refine S_nil (hK3 _ _ (V_keep [0, 12] (by simp only [proj, lk, reduceIte, Nat.reduceEqDiff]; rfl) ?_)); clear hK3
  refine V_condp rfl (fun c95 => ?_) (fun c95 => ?_)
  · skip
    refine V_sr T.mix (by kernel_rfl) (fun K4 hK4 => ?_)
    refine S_as rfl ?_
    refine S_nil (hK4 _ _ (V_keep [2] (by simp only [proj, lk, reduceIte, Nat.reduceEqDiff]; rfl) ?_)); clear hK4
    refine V_ret ?_
    refine hR _ _ (ret1 rfl rfl ?_)
    exact ⟨by unfold takeV; rw [if_neg (by omega)], F, ⟨a, cap, ja, jc, js, by unfold takeS; rw [if_neg (by omega)]; exact mt, hF⟩, MX.refl _ _⟩
  · skip
    refine V_skipk [0] (by simp only [proj, lk, reduceIte, Nat.reduceEqDiff]; rfl) ?_
    refine hK2 _ _ ?_; clear hK2
    refine V_sr T.mix (by kernel_rfl) (fun K5 hK5 => ?_)
    refine S_mv rfl ?_
    refine S_nc rfl ?_
    first | refine S_fa0 T.f87_2 rfl ?_ | refine S_fa T.f87_2 rfl ?_
    refine S_ldK T.ag3 rfl (fun K' hK' => ?_)
    simp (disch := omega) only [m0, m1, m2, m3, g0, g1, g2, oP_some, Nat.add_zero]
    refine hK' _ ?_; clear hK' K'
    first | refine S_add rfl rfl (by omega) (by omega) ?_ | refine S_bin rfl rfl rfl ?_
    refine S_nc rfl ?_
    first | refine S_fa0 T.f87_2 rfl ?_ | refine S_fa T.f87_2 rfl ?_
    refine S_st T.sz3 rfl rfl rfl rfl (by simp (disch := omega) only [mok]) ?_
    generalize hh : putH _ _ _ = h1
    have hTh1 : B h1 M #[.slice a (s.L.length) cap, .int .i64 (s.k), .int .i64 ((s.c + 1 : Nat)), .slice ja (js.length) jc] 87 := by rw [← hh]; exact mt.t.put 2 _
    have hEh1 : Ext (fun x => x = M) h h1 := by rw [← hh]; exact Ext.put _ _ rfl
    clear hh
    try clear mok
    have mok : ∀ j, j < 4 → okPut h1 ⟨M, j, none⟩ = true := fun j hj => hTh1.ok (by simpa using hj)
    have hlt : s.c < s.L.length := by omega
    have it1 := OwnR.ext mt.it hEh1 (fun b e x => mt.n1 (by rw [e, ← x]; rfl))
    clear m0 m1 m2 m3 g0 g1 g2
    have m0 : cellH h1 ⟨M, 0, none⟩ = some (.slice a s.L.length cap) := hTh1.cell 0
    have m2 : cellH h1 ⟨M, 2, none⟩ = some (.int .i64 ((s.c + 1 : Nat) : Int)) := hTh1.cell 2
    have m1 := m0
    have m3 := m0
    have g0 := m0
    have g1 := m0
    have g2 := m0
    refine S_nil (hK5 _ _ (V_keep [0] (by simp only [proj, lk, reduceIte, Nat.reduceEqDiff]; rfl) ?_)); clear hK5
    refine V_sr T.mix (by kernel_rfl) (fun K6 hK6 => ?_)
    refine S_mv rfl ?_
    refine S_nc rfl ?_
    first | refine S_fa0 T.f87_0 rfl ?_ | refine S_fa T.f87_0 rfl ?_
    refine S_ldK T.ag85 rfl (fun K' hK' => ?_)
    simp (disch := omega) only [m0, m1, m2, m3, g0, g1, g2, oP_some, Nat.add_zero]
    refine hK' _ ?_; clear hK' K'
    refine S_mv rfl ?_
    refine S_nc rfl ?_
    first | refine S_fa0 T.f87_2 rfl ?_ | refine S_fa T.f87_2 rfl ?_
    refine S_ldK T.ag3 rfl (fun K' hK' => ?_)
    simp (disch := omega) only [m0, m1, m2, m3, g0, g1, g2, oP_some, Nat.add_zero]
    refine hK' _ ?_; clear hK' K'
    refine S_subN s.c rfl rfl (by omega) (by omega) ?_
    clear g0 g1 g2
    obtain ⟨ab, rfl, hab, hgt⟩ := row_get it1 (by omega)
    have g0 := (hgt s.c (by omega)).1
    have g1 := (hgt s.c (by omega)).2.1
    have g2 := (hgt s.c (by omega)).2.2
    first | refine S_ixmn T.el85 rfl rfl (by omega) ?_ | refine S_ixm T.el85 rfl rfl (by omega) (by omega) ?_ | refine S_ix T.el85 rfl rfl (by omega) (by omega) ?_
    first | refine S_fa0 T.f114_0 rfl ?_ | refine S_fa T.f114_0 rfl ?_
    refine S_ldK T.ag3 rfl (fun K' hK' => ?_)
    simp (disch := omega) only [m0, m1, m2, m3, g0, g1, g2, oP_some, Nat.add_zero]
    refine hK' _ ?_; clear hK' K'
    refine S_as rfl ?_
    refine S_nil (hK6 _ _ (V_keep [2] (by simp only [proj, lk, reduceIte, Nat.reduceEqDiff]; rfl) ?_)); clear hK6
    refine V_ret ?_
    refine hR _ _ (ret1 rfl rfl ?_)
    exact ⟨by unfold takeV; rw [if_pos hlt], F, ⟨_, cap, ja, jc, js, by unfold takeS; rw [if_pos hlt]; exact ⟨hTh1, it1, OwnR.ext mt.ju hEh1 (fun b e x => mt.n2 (by rw [e, ← x]; rfl)), mt.n1, mt.n2, mt.n3, mt.ok.cur (by simp only []; omega), mt.jl⟩, hF⟩, ⟨hEh1.mono fun b e => (hF b).2 (.inl e), fun b e => .inl e⟩⟩
set_option maxHeartbeats 400000 in
theorem mdecide_spec (h : Heap) (M : Nat) (F : Nat → Prop) (s : TS) (ms : MS h M F s) (lt : Int) :
    FC Tryz.prog 63 (#[.pointer (some ⟨M, 0, none⟩), .int .i64 lt] : Array Value) h fun rv h' => rv = .int .i64 ((decE s lt : Nat) : Int) ∧ ∃ F', MS h' M F' (decS s lt) ∧ MX F F' h h' := by
  obtain ⟨a, cap, ja, jc, js, mt, hF⟩ := ms
  have m0 := mt.c0
  have m1 := mt.c1
  have m2 := mt.c2
  have m3 := mt.c3
  have g0 := m0
  have g1 := m0
  have g2 := m0
  have hlen := TI.len mt.ok
  have hdep := TI.dep mt.ok
  have hcc := mt.ok.c
  have mok : ∀ j, j < 4 → okPut h ⟨M, j, none⟩ = true := fun j hj => mt.t.ok (by simpa using hj)
  refine FC_of [(0, .pointer (some ⟨M, 0, none⟩)), (1, .int .i64 lt)] Tryz.func63 rfl Tryz.ntmps63 (by simp) rfl (fun R hR => ?_)
  refine V_sr T.mix (by kernel_rfl) (fun K1 hK1 => ?_)
  refine S_as rfl ?_
  refine S_nil (hK1 _ _ (V_keep [0, 1] (by simp only [proj, lk, reduceIte, Nat.reduceEqDiff]; rfl) ?_)); clear hK1
  refine V_seq (fun K2 hK2 => ?_)
  refine V_sr T.mix (by kernel_rfl) (fun K3 hK3 => ?_)
  refine S_mv rfl ?_
  refine S_call T.hb84 rfl ?_
  refine FC.mono (goodlit_spec _ lt) ?_
  rintro v' h' ⟨g, rfl, hg, rfl⟩
  refine S_notb rfl ?_
  refine S_nil (hK3 _ _ (V_keep [0, 1, 8] (by simp only [proj, lk, reduceIte, Nat.reduceEqDiff]; rfl) ?_)); clear hK3
  refine V_condb rfl (fun c46 => ?_) (fun c46 => ?_)
  · skip
    simp only [Bool.not_eq_true'] at c46
    have hng : ¬ good lt := fun e => by rw [hg.2 e] at c46; cases c46
    unfold good at hng
    refine V_sr T.mix (by kernel_rfl) (fun K4 hK4 => ?_)
    refine S_as rfl ?_
    refine S_nil (hK4 _ _ (V_keep [4] (by simp only [proj, lk, reduceIte, Nat.reduceEqDiff]; rfl) ?_)); clear hK4
    refine V_ret ?_
    refine hR _ _ (ret1 rfl rfl ?_)
    have e1 : decE s lt = 7 := by unfold decE; rw [if_neg hng]
    exact ⟨by rw [e1]; rfl, F, ⟨a, cap, ja, jc, js, by unfold decS; rw [e1]; exact mt, hF⟩, MX.refl _ _⟩
  · skip
    simp only [Bool.not_eq_false'] at c46
    have hgl := hg.1 c46
    have hgl2 := hgl
    unfold good at hgl2
    refine V_skipk [0, 1] (by simp only [proj, lk, reduceIte, Nat.reduceEqDiff]; rfl) ?_
    refine hK2 _ _ ?_; clear hK2
    refine V_sr T.mix (by kernel_rfl) (fun K5 hK5 => ?_)
    refine S_mv rfl ?_
    refine S_call T.hb65 rfl ?_
    refine FC.mono (var_spec _ lt (by omega) (by omega)) ?_
    rintro v' h' ⟨rfl, rfl⟩
    refine S_as rfl ?_
    refine S_nil (hK5 _ _ (V_keep [0, 1, 5] (by simp only [proj, lk, reduceIte, Nat.reduceEqDiff]; rfl) ?_)); clear hK5
    refine V_seq (fun K6 hK6 => ?_)
    refine V_sr T.mix (by kernel_rfl) (fun K7 hK7 => ?_)
    refine S_mv rfl ?_
    refine S_mv rfl ?_
    refine S_call T.hb88 rfl ?_
    refine FC.mono (find_spec h M F s ⟨a, cap, ja, jc, js, mt, hF⟩ (lt.natAbs : Int)) ?_
    rintro v' h' ⟨rfl, rfl⟩
    refine S_bin rfl rfl rfl ?_
    refine S_nil (hK7 _ _ (V_keep [0, 1, 14] (by simp only [proj, lk, reduceIte, Nat.reduceEqDiff]; rfl) ?_)); clear hK7
    refine V_condp rfl (fun c50 => ?_) (fun c50 => ?_)
    · skip
      refine V_sr T.mix (by kernel_rfl) (fun K8 hK8 => ?_)
      refine S_as rfl ?_
      refine S_nil (hK8 _ _ (V_keep [4] (by simp only [proj, lk, reduceIte, Nat.reduceEqDiff]; rfl) ?_)); clear hK8
      refine V_ret ?_
      refine hR _ _ (ret1 rfl rfl ?_)
      have e1 : decE s lt = 9 := by unfold decE; rw [if_pos hgl2, if_pos (fun e => by have := pla_new.2 (val_new.1 e); rw [vr_abs] at this; omega)]
      exact ⟨by rw [e1]; rfl, F, ⟨a, cap, ja, jc, js, by unfold decS; rw [e1]; exact mt, hF⟩, MX.refl _ _⟩
    · skip
      have hnw : New s.L (vr lt) := by rw [vr_abs]; exact pla_new.1 (by omega)
      refine V_skipk [0, 1] (by simp only [proj, lk, reduceIte, Nat.reduceEqDiff]; rfl) ?_
      refine hK6 _ _ ?_; clear hK6
      refine V_sr T.mix (by kernel_rfl) (fun K9 hK9 => ?_)
      refine S_mv rfl ?_
      refine S_nc rfl ?_
      first | refine S_fa0 T.f87_1 rfl ?_ | refine S_fa T.f87_1 rfl ?_
      refine S_ldK T.ag3 rfl (fun K' hK' => ?_)
      simp (disch := omega) only [m0, m1, m2, m3, g0, g1, g2, oP_some, Nat.add_zero]
      refine hK' _ ?_; clear hK' K'
      first | refine S_add rfl rfl (by omega) (by omega) ?_ | refine S_bin rfl rfl rfl ?_
      refine S_nc rfl ?_
      first | refine S_fa0 T.f87_1 rfl ?_ | refine S_fa T.f87_1 rfl ?_
      refine S_st T.sz3 rfl rfl rfl rfl (by simp (disch := omega) only [mok]) ?_
      generalize hh : putH _ _ _ = h1
      have hTh1 : B h1 M #[.slice a (s.L.length) cap, .int .i64 ((s.k + 1 : Nat)), .int .i64 (s.c), .slice ja (js.length) jc] 87 := by rw [← hh]; exact mt.t.put 1 _
      have hEh1 : Ext (fun x => x = M) h h1 := by rw [← hh]; exact Ext.put _ _ rfl
      clear hh
      try clear mok
      have mok : ∀ j, j < 4 → okPut h1 ⟨M, j, none⟩ = true := fun j hj => hTh1.ok (by simpa using hj)
      have it1 := OwnR.ext mt.it hEh1 (fun b e x => mt.n1 (by rw [e, ← x]; rfl))
      have ju1 := OwnR.ext mt.ju hEh1 (fun b e x => mt.n2 (by rw [e, ← x]; rfl))
      clear m0 m1
      have m0 : cellH h1 ⟨M, 0, none⟩ = some (.slice a s.L.length cap) := hTh1.cell 0
      have m1 : cellH h1 ⟨M, 1, none⟩ = some (.int .i64 ((s.k + 1 : Nat) : Int)) := hTh1.cell 1
      have hs1 := hEh1.1
      refine S_nil (hK9 _ _ (V_keep [0, 1] (by simp only [proj, lk, reduceIte, Nat.reduceEqDiff]; rfl) ?_)); clear hK9
      refine V_sr T.mix (by kernel_rfl) (fun K10 hK10 => ?_)
      refine S_mv rfl ?_
      refine S_mv rfl ?_
      refine S_nc rfl ?_
      first | refine S_fa0 T.f87_0 rfl ?_ | refine S_fa T.f87_0 rfl ?_
      refine S_ldK T.ag85 rfl (fun K' hK' => ?_)
      simp (disch := omega) only [m0, m1, m2, m3, g0, g1, g2, oP_some, Nat.add_zero]
      refine hK' _ ?_; clear hK' K'
      refine S_mv rfl ?_
      refine S_mv rfl ?_
      refine S_nc rfl ?_
      first | refine S_fa0 T.f87_1 rfl ?_ | refine S_fa T.f87_1 rfl ?_
      refine S_ldK T.ag3 rfl (fun K' hK' => ?_)
      simp (disch := omega) only [m0, m1, m2, m3, g0, g1, g2, oP_some, Nat.add_zero]
      refine hK' _ ?_; clear hK' K'
      refine S_bld rfl (T.bld114_0_1_2 _ _ _) ?_
      refine S_bs T.ei85 rfl (by decide) (by decide) (T.bs85_1_0 _ _ _) ?_
      refine S_appx (lo := 0) T.ei85 T.ni85 T.us85 rfl rfl rfl (OwnR.ext it1 (Ext.push (fun _ => False) _ _) (fun _ _ f => f)) (Nat.zero_le _) (cellsH_new _ _ _) rfl (by omega) (by decide) (by decide) rfl (fun a1 c1 h4 ho1 hE4 hb1 => ?_)
      have hE5 : Ext (fun b => blkA a = some b) h1 h4 := (Ext.push _ _ _).trans hE4
      have hb2 := new_blk (h := h1) (h2 := h4) hb1 (by simp)
      have mok4 : ∀ j, j < 4 → okPut h4 ⟨M, j, none⟩ = true := fun j hj => (hTh1.ext hE5 mt.n1).ok (by simpa using hj)
      clear mok
      have mok := mok4
      refine S_nc rfl ?_
      first | refine S_fa0 T.f87_0 rfl ?_ | refine S_fa T.f87_0 rfl ?_
      refine S_st T.sz85 rfl rfl rfl rfl (by simp (disch := omega) only [mok]) ?_
      generalize hh : putH _ _ _ = h6
      have hT4 := hTh1.ext hE5 mt.n1
      have hT6 : B h6 M #[.slice a1 (s.L.length + 1) c1, .int .i64 ((s.k + 1 : Nat)), .int .i64 (s.c), .slice ja (js.length) jc] 87 := by rw [← hh]; exact hT4.put 0 _
      have hE6 : Ext (fun x => x = M) h4 h6 := by rw [← hh]; exact Ext.put _ _ rfl
      clear hh
      have hMl := mt.t.lt
      have hn1 : blkA a1 ≠ some M := fun e => by rcases hb2 M e with x | x; (exact mt.n1 x); (omega)
      have ju4 := OwnR.ext ju1 hE5 (fun b e x => mt.n3 b x (by rw [e]; rfl))
      refine S_nil (hK10 _ _ (V_keep [] (by simp only [proj, lk, reduceIte, Nat.reduceEqDiff]; rfl) ?_)); clear hK10
      refine V_sr T.mix (by kernel_rfl) (fun K11 hK11 => ?_)
      refine S_as rfl ?_
      refine S_nil (hK11 _ _ (V_keep [4] (by simp only [proj, lk, reduceIte, Nat.reduceEqDiff]; rfl) ?_)); clear hK11
      refine V_ret ?_
      refine hR _ _ (ret1 rfl rfl ?_)
      have e1 : decE s lt = 0 := by unfold decE; rw [if_pos hgl2, if_neg (by simpa using val_new.2 hnw)]
      have hok : Ok (decS s lt) := Ok.dec mt.ok lt
      have e2 : decS s lt = ⟨s.L ++ [⟨lt, s.k + 1, -1⟩], s.k + 1, s.c⟩ := by unfold decS; rw [if_pos e1]
      rw [e2] at hok ⊢
      exact ⟨by rw [e1]; rfl, ⟨fun b => b = M ∨ blkA a1 = some b ∨ blkA ja = some b, ⟨a1, c1, ja, jc, js, ⟨hT6.cong (by simp), by simp only [List.length_append, List.length_singleton]; rw [its_app]; exact OwnR.ext ho1 hE6 (fun b e x => hn1 (by rw [e, ← x]; rfl)), OwnR.ext ju4 hE6 (fun b e x => mt.n2 (by rw [e, ← x]; rfl)), hn1, mt.n2, fun b e x => by rcases hb2 b e with y | y; (exact mt.n3 b y x); (have := (OwnR.blk2 mt.ju x).2; omega), hok, mt.jl⟩, fun b => Iff.rfl⟩, ⟨((hEh1.mono fun b e => (hF b).2 (.inl e)).trans (hE5.mono fun b e => (hF b).2 (.inr (.inl e)))).trans (hE6.mono fun b e => (hF b).2 (.inl e)), fun b e => by rcases e with e | e | e; (exact .inl ((hF b).2 (.inl e))); (rcases hb2 b e with y | y; (exact .inl ((hF b).2 (.inr (.inl y)))); (right; omega)); (exact .inl ((hF b).2 (.inr (.inr e))))⟩⟩⟩
set_option maxHeartbeats 400000 in
theorem massign_spec (h : Heap) (M : Nat) (F : Nat → Prop) (s : TS) (ms : MS h M F s) (lt r : Int) :
    FC Tryz.prog 83 (#[.pointer (some ⟨M, 0, none⟩), .int .i64 lt, .int .i64 r] : Array Value) h fun rv h' => rv = .int .i64 ((asgE s lt r : Nat) : Int) ∧ ∃ F', MS h' M F' (asgS s lt r) ∧ MX F F' h h' := by
  obtain ⟨a, cap, ja, jc, js, mt, hF⟩ := ms
  have m0 := mt.c0
  have m1 := mt.c1
  have m2 := mt.c2
  have m3 := mt.c3
  have g0 := m0
  have g1 := m0
  have g2 := m0
  have hlen := TI.len mt.ok
  have hdep := TI.dep mt.ok
  have hcc := mt.ok.c
  have mok : ∀ j, j < 4 → okPut h ⟨M, j, none⟩ = true := fun j hj => mt.t.ok (by simpa using hj)
  refine FC_of [(0, .pointer (some ⟨M, 0, none⟩)), (1, .int .i64 lt), (2, .int .i64 r)] Tryz.func83 rfl Tryz.ntmps83 (by simp) rfl (fun R hR => ?_)
  refine V_sr T.mix (by kernel_rfl) (fun K1 hK1 => ?_)
  refine S_as rfl ?_
  refine S_nil (hK1 _ _ (V_keep [0, 1, 2] (by simp only [proj, lk, reduceIte, Nat.reduceEqDiff]; rfl) ?_)); clear hK1
  refine V_seq (fun K2 hK2 => ?_)
  refine V_sr T.mix (by kernel_rfl) (fun K3 hK3 => ?_)
  refine S_mv rfl ?_
  refine S_call T.hb84 rfl ?_
  refine FC.mono (goodlit_spec _ lt) ?_
  rintro v' h' ⟨g, rfl, hg, rfl⟩
  refine S_notb rfl ?_
  refine S_nil (hK3 _ _ (V_keep [0, 1, 2, 10] (by simp only [proj, lk, reduceIte, Nat.reduceEqDiff]; rfl) ?_)); clear hK3
  refine V_condb rfl (fun c59 => ?_) (fun c59 => ?_)
  · skip
    simp only [Bool.not_eq_true'] at c59
    have hng : ¬ good lt := fun e => by rw [hg.2 e] at c59; cases c59
    unfold good at hng
    refine V_sr T.mix (by kernel_rfl) (fun K4 hK4 => ?_)
    refine S_as rfl ?_
    refine S_nil (hK4 _ _ (V_keep [6] (by simp only [proj, lk, reduceIte, Nat.reduceEqDiff]; rfl) ?_)); clear hK4
    refine V_ret ?_
    refine hR _ _ (ret1 rfl rfl ?_)
    have e1 : asgE s lt r = 7 := by unfold asgE; rw [if_neg hng]
    exact ⟨by rw [e1]; rfl, F, ⟨a, cap, ja, jc, js, by unfold asgS; rw [e1]; exact mt, hF⟩, MX.refl _ _⟩
  · skip
    simp only [Bool.not_eq_false'] at c59
    have hgl := hg.1 c59
    have hgl2 := hgl
    unfold good at hgl2
    refine V_skipk [0, 1, 2] (by simp only [proj, lk, reduceIte, Nat.reduceEqDiff]; rfl) ?_
    refine hK2 _ _ ?_; clear hK2
    refine V_seq (fun K5 hK5 => ?_)
    refine V_sr T.mix (by kernel_rfl) (fun K6 hK6 => ?_)
    refine S_mv rfl ?_
    refine S_bin rfl rfl rfl ?_
    refine S_nil (hK6 _ _ (V_keep [0, 1, 2, 12] (by simp only [proj, lk, reduceIte, Nat.reduceEqDiff]; rfl) ?_)); clear hK6
    refine V_condp rfl (fun c62 => ?_) (fun c62 => ?_)
    · skip
      refine V_sr T.mix (by kernel_rfl) (fun K7 hK7 => ?_)
      refine S_as rfl ?_
      refine S_nil (hK7 _ _ (V_keep [6] (by simp only [proj, lk, reduceIte, Nat.reduceEqDiff]; rfl) ?_)); clear hK7
      refine V_ret ?_
      refine hR _ _ (ret1 rfl rfl ?_)
      have e1 : asgE s lt r = 11 := by unfold asgE; rw [if_pos hgl2, if_pos (by omega)]
      exact ⟨by rw [e1]; rfl, F, ⟨a, cap, ja, jc, js, by unfold asgS; rw [e1]; exact mt, hF⟩, MX.refl _ _⟩
    · skip
      refine V_skipk [0, 1, 2] (by simp only [proj, lk, reduceIte, Nat.reduceEqDiff]; rfl) ?_
      refine hK5 _ _ ?_; clear hK5
      refine V_sr T.mix (by kernel_rfl) (fun K8 hK8 => ?_)
      refine S_mv rfl ?_
      refine S_call T.hb65 rfl ?_
      refine FC.mono (var_spec _ lt (by omega) (by omega)) ?_
      rintro v' h' ⟨rfl, rfl⟩
      refine S_as rfl ?_
      refine S_nil (hK8 _ _ (V_keep [0, 1, 2, 7] (by simp only [proj, lk, reduceIte, Nat.reduceEqDiff]; rfl) ?_)); clear hK8
      refine V_seq (fun K9 hK9 => ?_)
      refine V_sr T.mix (by kernel_rfl) (fun K10 hK10 => ?_)
      refine S_mv rfl ?_
      refine S_mv rfl ?_
      refine S_call T.hb88 rfl ?_
      refine FC.mono (find_spec h M F s ⟨a, cap, ja, jc, js, mt, hF⟩ (lt.natAbs : Int)) ?_
      rintro v' h' ⟨rfl, rfl⟩
      refine S_bin rfl rfl rfl ?_
      refine S_nil (hK10 _ _ (V_keep [0, 1, 2, 18] (by simp only [proj, lk, reduceIte, Nat.reduceEqDiff]; rfl) ?_)); clear hK10
      refine V_condp rfl (fun c66 => ?_) (fun c66 => ?_)
      · skip
        refine V_sr T.mix (by kernel_rfl) (fun K11 hK11 => ?_)
        refine S_as rfl ?_
        refine S_nil (hK11 _ _ (V_keep [6] (by simp only [proj, lk, reduceIte, Nat.reduceEqDiff]; rfl) ?_)); clear hK11
        refine V_ret ?_
        refine hR _ _ (ret1 rfl rfl ?_)
        have e1 : asgE s lt r = 9 := by unfold asgE; rw [if_pos hgl2, if_neg (by omega), if_pos (fun e => by have := pla_new.2 (val_new.1 e); rw [vr_abs] at this; omega)]
        exact ⟨by rw [e1]; rfl, F, ⟨a, cap, ja, jc, js, by unfold asgS; rw [e1]; exact mt, hF⟩, MX.refl _ _⟩
      · skip
        have hnw : New s.L (vr lt) := by rw [vr_abs]; exact pla_new.1 (by omega)
        refine V_skipk [0, 1, 2] (by simp only [proj, lk, reduceIte, Nat.reduceEqDiff]; rfl) ?_
        refine hK9 _ _ ?_; clear hK9
        refine V_sr T.mix (by kernel_rfl) (fun K12 hK12 => ?_)
        refine S_mv rfl ?_
        refine S_mv rfl ?_
        refine S_nc rfl ?_
        first | refine S_fa0 T.f87_0 rfl ?_ | refine S_fa T.f87_0 rfl ?_
        refine S_ldK T.ag85 rfl (fun K' hK' => ?_)
        simp (disch := omega) only [m0, m1, m2, m3, g0, g1, g2, oP_some, Nat.add_zero]
        refine hK' _ ?_; clear hK' K'
        refine S_mv rfl ?_
        refine S_mv rfl ?_
        refine S_nc rfl ?_
        first | refine S_fa0 T.f87_1 rfl ?_ | refine S_fa T.f87_1 rfl ?_
        refine S_ldK T.ag3 rfl (fun K' hK' => ?_)
        simp (disch := omega) only [m0, m1, m2, m3, g0, g1, g2, oP_some, Nat.add_zero]
        refine hK' _ ?_; clear hK' K'
        refine S_mv rfl ?_
        refine S_bld rfl (T.bld114_0_1_2 _ _ _) ?_
        refine S_bs T.ei85 rfl (by decide) (by decide) (T.bs85_1_0 _ _ _) ?_
        refine S_appx (lo := 0) T.ei85 T.ni85 T.us85 rfl rfl rfl (OwnR.ext mt.it (Ext.push (fun _ => False) _ _) (fun _ _ f => f)) (Nat.zero_le _) (cellsH_new _ _ _) rfl (by omega) (by decide) (by decide) rfl (fun a1 c1 h4 ho1 hE4 hb1 => ?_)
        have hE5 : Ext (fun b => blkA a = some b) h h4 := (Ext.push _ _ _).trans hE4
        have hb2 := new_blk (h := h) (h2 := h4) hb1 (by simp)
        have mok4 : ∀ j, j < 4 → okPut h4 ⟨M, j, none⟩ = true := fun j hj => (mt.t.ext hE5 mt.n1).ok (by simpa using hj)
        clear mok
        have mok := mok4
        refine S_nc rfl ?_
        first | refine S_fa0 T.f87_0 rfl ?_ | refine S_fa T.f87_0 rfl ?_
        refine S_st T.sz85 rfl rfl rfl rfl (by simp (disch := omega) only [mok]) ?_
        generalize hh : putH _ _ _ = h6
        have hT4 := mt.t.ext hE5 mt.n1
        have hT6 : B h6 M #[.slice a1 (s.L.length + 1) c1, .int .i64 (s.k), .int .i64 (s.c), .slice ja (js.length) jc] 87 := by rw [← hh]; exact hT4.put 0 _
        have hE6 : Ext (fun x => x = M) h4 h6 := by rw [← hh]; exact Ext.put _ _ rfl
        clear hh
        have hMl := mt.t.lt
        have hn1 : blkA a1 ≠ some M := fun e => by rcases hb2 M e with x | x; (exact mt.n1 x); (omega)
        have ju4 := OwnR.ext mt.ju hE5 (fun b e x => mt.n3 b x (by rw [e]; rfl))
        refine S_nil (hK12 _ _ (V_keep [] (by simp only [proj, lk, reduceIte, Nat.reduceEqDiff]; rfl) ?_)); clear hK12
        refine V_sr T.mix (by kernel_rfl) (fun K13 hK13 => ?_)
        refine S_as rfl ?_
        refine S_nil (hK13 _ _ (V_keep [6] (by simp only [proj, lk, reduceIte, Nat.reduceEqDiff]; rfl) ?_)); clear hK13
        refine V_ret ?_
        refine hR _ _ (ret1 rfl rfl ?_)
        have e1 : asgE s lt r = 0 := by unfold asgE; rw [if_pos hgl2, if_neg (by omega), if_neg (by simpa using val_new.2 hnw)]
        have hok : Ok (asgS s lt r) := Ok.asg mt.ok lt r
        have e2 : asgS s lt r = ⟨s.L ++ [⟨lt, s.k, r⟩], s.k, s.c⟩ := by unfold asgS; rw [if_pos e1]
        rw [e2] at hok ⊢
        exact ⟨by rw [e1]; rfl, ⟨fun b => b = M ∨ blkA a1 = some b ∨ blkA ja = some b, ⟨a1, c1, ja, jc, js, ⟨hT6.cong (by simp), by simp only [List.length_append, List.length_singleton]; rw [its_app]; exact OwnR.ext ho1 hE6 (fun b e x => hn1 (by rw [e, ← x]; rfl)), OwnR.ext ju4 hE6 (fun b e x => mt.n2 (by rw [e, ← x]; rfl)), hn1, mt.n2, fun b e x => by rcases hb2 b e with y | y; (exact mt.n3 b y x); (have := (OwnR.blk2 mt.ju x).2; omega), hok, mt.jl⟩, fun b => Iff.rfl⟩, ⟨(hE5.mono fun b e => (hF b).2 (.inr (.inl e))).trans (hE6.mono fun b e => (hF b).2 (.inl e)), fun b e => by rcases e with e | e | e; (exact .inl ((hF b).2 (.inl e))); (rcases hb2 b e with y | y; (exact .inl ((hF b).2 (.inr (.inl y)))); (right; omega)); (exact .inl ((hF b).2 (.inr (.inr e))))⟩⟩⟩
set_option maxHeartbeats 1600000 in
theorem mbackjump_spec (h : Heap) (M : Nat) (F : Nat → Prop) (s : TS) (ms : MS h M F s) (lv : Int) :
    FC Tryz.prog 69 (#[.pointer (some ⟨M, 0, none⟩), .int .i64 lv] : Array Value) h fun rv h' => rv = .int .i64 ((bjE s lv : Nat) : Int) ∧ ∃ F', MS h' M F' (bjS s lv) ∧ MX F F' h h' := by
  obtain ⟨a, cap, ja, jc, js, mt, hF⟩ := ms
  have m0 := mt.c0
  have m1 := mt.c1
  have m2 := mt.c2
  have m3 := mt.c3
  have g0 := m0
  have g1 := m0
  have g2 := m0
  have hlen := TI.len mt.ok
  have hdep := TI.dep mt.ok
  have hcc := mt.ok.c
  refine FC_of [(0, .pointer (some ⟨M, 0, none⟩)), (1, .int .i64 lv)] Tryz.func69 rfl Tryz.ntmps69 (by simp) rfl (fun R hR => ?_)
  refine V_sr T.mix (by kernel_rfl) (fun K1 hK1 => ?_)
  refine S_as rfl ?_
  refine S_nil (hK1 _ _ (V_keep [0, 1] (by simp only [proj, lk, reduceIte, Nat.reduceEqDiff]; rfl) ?_)); clear hK1
  refine V_seq (fun K2 hK2 => ?_)
  refine V_sr T.mix (by kernel_rfl) (fun K3 hK3 => ?_)
  refine S_mv rfl ?_
  refine S_bin rfl rfl rfl ?_
  refine S_mv rfl ?_
  refine S_dec (fun g74 => ?_) (fun g74 => ?_)
  · skip
    refine S_gf rfl ?_
    refine S_gf rfl ?_
    refine S_gf rfl ?_
    refine S_gf rfl ?_
    refine S_gf rfl ?_
    refine S_gf rfl ?_
    refine S_pt rfl rfl ?_
    refine S_nil (hK3 _ _ (V_keep [0, 1, 16] (by simp only [proj, lk, reduceIte, Nat.reduceEqDiff]; rfl) ?_)); clear hK3
    refine V_condt rfl ?_
    refine V_sr T.mix (by kernel_rfl) (fun K4 hK4 => ?_)
    refine S_as rfl ?_
    refine S_nil (hK4 _ _ (V_keep [4] (by simp only [proj, lk, reduceIte, Nat.reduceEqDiff]; rfl) ?_)); clear hK4
    refine V_ret ?_
    refine hR _ _ (ret1 rfl rfl ?_)
    exact ⟨by rw [show bjE s lv = 10 by unfold bjE; rw [if_pos (by omega)]]; rfl, F, ⟨a, cap, ja, jc, js, by rw [show bjS s lv = s by unfold bjS; rw [show bjE s lv = 10 by unfold bjE; rw [if_pos (by omega)]]; rfl]; exact mt, hF⟩, MX.refl _ _⟩
  · skip
    refine S_gt rfl ?_
    refine S_mv rfl ?_
    refine S_gt rfl ?_
    refine S_mv rfl ?_
    refine S_gt rfl ?_
    refine S_nc rfl ?_
    refine S_gt rfl ?_
    first | refine S_fa0 T.f87_1 rfl ?_ | refine S_fa T.f87_1 rfl ?_
    refine S_gt rfl ?_
    refine S_ldK T.ag3 rfl (fun K' hK' => ?_)
    simp (disch := omega) only [m0, m1, m2, m3, g0, g1, g2, oP_some, Nat.add_zero]
    refine hK' _ ?_; clear hK' K'
    refine S_gt rfl ?_
    refine S_bin rfl rfl rfl ?_
    refine S_pf rfl rfl ?_
    refine S_nil (hK3 _ _ (V_keep [0, 1, 16] (by simp only [proj, lk, reduceIte, Nat.reduceEqDiff]; rfl) ?_)); clear hK3
    refine V_condp rfl (fun c74 => ?_) (fun c74 => ?_)
    · skip
      refine V_sr T.mix (by kernel_rfl) (fun K5 hK5 => ?_)
      refine S_as rfl ?_
      refine S_nil (hK5 _ _ (V_keep [4] (by simp only [proj, lk, reduceIte, Nat.reduceEqDiff]; rfl) ?_)); clear hK5
      refine V_ret ?_
      refine hR _ _ (ret1 rfl rfl ?_)
      exact ⟨by rw [show bjE s lv = 10 by unfold bjE; rw [if_pos (by omega)]]; rfl, F, ⟨a, cap, ja, jc, js, by rw [show bjS s lv = s by unfold bjS; rw [show bjE s lv = 10 by unfold bjE; rw [if_pos (by omega)]]; rfl]; exact mt, hF⟩, MX.refl _ _⟩
    · skip
      refine V_skipk [0, 1] (by simp only [proj, lk, reduceIte, Nat.reduceEqDiff]; rfl) ?_
      refine hK2 _ _ ?_; clear hK2
      refine V_sr T.mix (by kernel_rfl) (fun K6 hK6 => ?_)
      refine S_as rfl ?_
      refine S_nil (hK6 _ _ (V_keep [0, 1, 5] (by simp only [proj, lk, reduceIte, Nat.reduceEqDiff]; rfl) ?_)); clear hK6
      refine V_seq (fun K7 hK7 => ?_)
      refine V_sr T.mix (by kernel_rfl) (fun K8 hK8 => ?_)
      refine S_as rfl ?_
      refine S_nil (hK8 _ _ (V_keep [0, 1, 5, 6] (by simp only [proj, lk, reduceIte, Nat.reduceEqDiff]; rfl) ?_)); clear hK8
      refine V_block ?_
      refine V_loop (fun m l h' => ∃ (i : Nat) (hk : Heap) (ka : Option Addr) (kc : Nat), (i ≤ s.L.length) ∧ (OwnR h.size hk ka ((s.L.take i).filter fun x => decide (x.lev ≤ lv)).length kc (its ((s.L.take i).filter fun x => decide (x.lev ≤ lv))) 114 3) ∧ (Ext (fun _ => False) h hk) ∧ m = s.L.length - i ∧ l = [(0, .pointer (some ⟨M, 0, none⟩)), (1, .int .i64 lv), (5, .slice ka ((s.L.take i).filter fun x => decide (x.lev ≤ lv)).length kc), (6, .int .i64 (i : Int))] ∧ hk = h') _ ⟨0, h, none, 0, by omega, OwnR.nil _ _ _ _, Ext.refl _ _, rfl, rfl, rfl⟩ ?_
      rintro m l h' ⟨i, hk, ka, kc, hi, hO, hEk, rfl, rfl, rfl⟩ K9 hK9
      clear m0 m1 m2 m3 g0 g1 g2
      have mk := mt.ext hEk (fun f => f) (fun _ _ f => f) (fun _ _ f => f)
      have m0 := mk.c0
      have m1 := mk.c1
      have m2 := mk.c2
      have m3 := mk.c3
      have g0 := m0
      have g1 := m0
      have g2 := m0
      have hsk := hEk.1
      have hkl : ((s.L.take i).filter fun x => decide (x.lev ≤ lv)).length ≤ 12 := by have := List.length_filter_le (fun x => decide (x.lev ≤ lv)) (s.L.take i); simp at this ⊢; omega
      refine V_seq (fun K10 hK10 => ?_)
      refine V_sr T.mix (by kernel_rfl) (fun K11 hK11 => ?_)
      refine S_mv rfl ?_
      refine S_mv rfl ?_
      refine S_nc rfl ?_
      first | refine S_fa0 T.f87_0 rfl ?_ | refine S_fa T.f87_0 rfl ?_
      refine S_ldK T.ag85 rfl (fun K' hK' => ?_)
      simp (disch := omega) only [m0, m1, m2, m3, g0, g1, g2, oP_some, Nat.add_zero]
      refine hK' _ ?_; clear hK' K'
      refine S_lenl T.el85 rfl ?_
      refine S_bin rfl rfl rfl ?_
      refine S_nil (hK11 _ _ (V_keep [0, 1, 5, 6, 23] (by simp only [proj, lk, reduceIte, Nat.reduceEqDiff]; rfl) ?_)); clear hK11
      refine V_condp rfl (fun c78 => ?_) (fun c78 => ?_)
      · skip
        clear g0 g1 g2
        obtain ⟨ab, rfl, hab, hgt⟩ := row_get mk.it (by omega)
        have g0 := (hgt i (by omega)).1
        have g1 := (hgt i (by omega)).2.1
        have g2 := (hgt i (by omega)).2.2
        obtain ⟨x, hx⟩ : ∃ x, s.L.getD i ⟨0, 0, 0⟩ = x := ⟨_, rfl⟩
        have hlt : i < s.L.length := by omega
        have htk : s.L.take (i + 1) = s.L.take i ++ [x] := by rw [List.take_add_one, ← hx]; simp [hlt]
        rw [hx] at g0 g1 g2
        refine V_skipk [0, 1, 5, 6] (by simp only [proj, lk, reduceIte, Nat.reduceEqDiff]; rfl) ?_
        refine hK10 _ _ ?_; clear hK10
        refine V_seq (fun K12 hK12 => ?_)
        refine V_block ?_
        refine V_sr T.mix (by kernel_rfl) (fun K13 hK13 => ?_)
        refine S_mv rfl ?_
        refine S_nc rfl ?_
        first | refine S_fa0 T.f87_0 rfl ?_ | refine S_fa T.f87_0 rfl ?_
        refine S_ldK T.ag85 rfl (fun K' hK' => ?_)
        simp (disch := omega) only [m0, m1, m2, m3, g0, g1, g2, oP_some, Nat.add_zero]
        refine hK' _ ?_; clear hK' K'
        refine S_mv rfl ?_
        first | refine S_ixmn T.el85 rfl rfl (by omega) ?_ | refine S_ixm T.el85 rfl rfl (by omega) (by omega) ?_ | refine S_ix T.el85 rfl rfl (by omega) (by omega) ?_
        first | refine S_fa0 T.f114_1 rfl ?_ | refine S_fa T.f114_1 rfl ?_
        refine S_ldK T.ag3 rfl (fun K' hK' => ?_)
        simp (disch := omega) only [m0, m1, m2, m3, g0, g1, g2, oP_some, Nat.add_zero]
        refine hK' _ ?_; clear hK' K'
        refine S_mv rfl ?_
        refine S_bin rfl rfl rfl ?_
        refine S_nil (hK13 _ _ (V_keep [0, 1, 5, 6, 35] (by simp only [proj, lk, reduceIte, Nat.reduceEqDiff]; rfl) ?_)); clear hK13
        refine V_condp rfl (fun c79 => ?_) (fun c79 => ?_)
        · skip
          refine V_reg T.mix (by kernel_rfl) ?_
          refine S_mv rfl ?_
          refine S_mv rfl ?_
          refine S_nc rfl ?_
          first | refine S_fa0 T.f87_0 rfl ?_ | refine S_fa T.f87_0 rfl ?_
          refine S_ldK T.ag85 rfl (fun K' hK' => ?_)
          simp (disch := omega) only [m0, m1, m2, m3, g0, g1, g2, oP_some, Nat.add_zero]
          refine hK' _ ?_; clear hK' K'
          refine S_mv rfl ?_
          first | refine S_ixmn T.el85 rfl rfl (by omega) ?_ | refine S_ixm T.el85 rfl rfl (by omega) (by omega) ?_ | refine S_ix T.el85 rfl rfl (by omega) (by omega) ?_
          refine S_ldn T.ag114 rfl (cells3 g0 g1 g2) ?_
          refine S_bs T.ei85 rfl (by decide) (by decide) (T.bs85_1_0 _ _ _) ?_
          refine S_appx (lo := h.size) T.ei85 T.ni85 T.us85 rfl rfl rfl (OwnR.ext hO (Ext.push (fun _ => False) _ _) (fun _ _ f => f)) (by simp; omega) (cellsH_new _ _ _) rfl (by omega) (by decide) (by decide) rfl (fun a1 c1 h4 ho1 hE4 hb1 => ?_)
          have hE5 : Ext (fun b => blkA ka = some b) hk h4 := (Ext.push _ _ _).trans hE4
          refine S_as rfl ?_
          refine S_nilk [0, 1, 5, 6] (by simp only [proj, lk, reduceIte, Nat.reduceEqDiff]; rfl) ?_
          refine hK12 _ _ ?_; clear hK12
          refine V_reg T.mix (by kernel_rfl) ?_
          refine S_mv rfl ?_
          first | refine S_add rfl rfl (by omega) (by omega) ?_ | refine S_bin rfl rfl rfl ?_
          refine S_as rfl ?_
          refine S_nilk [0, 1, 5, 6] (by simp only [proj, lk, reduceIte, Nat.reduceEqDiff]; rfl) ?_
          have e9 : ((s.L.take (i + 1)).filter fun x => decide (x.lev ≤ lv)) = ((s.L.take i).filter fun x => decide (x.lev ≤ lv)) ++ [x] := by rw [htk, List.filter_append, List.filter_cons, if_pos (by simpa using c79)]; rfl
          exact hK9 _ _ ⟨_, by omega, i + 1, h4, a1, c1, by omega, by rw [e9, List.length_append, its_app]; exact ho1, hEk.step hE5 (fun b hb e => by have := (OwnR.blk2 hO e).1; omega), rfl, by rw [e9, List.length_append]; rfl, rfl⟩
        · skip
          refine V_skipk [0, 1, 5, 6] (by simp only [proj, lk, reduceIte, Nat.reduceEqDiff]; rfl) ?_
          refine hK12 _ _ ?_; clear hK12
          refine V_reg T.mix (by kernel_rfl) ?_
          refine S_mv rfl ?_
          first | refine S_add rfl rfl (by omega) (by omega) ?_ | refine S_bin rfl rfl rfl ?_
          refine S_as rfl ?_
          refine S_nilk [0, 1, 5, 6] (by simp only [proj, lk, reduceIte, Nat.reduceEqDiff]; rfl) ?_
          have e9 : ((s.L.take (i + 1)).filter fun x => decide (x.lev ≤ lv)) = ((s.L.take i).filter fun x => decide (x.lev ≤ lv)) := by rw [htk, List.filter_append, List.filter_cons, if_neg (by simpa using c79)]; simp
          exact hK9 _ _ ⟨_, by omega, i + 1, hk, ka, kc, by omega, by rw [e9]; exact hO, hEk, rfl, by rw [e9]; rfl, rfl⟩
      · skip
        have hii : i = s.L.length := by omega
        subst hii
        rw [List.take_length, backL_eq mt.ok lv] at hO
        rw [List.take_length, backL_eq mt.ok lv]
        have e1 : bjE s lv = 0 := by unfold bjE; rw [if_neg (by omega)]
        have hok : Ok (bjS s lv) := Ok.bj mt.ok lv
        have e2 : bjS s lv = ⟨backL s.L lv, lv.toNat, min s.c (cnt s.L (lv + 1))⟩ := by unfold bjS; rw [if_pos e1]
        have hbl : (backL s.L lv).length = cnt s.L (lv + 1) := by unfold backL; rw [List.length_take]; have := cnt_le s.L (lv + 1); omega
        have hMl := mt.t.lt
        have hkm : ∀ b, blkA ka = some b → h.size ≤ b := fun b e => (OwnR.blk2 hO e).1
        have hkM : blkA ka ≠ some M := fun e => by have := hkm M e; omega
        have hEm : Ext F h hk := hEk.mono fun _ f => f.elim
        rw [e2] at hok
        have mok : ∀ j, j < 4 → okPut hk ⟨M, j, none⟩ = true := fun j hj => mk.t.ok (by simpa using hj)
        refine V_exitk [0, 1, 5] rfl (by simp only [proj, lk, reduceIte, Nat.reduceEqDiff]; rfl) ?_
        refine hK7 _ _ ?_; clear hK7
        refine V_sr T.mix (by kernel_rfl) (fun K14 hK14 => ?_)
        refine S_mv rfl ?_
        refine S_mv rfl ?_
        refine S_nc rfl ?_
        first | refine S_fa0 T.f87_0 rfl ?_ | refine S_fa T.f87_0 rfl ?_
        refine S_st T.sz85 rfl rfl rfl rfl (by simp (disch := omega) only [mok]) ?_
        generalize hh : putH _ _ _ = h1
        have hTh1 : B h1 M #[.slice ka ((backL s.L lv).length) kc, .int .i64 (s.k), .int .i64 (s.c), .slice ja (js.length) jc] 87 := by rw [← hh]; exact mk.t.put 0 _
        have hEh1 : Ext (fun x => x = M) hk h1 := by rw [← hh]; exact Ext.put _ _ rfl
        clear hh
        try clear mok
        have mok : ∀ j, j < 4 → okPut h1 ⟨M, j, none⟩ = true := fun j hj => hTh1.ok (by simpa using hj)
        refine S_nil (hK14 _ _ (V_keep [0, 1, 5] (by simp only [proj, lk, reduceIte, Nat.reduceEqDiff]; rfl) ?_)); clear hK14
        refine V_sr T.mix (by kernel_rfl) (fun K15 hK15 => ?_)
        refine S_mv rfl ?_
        refine S_mv rfl ?_
        refine S_nc rfl ?_
        first | refine S_fa0 T.f87_1 rfl ?_ | refine S_fa T.f87_1 rfl ?_
        refine S_st T.sz3 rfl rfl rfl rfl (by simp (disch := omega) only [mok]) ?_
        generalize hh : putH _ _ _ = h2
        have hTh2 : B h2 M #[.slice ka ((backL s.L lv).length) kc, .int .i64 (lv), .int .i64 (s.c), .slice ja (js.length) jc] 87 := by rw [← hh]; exact hTh1.put 1 _
        have hEh2 : Ext (fun x => x = M) h1 h2 := by rw [← hh]; exact Ext.put _ _ rfl
        clear hh
        try clear mok
        have mok : ∀ j, j < 4 → okPut h2 ⟨M, j, none⟩ = true := fun j hj => hTh2.ok (by simpa using hj)
        clear m0 m1 m2 m3
        have m2 : cellH h2 ⟨M, 2, none⟩ = some (.int .i64 (s.c : Int)) := hTh2.cell 2
        have m3 : cellH h2 ⟨M, 3, none⟩ = some (.slice ja js.length jc) := hTh2.cell 3
        have m0 := m2
        have m1 := m2
        refine S_nil (hK15 _ _ (V_keep [0, 1, 5] (by simp only [proj, lk, reduceIte, Nat.reduceEqDiff]; rfl) ?_)); clear hK15
        refine V_seqJ (fun l h' => ∃ (h5 : Heap) (c5 : Int), (c5 = ((min s.c (cnt s.L (lv + 1)) : Nat) : Int)) ∧ (B h5 M #[.slice ka ((backL s.L lv).length) kc, .int .i64 (lv), .int .i64 (c5), .slice ja (js.length) jc] 87) ∧ (Ext (fun x => x = M) hk h5) ∧ l = [(0, .pointer (some ⟨M, 0, none⟩)), (1, .int .i64 lv)] ∧ h5 = h') ?_ ?_
        · skip
          refine V_sr T.mix (by kernel_rfl) (fun K17 hK17 => ?_)
          refine S_mv rfl ?_
          refine S_nc rfl ?_
          first | refine S_fa0 T.f87_2 rfl ?_ | refine S_fa T.f87_2 rfl ?_
          refine S_ldK T.ag3 rfl (fun K' hK' => ?_)
          simp (disch := omega) only [m0, m1, m2, m3, g0, g1, g2, oP_some, Nat.add_zero]
          refine hK' _ ?_; clear hK' K'
          refine S_mv rfl ?_
          refine S_lenl T.el85 rfl ?_
          refine S_bin rfl rfl rfl ?_
          refine S_nil (hK17 _ _ (V_keep [0, 1, 5, 60] (by simp only [proj, lk, reduceIte, Nat.reduceEqDiff]; rfl) ?_)); clear hK17
          refine V_condp rfl (fun c85 => ?_) (fun c85 => ?_)
          · skip
            refine V_reg T.mix (by kernel_rfl) ?_
            refine S_mv rfl ?_
            refine S_mv rfl ?_
            refine S_lenl T.el85 rfl ?_
            refine S_nc rfl ?_
            first | refine S_fa0 T.f87_2 rfl ?_ | refine S_fa T.f87_2 rfl ?_
            refine S_st T.sz3 rfl rfl rfl rfl (by simp (disch := omega) only [mok]) ?_
            generalize hh : putH _ _ _ = h3
            have hTh3 : B h3 M #[.slice ka ((backL s.L lv).length) kc, .int .i64 (lv), .int .i64 (((backL s.L lv).length : Int)), .slice ja (js.length) jc] 87 := by rw [← hh]; exact hTh2.put 2 _
            have hEh3 : Ext (fun x => x = M) h2 h3 := by rw [← hh]; exact Ext.put _ _ rfl
            clear hh
            try clear mok
            have mok : ∀ j, j < 4 → okPut h3 ⟨M, j, none⟩ = true := fun j hj => hTh3.ok (by simpa using hj)
            refine S_nilk [0, 1] (by simp only [proj, lk, reduceIte, Nat.reduceEqDiff]; rfl) ?_
            exact ⟨h3, ((backL s.L lv).length : Int), by omega, hTh3, (hEh1.trans hEh2).trans hEh3, rfl, rfl⟩
          · skip
            refine V_skipk [0, 1] (by simp only [proj, lk, reduceIte, Nat.reduceEqDiff]; rfl) ?_
            exact ⟨h2, (s.c : Int), by omega, hTh2, hEh1.trans hEh2, rfl, rfl⟩
        rintro l h' ⟨h5, c5, hc5, hT5, hE05, rfl, rfl⟩
        clear mok m0 m1 m2 m3
        have m3 : cellH h5 ⟨M, 3, none⟩ = some (.slice ja js.length jc) := hT5.cell 3
        have m0 := m3
        have m1 := m3
        have m2 := m3
        have ju5 := OwnR.ext mk.ju hE05 (fun b e x => mt.n2 (by rw [e, ← x]; rfl))
        have it5 := OwnR.ext hO hE05 (fun b e x => hkM (by rw [e, ← x]; rfl))
        have hs5 := hE05.1
        have hjl := mt.jl
        have mok : ∀ j, j < 4 → okPut h5 ⟨M, j, none⟩ = true := fun j hj => hT5.ok (by simpa using hj)
        refine V_seq (fun K18 hK18 => ?_)
        refine V_sr T.mix (by kernel_rfl) (fun K19 hK19 => ?_)
        refine S_mv rfl ?_
        refine S_nc rfl ?_
        first | refine S_fa0 T.f87_3 rfl ?_ | refine S_fa T.f87_3 rfl ?_
        refine S_ldK T.ag39 rfl (fun K' hK' => ?_)
        simp (disch := omega) only [m0, m1, m2, m3, g0, g1, g2, oP_some, Nat.add_zero]
        refine hK' _ ?_; clear hK' K'
        refine S_lenl T.el39 rfl ?_
        refine S_bin rfl rfl rfl ?_
        refine S_nil (hK19 _ _ (V_keep [0, 1, 71] (by simp only [proj, lk, reduceIte, Nat.reduceEqDiff]; rfl) ?_)); clear hK19
        refine V_condp rfl (fun c88 => ?_) (fun c88 => ?_)
        · skip
          refine V_reg T.mix (by kernel_rfl) ?_
          refine S_mv rfl ?_
          refine S_mv rfl ?_
          refine S_nc rfl ?_
          first | refine S_fa0 T.f87_3 rfl ?_ | refine S_fa T.f87_3 rfl ?_
          refine S_ldK T.ag39 rfl (fun K' hK' => ?_)
          simp (disch := omega) only [m0, m1, m2, m3, g0, g1, g2, oP_some, Nat.add_zero]
          refine hK' _ ?_; clear hK' K'
          refine S_mv rfl ?_
          refine S_bs T.ei39 rfl (by decide) (by decide) (T.bs39_1_0 _) ?_
          refine S_appx (lo := 0) T.ei39 T.ni39 T.us39 rfl rfl rfl (OwnR.ext ju5 (Ext.push (fun _ => False) _ _) (fun _ _ f => f)) (Nat.zero_le _) (cellsH_new _ _ _) rfl (by omega) (by decide) (by decide) rfl (fun j1 jc1 h6 hj1 hE6a hb6 => ?_)
          have hE6 : Ext (fun b => blkA ja = some b) h5 h6 := (Ext.push _ _ _).trans hE6a
          have hb7 := new_blk (h := h5) (h2 := h6) hb6 (by simp)
          have hT6 := hT5.ext hE6 mt.n2
          have mok6 : ∀ j, j < 4 → okPut h6 ⟨M, j, none⟩ = true := fun j hj => hT6.ok (by simpa using hj)
          clear mok
          have mok := mok6
          refine S_nc rfl ?_
          first | refine S_fa0 T.f87_3 rfl ?_ | refine S_fa T.f87_3 rfl ?_
          refine S_st T.sz39 rfl rfl rfl rfl (by simp (disch := omega) only [mok]) ?_
          generalize hh : putH _ _ _ = h7
          have hT7 : B h7 M #[.slice ka ((backL s.L lv).length) kc, .int .i64 (lv), .int .i64 (c5), .slice j1 (js.length + 1) jc1] 87 := by rw [← hh]; exact hT6.put 3 _
          have hE7 : Ext (fun x => x = M) h6 h7 := by rw [← hh]; exact Ext.put _ _ rfl
          clear hh
          refine S_nilk [] (by simp only [proj, lk, reduceIte, Nat.reduceEqDiff]; rfl) ?_
          refine hK18 _ _ ?_; clear hK18
          refine V_sr T.mix (by kernel_rfl) (fun K20 hK20 => ?_)
          refine S_as rfl ?_
          refine S_nil (hK20 _ _ (V_keep [4] (by simp only [proj, lk, reduceIte, Nat.reduceEqDiff]; rfl) ?_)); clear hK20
          refine V_ret ?_
          refine hR _ _ (ret1 rfl rfl ?_)
          have it7 := OwnR.ext (OwnR.ext it5 hE6 (fun b e x => by have h9 := hkm b (by rw [e]; rfl); have := (OwnR.blk2 mt.ju x).2; omega)) hE7 (fun b e x => hkM (by rw [e, ← x]; rfl))
          have hj2 : blkA j1 ≠ some M := fun e => by rcases hb7 M e with x | x; (exact mt.n2 x); (omega)
          have ju7 := OwnR.ext hj1 hE7 (fun b e x => hj2 (by rw [e, ← x]; rfl))
          rw [e1, e2]
          refine ⟨rfl, fun b => b = M ∨ blkA ka = some b ∨ blkA j1 = some b, ⟨ka, kc, j1, jc1, js ++ [lv], ⟨hT7.cong (by simp [hc5]; omega), OwnR_lo0 it7, by rw [ints_snoc, List.length_append]; exact ju7, hkM, hj2, fun b e x => ?_, hok, by simp; omega⟩, fun b => Iff.rfl⟩, ?_, fun b e => ?_⟩
          · rcases hb7 b x with y | y
            · have := hkm b e; have := (OwnR.blk2 mt.ju y).2; omega
            · have := (OwnR.blk2 it5 e).2; omega
          · exact ((hEm.trans (hE05.mono fun b e => (hF b).2 (.inl e))).trans (hE6.mono fun b e => (hF b).2 (.inr (.inr e)))).trans (hE7.mono fun b e => (hF b).2 (.inl e))
          · rcases e with e | e | e
            · exact .inl ((hF b).2 (.inl e))
            · exact .inr (hkm b e)
            · rcases hb7 b e with y | y
              · exact .inl ((hF b).2 (.inr (.inr y)))
              · right; omega
        · skip
          refine V_skipk [] (by simp only [proj, lk, reduceIte, Nat.reduceEqDiff]; rfl) ?_
          refine hK18 _ _ ?_; clear hK18
          refine V_sr T.mix (by kernel_rfl) (fun K21 hK21 => ?_)
          refine S_as rfl ?_
          refine S_nil (hK21 _ _ (V_keep [4] (by simp only [proj, lk, reduceIte, Nat.reduceEqDiff]; rfl) ?_)); clear hK21
          refine V_ret ?_
          refine hR _ _ (ret1 rfl rfl ?_)
          rw [e1, e2]
          refine ⟨rfl, fun b => b = M ∨ blkA ka = some b ∨ blkA ja = some b, ⟨ka, kc, ja, jc, js, ⟨hT5.cong (by simp [hc5]; omega), OwnR_lo0 it5, ju5, hkM, mt.n2, fun b e x => ?_, hok, mt.jl⟩, fun b => Iff.rfl⟩, ?_, fun b e => ?_⟩
          · have := hkm b e; have := (OwnR.blk2 mt.ju x).2; omega
          · exact hEm.trans (hE05.mono fun b e => (hF b).2 (.inl e))
          · rcases e with e | e | e
            · exact .inl ((hF b).2 (.inl e))
            · exact .inr (hkm b e)
            · exact .inl ((hF b).2 (.inr (.inr e)))
set_option maxHeartbeats 400000 in
theorem mclone_spec (h : Heap) (M : Nat) (F : Nat → Prop) (s : TS) (ms : MS h M F s) :
    FC Tryz.prog 139 (#[.pointer (some ⟨M, 0, none⟩)] : Array Value) h fun rv h' => ∃ W G, rv = .pointer (some ⟨W, 0, none⟩) ∧ MS h' W G s ∧ Ext (fun _ => False) h h' ∧ ∀ b, G b → h.size ≤ b := by
  obtain ⟨a, cap, ja, jc, js, mt, hF⟩ := ms
  have m0 := mt.c0
  have m1 := mt.c1
  have m2 := mt.c2
  have m3 := mt.c3
  have g0 := m0
  have g1 := m0
  have g2 := m0
  have hlen := TI.len mt.ok
  have hdep := TI.dep mt.ok
  have hcc := mt.ok.c
  refine FC_of [(0, .pointer (some ⟨M, 0, none⟩))] Tryz.func139 rfl Tryz.ntmps139 (by simp) rfl (fun R hR => ?_)
  refine V_sr T.mix (by kernel_rfl) (fun K1 hK1 => ?_)
  refine S_as rfl ?_
  refine S_nil (hK1 _ _ (V_keep [0] (by simp only [proj, lk, reduceIte, Nat.reduceEqDiff]; rfl) ?_)); clear hK1
  refine V_sr T.mix (by kernel_rfl) (fun K2 hK2 => ?_)
  refine S_mv rfl ?_
  refine S_nc rfl ?_
  first | refine S_fa0 T.f87_1 rfl ?_ | refine S_fa T.f87_1 rfl ?_
  refine S_ldK T.ag3 rfl (fun K' hK' => ?_)
  simp (disch := omega) only [m0, m1, m2, m3, g0, g1, g2, oP_some, Nat.add_zero]
  refine hK' _ ?_; clear hK' K'
  refine S_mv rfl ?_
  refine S_nc rfl ?_
  first | refine S_fa0 T.f87_2 rfl ?_ | refine S_fa T.f87_2 rfl ?_
  refine S_ldK T.ag3 rfl (fun K' hK' => ?_)
  simp (disch := omega) only [m0, m1, m2, m3, g0, g1, g2, oP_some, Nat.add_zero]
  refine hK' _ ?_; clear hK' K'
  refine S_bld rfl (T.bld87_1_2 _ _) ?_
  refine S_boxA rfl ?_
  generalize hh : Array.push h _ = h1
  have hB : B h1 h.size #[.slice none (0) 0, .int .i64 (s.k), .int .i64 (s.c), .slice none (0) 0] 87 := by rw [← hh]; exact B.new _ _ _
  have hE1 : Ext (fun _ => False) h h1 := by rw [← hh]; exact Ext.push _ _ _
  clear hh
  have mk := mt.ext hE1 (fun f => f) (fun _ _ f => f) (fun _ _ f => f)
  clear m0 m1 m2 m3 g0 g1 g2
  have m0 := mk.c0
  have m1 : cellH h1 ⟨h.size, 0, none⟩ = some (.slice none 0 0) := hB.cell 0
  have m2 := m0
  have m3 := m0
  have g0 := m0
  have g1 := m0
  have g2 := m0
  have hs1 := hB.lt
  refine S_as rfl ?_
  refine S_nil (hK2 _ _ (V_keep [0, 3] (by simp only [proj, lk, reduceIte, Nat.reduceEqDiff]; rfl) ?_)); clear hK2
  refine V_sr T.mix (by kernel_rfl) (fun K3 hK3 => ?_)
  refine S_mv rfl ?_
  refine S_mv rfl ?_
  refine S_nc rfl ?_
  first | refine S_fa0 T.f87_0 rfl ?_ | refine S_fa T.f87_0 rfl ?_
  refine S_ldK T.ag85 rfl (fun K' hK' => ?_)
  simp (disch := omega) only [m0, m1, m2, m3, g0, g1, g2, oP_some, Nat.add_zero]
  refine hK' _ ?_; clear hK' K'
  refine S_mv rfl ?_
  refine S_nc rfl ?_
  first | refine S_fa0 T.f87_0 rfl ?_ | refine S_fa T.f87_0 rfl ?_
  refine S_ldK T.ag85 rfl (fun K' hK' => ?_)
  simp (disch := omega) only [m0, m1, m2, m3, g0, g1, g2, oP_some, Nat.add_zero]
  refine hK' _ ?_; clear hK' K'
  refine S_appx (lo := h.size) T.ei85 T.ni85 T.us85 rfl rfl rfl (OwnR.nil _ _ _ _) (by omega) (OwnR.cells mk.it) (its_len _) (by omega) (by decide) (by decide) (by rw [List.all_eq_true]; exact its_one _) (fun a1 c1 h2 ho1 hE2 hb1 => ?_)
  have hB2 := hB.ext hE2 (by simp [blkA])
  have mok : ∀ j, j < 4 → okPut h2 ⟨h.size, j, none⟩ = true := fun j hj => hB2.ok (by simpa using hj)
  have hE2b : Ext (fun _ => False) h1 h2 := hE2.mono fun b e => by simp [blkA] at e
  have hs2 := hE2.1
  refine S_nc rfl ?_
  first | refine S_fa0 T.f87_0 rfl ?_ | refine S_fa T.f87_0 rfl ?_
  refine S_st T.sz85 rfl rfl rfl rfl (by simp (disch := omega) only [mok]) ?_
  generalize hh : putH _ _ _ = h3
  have hT3 : B h3 h.size #[.slice a1 (0 + s.L.length) c1, .int .i64 (s.k), .int .i64 (s.c), .slice none (0) 0] 87 := by rw [← hh]; exact hB2.put 0 _
  have hE3 : Ext (fun x => x = h.size) h2 h3 := by rw [← hh]; exact Ext.put _ _ rfl
  clear hh
  have hn1 : blkA a1 ≠ some h.size := fun e => by rcases hb1 with x | x; (rw [x] at e; simp [blkA] at e); (rw [x] at e; simp only [Option.some.injEq] at e; omega)
  have hlo : ∀ b, blkA a1 = some b → h.size ≤ b := fun b e => (OwnR.blk2 ho1 e).1
  refine S_nil (hK3 _ _ (V_keep [3] (by simp only [proj, lk, reduceIte, Nat.reduceEqDiff]; rfl) ?_)); clear hK3
  refine V_sr T.mix (by kernel_rfl) (fun K4 hK4 => ?_)
  refine S_mv rfl ?_
  refine S_as rfl ?_
  refine S_nil (hK4 _ _ (V_keep [2] (by simp only [proj, lk, reduceIte, Nat.reduceEqDiff]; rfl) ?_)); clear hK4
  refine V_ret ?_
  refine hR _ _ (ret1 rfl rfl ?_)
  refine ⟨h.size, fun b => b = h.size ∨ blkA a1 = some b, rfl, ⟨a1, c1, none, 0, [], ⟨hT3.cong (by simp), ?_, OwnR.nil _ _ _ _, hn1, by simp [blkA], by simp [blkA], mt.ok, by simp⟩, by simp [blkA]⟩, (hE1.trans hE2b).step hE3 (fun b hb e => by omega), fun b e => by rcases e with e | e; (omega); (exact hlo b e)⟩
  have h9 := OwnR_lo0 (OwnR.ext ho1 hE3 (fun b e x => hn1 (by rw [e, ← x]; rfl)))
  simpa using h9
end Go.Proofs.Qxb6500400aGreat
