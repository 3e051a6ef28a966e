import Derived.Test.Qxb6500399aWh
set_option linter.unusedVariables false
set_option linter.unusedSimpArgs false
namespace Go.Proofs.Qxb6500399a
open Go.Eng Go.Cnf

/-- a kept list: its slice, all stamp -/
def Kp (h : Heap) (q : Option Addr × Nat) : Prop := IL h q.1 q.2 (List.replicate q.2 (-77)) ∧ q.2 ≤ 100000000
def kV (q : Option Addr × Nat) : Value := .slice q.1 q.2 q.2
def kvs (l : List (Option Addr × Nat)) : List Value := l.map kV
theorem kvs_len (l : List (Option Addr × Nat)) : (kvs l).length = l.length := by simp [kvs]
theorem kvs_snoc (l : List (Option Addr × Nat)) (q : Option Addr × Nat) : kvs (l ++ [q]) = kvs l ++ [kV q] := by simp [kvs]
/-- the row of kept lists -/
def MI (h : Heap) (a : Option Addr) (cap : Nat) (l : List (Option Addr × Nat)) : Prop := OwnR 0 h a l.length cap (kvs l) 35 1
theorem MI.get {h : Heap} {a : Option Addr} {cap : Nat} {l : List (Option Addr × Nat)} (ho : MI h a cap l) (hl : 0 < l.length) :
    ∃ b, a = some ⟨b, 0, none⟩ ∧ b < h.size ∧ (∀ j, j < l.length → cellH h ⟨b, j, none⟩ = some (kV (l.getD j (none, 0)))) ∧ ∀ j, j < cap → okPut h ⟨b, j, none⟩ = true := by
  obtain ⟨b, h1, _, h2, h3, h4⟩ := OwnR.some ho hl
  refine ⟨b, h1, h2, fun j hj => ?_, fun j hj => h4 j (by omega)⟩
  rw [h3 j (by rw [kvs_len]; exact hj)]
  simp [kvs, hj]
theorem MI.ext {h h' : Heap} {a : Option Addr} {cap : Nat} {l : List (Option Addr × Nat)} {S : Nat → Prop} (ho : MI h a cap l) (he : Ext S h h') (hS : ∀ b, blkA a = some b → ¬ S b) : MI h' a cap l :=
  OwnR.ext ho he (fun b hb => hS b (by rw [hb]; rfl))
theorem rep_get (n j : Nat) (h : j < n) : (List.replicate n (-77 : Int)).getD j 0 = -77 := by simp [h]

theorem OwnR.putv {lo : Nat} {h : Heap} {b k cap : Nat} {xs : List Value} {e : TypeId} (ho : OwnR lo h (some ⟨b, 0, none⟩) k cap xs e 1) (i : Nat) (v : Value) : OwnR lo (putH h ⟨b, i, none⟩ v) (some ⟨b, 0, none⟩) k cap (xs.set i v) e 1 := by
  rcases ho with ⟨h1, _⟩ | ⟨b2, cs, h1, h2, h3, h4, h5, h6, h7⟩
  · cases h1
  · cases h1
    refine .inr ⟨b, cs.setIfInBounds i v, rfl, h2, h3.put i v, by rw [Array.size_setIfInBounds]; exact h4, h5, by rw [List.length_set]; exact h6, fun j hj => ?_⟩
    rw [List.length_set] at hj
    have hcs : j < cs.size := by omega
    rw [Array.getElem?_setIfInBounds, List.getElem?_set]
    by_cases e : i = j
    · subst e; simp [hcs, hj]
    · simp [e]; rw [h7 j hj]
theorem IL.put {h : Heap} {b cap : Nat} {l : List Int} (ho : IL h (some ⟨b, 0, none⟩) cap l) (i : Nat) (x : Int) : IL (putH h ⟨b, i, none⟩ (.int .i64 x)) (some ⟨b, 0, none⟩) cap (l.set i x) := by
  have := OwnR.putv ho i (.int .i64 x)
  unfold IL ints at *
  rw [List.length_set, List.map_set]; exact this
theorem spoil_set (xs : List Int) {i : Nat} (h : i < xs.length) : (List.replicate i (-77 : Int) ++ xs.drop i).set i (-77) = List.replicate (i + 1) (-77) ++ xs.drop (i + 1) := by
  rw [List.set_append, if_neg (by simp), drop_cons xs i h]
  simp [List.replicate_succ', List.append_assoc]

def shL (mine : List (Option Addr × Nat)) (i : Nat) : List (Option Addr × Nat) := (mine.drop 1).take (i - 1) ++ mine.drop (i - 1)
theorem shL_len (mine : List (Option Addr × Nat)) {i : Nat} (h1 : 1 ≤ i) (h2 : i ≤ mine.length) : (shL mine i).length = mine.length := by
  simp [shL]; omega
theorem shL_get (mine : List (Option Addr × Nat)) {i : Nat} (h1 : 1 ≤ i) (h2 : i < mine.length) : (shL mine i).getD i (none, 0) = mine.getD i (none, 0) := by
  unfold shL
  rw [List.getD_eq_getElem?_getD, List.getD_eq_getElem?_getD, List.getElem?_append_right (by simp; omega), List.getElem?_drop]
  congr 2; simp; omega
theorem shL_set (mine : List (Option Addr × Nat)) {i : Nat} (h1 : 1 ≤ i) (h2 : i < mine.length) : (shL mine i).set (i - 1) (mine.getD i (none, 0)) = shL mine (i + 1) := by
  unfold shL
  have e1 : ((mine.drop 1).take (i - 1)).length = i - 1 := by simp; omega
  rw [List.set_append, if_neg (by omega), e1, Nat.sub_self]
  obtain ⟨k, rfl⟩ : ∃ k, i = k + 1 := ⟨i - 1, by omega⟩
  simp only [Nat.add_sub_cancel]
  rw [List.drop_eq_getElem_cons (show k < mine.length by omega), List.set_cons_zero, List.take_add_one, List.getElem?_drop, show 1 + k = k + 1 by omega, List.getD_eq_getElem?_getD, List.getElem?_eq_getElem h2]
  simp
theorem shL_end (mine : List (Option Addr × Nat)) (q : Option Addr × Nat) (h : 0 < mine.length) : (shL mine mine.length).set (mine.length - 1) q = mine.drop 1 ++ [q] := by
  unfold shL
  have e1 : ((mine.drop 1).take (mine.length - 1)).length = mine.length - 1 := by simp
  rw [List.set_append, if_neg (by omega), e1, Nat.sub_self, List.take_of_length_le (by simp)]
  rw [List.drop_eq_getElem_cons (show mine.length - 1 < mine.length by omega), List.set_cons_zero]
  simp; omega
theorem MI.put {h : Heap} {b cap : Nat} {l : List (Option Addr × Nat)} (ho : MI h (some ⟨b, 0, none⟩) cap l) (i : Nat) (q : Option Addr × Nat) : MI (putH h ⟨b, i, none⟩ (kV q)) (some ⟨b, 0, none⟩) cap (l.set i q) := by
  have := OwnR.putv ho i (kV q)
  unfold MI kvs at *
  rw [List.length_set, List.map_set]; exact this
theorem Kp.ext {h h' : Heap} {q : Option Addr × Nat} {S : Nat → Prop} (hk : Kp h q) (he : Ext S h h') (hS : ∀ b, blkA q.1 = some b → ¬ S b) : Kp h' q := ⟨hk.1.ext he hS, hk.2⟩
set_option maxHeartbeats 400000 in
theorem spoil_spec (h : Heap) (a : Option Addr) (cap : Nat) (xs : List Int) (ho : IL h a cap xs) (hl : xs.length ≤ 1099511627776) :
    FC Try.prog 37 (#[.slice a xs.length cap] : Array Value) h fun v h' => v = .tuple #[] ∧ IL h' a cap (List.replicate xs.length (-77)) ∧ Ext (fun b => blkA a = some b) h h' := by
  refine FC_of [(0, .slice a xs.length cap)] Try.func37 rfl Try.ntmps37 (by simp) rfl (fun R hR => ?_)
  refine V_sr T.mix (by kernel_rfl) (fun K1 hK1 => ?_)
  refine S_as rfl ?_
  refine S_nil (hK1 _ _ (V_keep [0, 2] (by simp only [proj, lk, reduceIte, Nat.reduceEqDiff]; rfl) ?_)); clear hK1
  refine V_block ?_
  refine V_loop (fun m l h' => ∃ (i : Nat) (hk : Heap), (i ≤ xs.length) ∧ (IL hk a cap (List.replicate i (-77) ++ xs.drop i)) ∧ (Ext (fun b => blkA a = some b) h hk) ∧ m = xs.length - i ∧ l = [(0, .slice a xs.length cap), (2, .int .i64 i)] ∧ hk = h') _ ⟨0, h, by omega, by simpa using ho, Ext.refl _ _, rfl, rfl, rfl⟩ ?_
  rintro m l h' ⟨i, hk, hi, hI, hE, rfl, rfl, rfl⟩ K2 hK2
  refine V_seq (fun K3 hK3 => ?_)
  refine V_sr T.mix (by kernel_rfl) (fun K4 hK4 => ?_)
  refine S_mv rfl ?_
  refine S_mv rfl ?_
  refine S_lenl T.el35 rfl ?_
  refine S_bin rfl rfl rfl ?_
  refine S_nil (hK4 _ _ (V_keep [0, 2, 6] (by simp only [proj, lk, reduceIte, Nat.reduceEqDiff]; rfl) ?_)); clear hK4
  refine V_condp rfl (fun c43 => ?_) (fun c43 => ?_)
  · skip
    have hln : (List.replicate i (-77 : Int) ++ xs.drop i).length = xs.length := by simp; omega
    obtain ⟨ba, rfl, ha2, ha3, ha4⟩ := IL.get hI (by omega)
    have hcp := IL.cap hI
    have hok := ha4 i (by omega)
    refine V_skipk [0, 2] (by simp only [proj, lk, reduceIte, Nat.reduceEqDiff]; rfl) ?_
    refine hK3 _ _ ?_; clear hK3
    refine V_seq (fun K5 hK5 => ?_)
    refine V_block ?_
    refine V_reg T.mix (by kernel_rfl) ?_
    refine S_mv rfl ?_
    refine S_mv rfl ?_
    first | refine S_ixn T.el35 rfl rfl (by omega) ?_ | refine S_ix1 T.el35 rfl rfl (by omega) (by omega) ?_ | refine S_ix T.el35 rfl rfl (by omega) (by omega) ?_
    refine S_st T.sz3 rfl rfl rfl rfl (by simp (disch := omega) only [hok]) ?_
    generalize hh : putH _ _ _ = h2
    have hI2 : IL h2 (some ⟨ba, 0, none⟩) cap (List.replicate (i + 1) (-77) ++ xs.drop (i + 1)) := by rw [← hh, ← spoil_set xs (by omega)]; exact hI.put i _
    have hE2 : Ext (fun b => blkA (some ⟨ba, 0, none⟩) = some b) h h2 := by rw [← hh]; exact hE.trans (Ext.put _ _ rfl)
    clear hh
    refine S_nilk [0, 2] (by simp only [proj, lk, reduceIte, Nat.reduceEqDiff]; rfl) ?_
    refine hK5 _ _ ?_; clear hK5
    refine V_reg T.mix (by kernel_rfl) ?_
    refine S_mv rfl ?_
    first | refine S_add rfl rfl (by omega) (by omega) ?_ | refine S_bin rfl rfl rfl ?_
    refine S_as rfl ?_
    refine S_nilk [0, 2] (by simp only [proj, lk, reduceIte, Nat.reduceEqDiff]; rfl) ?_
    exact hK2 _ _ ⟨_, by omega, i + 1, h2, by omega, hI2, hE2, rfl, rfl, rfl⟩
  · skip
    refine V_exitk [] rfl (by simp only [proj, lk, reduceIte, Nat.reduceEqDiff]; rfl) ?_
    -- end
    refine hR _ _ (ret0 rfl ?_)
    have hii : i = xs.length := by omega
    subst hii
    exact ⟨rfl, by simpa using hI, hE⟩
set_option maxHeartbeats 400000 in
theorem stamped_spec (h : Heap) (qa : Option Addr) (n : Nat) (hq : Kp h (qa, n)) :
    FC Try.prog 35 (#[.slice qa n n] : Array Value) h fun v h' => v = .bool true ∧ h = h' := by
  have hnb : n ≤ 100000000 := hq.2
  refine FC_of [(0, .slice qa n n)] Try.func35 rfl Try.ntmps35 (by simp) rfl (fun R hR => ?_)
  refine V_sr T.mix (by kernel_rfl) (fun K1 hK1 => ?_)
  refine S_as rfl ?_
  refine S_nil (hK1 _ _ (V_keep [0] (by simp only [proj, lk, reduceIte, Nat.reduceEqDiff]; rfl) ?_)); clear hK1
  refine V_seq (fun K2 hK2 => ?_)
  refine V_sr T.mix (by kernel_rfl) (fun K3 hK3 => ?_)
  refine S_as rfl ?_
  refine S_nil (hK3 _ _ (V_keep [0, 3] (by simp only [proj, lk, reduceIte, Nat.reduceEqDiff]; rfl) ?_)); clear hK3
  refine V_block ?_
  refine V_loop (fun m l h' => ∃ (i : Nat), (i ≤ n) ∧ m = n - i ∧ l = [(0, .slice qa n n), (3, .int .i64 i)] ∧ h = h') _ ⟨0, by omega, rfl, rfl, rfl⟩ ?_
  rintro m l h' ⟨i, hi, rfl, rfl, rfl⟩ K4 hK4
  refine V_seq (fun K5 hK5 => ?_)
  refine V_sr T.mix (by kernel_rfl) (fun K6 hK6 => ?_)
  refine S_mv rfl ?_
  refine S_mv rfl ?_
  refine S_lenl T.el35 rfl ?_
  refine S_bin rfl rfl rfl ?_
  refine S_nil (hK6 _ _ (V_keep [0, 3, 7] (by simp only [proj, lk, reduceIte, Nat.reduceEqDiff]; rfl) ?_)); clear hK6
  refine V_condp rfl (fun c50 => ?_) (fun c50 => ?_)
  · skip
    obtain ⟨ba, rfl, ha2, ha3, _⟩ := IL.get hq.1 (by simp; omega)
    have hcl : cellH h ⟨ba, i, none⟩ = some (.int .i64 (-77)) := by rw [ha3 i (by simp; omega), rep_get n i (by omega)]
    refine V_skipk [0, 3] (by simp only [proj, lk, reduceIte, Nat.reduceEqDiff]; rfl) ?_
    refine hK5 _ _ ?_; clear hK5
    refine V_seq (fun K7 hK7 => ?_)
    refine V_block ?_
    refine V_sr T.mix (by kernel_rfl) (fun K8 hK8 => ?_)
    refine S_mv rfl ?_
    refine S_mv rfl ?_
    first | refine S_ixn T.el35 rfl rfl (by omega) ?_ | refine S_ix1 T.el35 rfl rfl (by omega) (by omega) ?_ | refine S_ix T.el35 rfl rfl (by omega) (by omega) ?_
    refine S_ldK T.ag3 rfl (fun K' hK' => ?_)
    simp (disch := omega) only [hcl, oP_some, Nat.add_zero]
    refine hK' _ ?_; clear hK' K'
    refine S_bin rfl rfl rfl ?_
    refine S_nil (hK8 _ _ (V_keep [0, 3, 14] (by simp only [proj, lk, reduceIte, Nat.reduceEqDiff]; rfl) ?_)); clear hK8
    refine V_condp rfl (fun c51 => ?_) (fun c51 => ?_)
    · skip
      exfalso; exact c51 rfl
    · skip
      refine V_skipk [0, 3] (by simp only [proj, lk, reduceIte, Nat.reduceEqDiff]; rfl) ?_
      refine hK7 _ _ ?_; clear hK7
      refine V_reg T.mix (by kernel_rfl) ?_
      refine S_mv rfl ?_
      first | refine S_add rfl rfl (by omega) (by omega) ?_ | refine S_bin rfl rfl rfl ?_
      refine S_as rfl ?_
      refine S_nilk [0, 3] (by simp only [proj, lk, reduceIte, Nat.reduceEqDiff]; rfl) ?_
      exact hK4 _ _ ⟨_, by omega, i + 1, by omega, rfl, rfl, rfl⟩
  · skip
    refine V_exitk [] rfl (by simp only [proj, lk, reduceIte, Nat.reduceEqDiff]; rfl) ?_
    refine hK2 _ _ ?_; clear hK2
    refine V_sr T.mix (by kernel_rfl) (fun K9 hK9 => ?_)
    refine S_as rfl ?_
    refine S_nil (hK9 _ _ (V_keep [2] (by simp only [proj, lk, reduceIte, Nat.reduceEqDiff]; rfl) ?_)); clear hK9
    refine V_ret ?_
    refine hR _ _ (ret1 rfl rfl ?_)
    exact ⟨rfl, rfl⟩
set_option maxHeartbeats 400000 in
theorem untouched_spec (h : Heap) (D : Nat) (cs : Array Value) (hD : B h D cs 38) (ma : Option Addr) (mc : Nat) (mine : List (Option Addr × Nat)) (hc4 : cs[4]? = some (.slice ma mine.length mc)) (hmi : MI h ma mc mine) (hkp : ∀ q ∈ mine, Kp h q) (hml : mine.length ≤ 16) :
    FC Try.prog 21 (#[.pointer (some ⟨D, 0, none⟩)] : Array Value) h fun v h' => v = .bool true ∧ h = h' := by
  have hd4 : cellH h ⟨D, 4, none⟩ = some (.slice ma mine.length mc) := by rw [hD.cell, hc4]
  refine FC_of [(0, .pointer (some ⟨D, 0, none⟩))] Try.func21 rfl Try.ntmps21 (by simp) rfl (fun R hR => ?_)
  refine V_sr T.mix (by kernel_rfl) (fun K1 hK1 => ?_)
  refine S_as rfl ?_
  refine S_nil (hK1 _ _ (V_keep [0] (by simp only [proj, lk, reduceIte, Nat.reduceEqDiff]; rfl) ?_)); clear hK1
  refine V_seq (fun K2 hK2 => ?_)
  refine V_sr T.mix (by kernel_rfl) (fun K3 hK3 => ?_)
  refine S_as rfl ?_
  refine S_nil (hK3 _ _ (V_keep [0, 3] (by simp only [proj, lk, reduceIte, Nat.reduceEqDiff]; rfl) ?_)); clear hK3
  refine V_block ?_
  refine V_loop (fun m l h' => ∃ (i : Nat), (i ≤ mine.length) ∧ m = mine.length - i ∧ l = [(0, .pointer (some ⟨D, 0, none⟩)), (3, .int .i64 i)] ∧ h = h') _ ⟨0, by omega, rfl, rfl, rfl⟩ ?_
  rintro m l h' ⟨i, hi, rfl, rfl, rfl⟩ K4 hK4
  refine V_seq (fun K5 hK5 => ?_)
  refine V_sr T.mix (by kernel_rfl) (fun K6 hK6 => ?_)
  refine S_mv rfl ?_
  refine S_mv rfl ?_
  refine S_nc rfl ?_
  first | refine S_fa0 T.f38_4 rfl ?_ | refine S_fa T.f38_4 rfl ?_
  refine S_ldK T.ag36 rfl (fun K' hK' => ?_)
  simp (disch := omega) only [hd4, oP_some, Nat.add_zero]
  refine hK' _ ?_; clear hK' K'
  refine S_lenl T.el36 rfl ?_
  refine S_bin rfl rfl rfl ?_
  refine S_nil (hK6 _ _ (V_keep [0, 3, 10] (by simp only [proj, lk, reduceIte, Nat.reduceEqDiff]; rfl) ?_)); clear hK6
  refine V_condp rfl (fun c60 => ?_) (fun c60 => ?_)
  · skip
    obtain ⟨bm, rfl, hm2, hm3, _⟩ := MI.get hmi (by omega)
    have hcl : cellH h ⟨bm, i, none⟩ = some (.slice (mine.getD i (none, 0)).1 (mine.getD i (none, 0)).2 (mine.getD i (none, 0)).2) := hm3 i (by omega)
    have hqm : mine.getD i (none, 0) ∈ mine := by rw [List.getD_eq_getElem?_getD, List.getElem?_eq_getElem (by omega)]; simp
    refine V_skipk [0, 3] (by simp only [proj, lk, reduceIte, Nat.reduceEqDiff]; rfl) ?_
    refine hK5 _ _ ?_; clear hK5
    refine V_seq (fun K7 hK7 => ?_)
    refine V_block ?_
    refine V_sr T.mix (by kernel_rfl) (fun K8 hK8 => ?_)
    refine S_mv rfl ?_
    refine S_nc rfl ?_
    first | refine S_fa0 T.f38_4 rfl ?_ | refine S_fa T.f38_4 rfl ?_
    refine S_ldK T.ag36 rfl (fun K' hK' => ?_)
    simp (disch := omega) only [hd4, hcl, oP_some, Nat.add_zero]
    refine hK' _ ?_; clear hK' K'
    refine S_mv rfl ?_
    first | refine S_ixn T.el36 rfl rfl (by omega) ?_ | refine S_ix1 T.el36 rfl rfl (by omega) (by omega) ?_ | refine S_ix T.el36 rfl rfl (by omega) (by omega) ?_
    refine S_ldK T.ag35 rfl (fun K' hK' => ?_)
    simp (disch := omega) only [hd4, hcl, oP_some, Nat.add_zero]
    refine hK' _ ?_; clear hK' K'
    refine S_call T.hb35 rfl ?_
    refine FC.mono (stamped_spec h _ _ (hkp _ hqm)) ?_
    rintro v h' ⟨rfl, rfl⟩
    refine S_notb rfl ?_
    refine S_nil (hK8 _ _ (V_keep [0, 3, 21] (by simp only [proj, lk, reduceIte, Nat.reduceEqDiff]; rfl) ?_)); clear hK8
    refine V_condb rfl (fun c61 => ?_) (fun c61 => ?_)
    · skip
      cases c61
    · skip
      refine V_skipk [0, 3] (by simp only [proj, lk, reduceIte, Nat.reduceEqDiff]; rfl) ?_
      refine hK7 _ _ ?_; clear hK7
      refine V_reg T.mix (by kernel_rfl) ?_
      refine S_mv rfl ?_
      first | refine S_add rfl rfl (by omega) (by omega) ?_ | refine S_bin rfl rfl rfl ?_
      refine S_as rfl ?_
      refine S_nilk [0, 3] (by simp only [proj, lk, reduceIte, Nat.reduceEqDiff]; rfl) ?_
      exact hK4 _ _ ⟨_, by omega, i + 1, by omega, rfl, rfl, rfl⟩
  · skip
    refine V_exitk [] rfl (by simp only [proj, lk, reduceIte, Nat.reduceEqDiff]; rfl) ?_
    refine hK2 _ _ ?_; clear hK2
    refine V_sr T.mix (by kernel_rfl) (fun K9 hK9 => ?_)
    refine S_as rfl ?_
    refine S_nil (hK9 _ _ (V_keep [2] (by simp only [proj, lk, reduceIte, Nat.reduceEqDiff]; rfl) ?_)); clear hK9
    refine V_ret ?_
    refine hR _ _ (ret1 rfl rfl ?_)
    exact ⟨rfl, rfl⟩
set_option maxHeartbeats 400000 in
theorem fresh_spec (h : Heap) (a : Option Addr) (n : Nat) (hn : n = 0 → a = none) :
    FC Try.prog 23 (#[.slice a n n] : Array Value) h fun v h' => v = .bool true ∧ h = h' := by
  refine FC_of [(0, .slice a n n)] Try.func23 rfl Try.ntmps23 (by simp) rfl (fun R hR => ?_)
  refine V_sr T.mix (by kernel_rfl) (fun K1 hK1 => ?_)
  refine S_as rfl ?_
  refine S_nil (hK1 _ _ (V_keep [0] (by simp only [proj, lk, reduceIte, Nat.reduceEqDiff]; rfl) ?_)); clear hK1
  refine V_seq (fun K2 hK2 => ?_)
  refine V_sr T.mix (by kernel_rfl) (fun K3 hK3 => ?_)
  refine S_mv rfl ?_
  refine S_lenl T.el35 rfl ?_
  refine S_bin rfl rfl rfl ?_
  refine S_nil (hK3 _ _ (V_keep [0, 5] (by simp only [proj, lk, reduceIte, Nat.reduceEqDiff]; rfl) ?_)); clear hK3
  refine V_condp rfl (fun c86 => ?_) (fun c86 => ?_)
  · skip
    refine V_sr T.mix (by kernel_rfl) (fun K4 hK4 => ?_)
    refine S_mv rfl ?_
    refine S_bin rfl rfl (by simp only [binV, T.kd35]; rfl) ?_
    refine S_as rfl ?_
    refine S_nil (hK4 _ _ (V_keep [2] (by simp only [proj, lk, reduceIte, Nat.reduceEqDiff]; rfl) ?_)); clear hK4
    refine V_ret ?_
    refine hR _ _ (ret1 rfl rfl ?_)
    exact ⟨by rw [hn (by omega)]; rfl, rfl⟩
  · skip
    refine V_skipk [0] (by simp only [proj, lk, reduceIte, Nat.reduceEqDiff]; rfl) ?_
    refine hK2 _ _ ?_; clear hK2
    refine V_sr T.mix (by kernel_rfl) (fun K5 hK5 => ?_)
    refine S_mv rfl ?_
    refine S_capl T.el35 rfl ?_
    refine S_mv rfl ?_
    refine S_lenl T.el35 rfl ?_
    refine S_bin rfl rfl rfl ?_
    refine S_as rfl ?_
    refine S_nil (hK5 _ _ (V_keep [2] (by simp only [proj, lk, reduceIte, Nat.reduceEqDiff]; rfl) ?_)); clear hK5
    refine V_ret ?_
    refine hR _ _ (ret1 rfl rfl ?_)
    exact ⟨by simp, rfl⟩
set_option maxHeartbeats 400000 in
theorem keep_spec (la : Option Addr) (xs : List Int) (h : Heap) (D : Nat) (cs : Array Value) (hD : B h D cs 38) (ma : Option Addr) (mc : Nat) (mine : List (Option Addr × Nat)) (hc4 : cs[4]? = some (.slice ma mine.length mc)) (hmi : MI h ma mc mine) (hkp : ∀ q ∈ mine, Kp h q) (hml : mine.length ≤ 16) (hmD : blkA ma ≠ some D) (hkD : ∀ q ∈ mine, ∀ b, blkA q.1 = some b → b ≠ D ∧ blkA ma ≠ some b ∧ blkA la ≠ some b) (hlD : ∀ b, blkA la = some b → b ≠ D ∧ blkA ma ≠ some b) (hIL : IL h la xs.length xs) (hxl : xs.length ≤ 100000000) :
    FC Try.prog 25 (#[.pointer (some ⟨D, 0, none⟩), .slice la xs.length xs.length] : Array Value) h fun v h' => v = .tuple #[] ∧ ∃ cs' ma' mc' mine', B h' D cs' 38 ∧ cs'.size = cs.size ∧ (∀ i, i ≠ 4 → cs'[i]? = cs[i]?) ∧ cs'[4]? = some (.slice ma' mine'.length mc') ∧ MI h' ma' mc' mine' ∧ (∀ q ∈ mine', Kp h' q ∧ (q ∈ mine ∨ q.1 = la)) ∧ mine'.length ≤ 16 ∧ Ext (fun b => b = D ∨ blkA ma = some b ∨ blkA la = some b) h h' ∧ (∀ b, blkA ma' = some b → blkA ma = some b ∨ h.size ≤ b) := by
  have hDl := hD.lt
  have hsz : 4 < cs.size := by have := hc4; rw [Array.getElem?_eq_some_iff] at this; exact this.1
  refine FC_of [(0, .pointer (some ⟨D, 0, none⟩)), (1, .slice la xs.length xs.length)] Try.func25 rfl Try.ntmps25 (by simp) rfl (fun R hR => ?_)
  refine V_seq (fun K1 hK1 => ?_)
  refine V_sr T.mix (by kernel_rfl) (fun K2 hK2 => ?_)
  refine S_mv rfl ?_
  refine S_lenl T.el35 rfl ?_
  refine S_bin rfl rfl rfl ?_
  refine S_nil (hK2 _ _ (V_keep [0, 1, 7] (by simp only [proj, lk, reduceIte, Nat.reduceEqDiff]; rfl) ?_)); clear hK2
  refine V_condp rfl (fun c70 => ?_) (fun c70 => ?_)
  · skip
    refine V_ret ?_
    refine hR _ _ (ret0 rfl ?_)
    exact ⟨rfl, cs, ma, mc, mine, hD, rfl, fun _ _ => rfl, hc4, hmi, fun q hq => ⟨hkp q hq, .inl hq⟩, hml, Ext.refl _ _, fun b hb => .inl hb⟩
  · skip
    refine V_skipk [0, 1] (by simp only [proj, lk, reduceIte, Nat.reduceEqDiff]; rfl) ?_
    refine hK1 _ _ ?_; clear hK1
    refine V_sr T.mix (by kernel_rfl) (fun K3 hK3 => ?_)
    refine S_mv rfl ?_
    refine S_call T.hb37 rfl ?_
    refine FC.mono (spoil_spec h la xs.length xs hIL (by omega)) ?_
    rintro v h1 ⟨rfl, hI1, hE1⟩
    have hD1 := hD.ext hE1 (fun e => (hlD D e).1 rfl)
    have hm1 := hmi.ext hE1 (fun b hb e => (hlD b e).2 hb)
    have hk1 : ∀ q ∈ mine, Kp h1 q := fun q hq => (hkp q hq).ext hE1 (fun b hb e => (hkD q hq b hb).2.2 e)
    have hKn : Kp h1 (la, xs.length) := ⟨by simpa using hI1, hxl⟩
    have hd4 : cellH h1 ⟨D, 4, none⟩ = some (.slice ma mine.length mc) := by rw [hD1.cell, hc4]
    have hE1b : Ext (fun b => b = D ∨ blkA ma = some b ∨ blkA la = some b) h h1 := hE1.mono fun _ e => .inr (.inr e)
    have hDok : okPut h1 ⟨D, 4, none⟩ = true := hD1.ok hsz
    refine S_nil (hK3 _ _ (V_keep [0, 1] (by simp only [proj, lk, reduceIte, Nat.reduceEqDiff]; rfl) ?_)); clear hK3
    refine V_seq (fun K4 hK4 => ?_)
    refine V_sr T.mix (by kernel_rfl) (fun K5 hK5 => ?_)
    refine S_mv rfl ?_
    refine S_nc rfl ?_
    first | refine S_fa0 T.f38_4 rfl ?_ | refine S_fa T.f38_4 rfl ?_
    refine S_ldK T.ag36 rfl (fun K' hK' => ?_)
    simp (disch := omega) only [hd4, oP_some, Nat.add_zero]
    refine hK' _ ?_; clear hK' K'
    refine S_lenl T.el36 rfl ?_
    refine S_bin rfl rfl rfl ?_
    refine S_nil (hK5 _ _ (V_keep [0, 1, 15] (by simp only [proj, lk, reduceIte, Nat.reduceEqDiff]; rfl) ?_)); clear hK5
    refine V_condp rfl (fun c74 => ?_) (fun c74 => ?_)
    · skip
      refine V_sr T.mix (by kernel_rfl) (fun K6 hK6 => ?_)
      refine S_mv rfl ?_
      refine S_mv rfl ?_
      refine S_nc rfl ?_
      first | refine S_fa0 T.f38_4 rfl ?_ | refine S_fa T.f38_4 rfl ?_
      refine S_ldK T.ag36 rfl (fun K' hK' => ?_)
      simp (disch := omega) only [hd4, oP_some, Nat.add_zero]
      refine hK' _ ?_; clear hK' K'
      refine S_mv rfl ?_
      refine S_bs T.ei36 rfl (by decide) (by decide) (T.bs36_1_0 _ _ _) ?_
      refine S_appx (lo := 0) T.ei36 T.ni36 T.us36 rfl rfl rfl (OwnR.ext hm1 (Ext.push (fun _ => False) _ _) (fun _ _ f => f)) (Nat.zero_le _) (cellsH_new _ _ _) rfl (by omega) (by decide) (by decide) rfl (fun a2 cap2 h2 ho2 hE2 hb2 => ?_)
      have hE2b : Ext (fun b => blkA ma = some b) h1 h2 := (Ext.push _ _ _).trans hE2
      have hD2 := hD1.ext hE2b (fun e => hmD e)
      replace hDok : okPut h2 ⟨D, 4, none⟩ = true := hD2.ok hsz
      refine S_nc rfl ?_
      first | refine S_fa0 T.f38_4 rfl ?_ | refine S_fa T.f38_4 rfl ?_
      refine S_st T.sz36 rfl rfl rfl rfl (by simp (disch := omega) only [hDok]) ?_
      generalize hh : putH _ _ _ = h3
      have hD3 : B h3 D (cs.setIfInBounds 4 (.slice a2 (mine.length + 1) cap2)) 38 := by rw [← hh]; exact hD2.put 4 _
      have hE3 : Ext (fun b => b = D) h2 h3 := by rw [← hh]; exact Ext.put _ _ rfl
      clear hh
      refine S_nil (hK6 _ _ (V_keep [] (by simp only [proj, lk, reduceIte, Nat.reduceEqDiff]; rfl) ?_)); clear hK6
      refine V_ret ?_
      refine hR _ _ (ret0 rfl ?_)
      refine ⟨rfl, _, a2, cap2, mine ++ [(la, xs.length)], hD3, by simp, fun i hi => by rw [Array.getElem?_setIfInBounds_ne (by omega)], by simp [hsz], ?_, ?_, by simp; omega, (hE1b.step hE2b (fun b _ e => .inr (.inl e))).step hE3 (fun b _ e => .inl e), fun b hb => ?_⟩
      · have hh : MI h2 a2 cap2 (mine ++ [(la, xs.length)]) := by unfold MI; rw [kvs_snoc, List.length_append]; exact ho2
        exact hh.ext hE3 (fun b hb e => by subst e; rcases hb2 with x | x; (exact hmD (x ▸ hb)); (rw [x] at hb; simp at hb; have := hE1.1; omega))
      · intro q hq
        rcases List.mem_append.1 hq with hq | hq
        · exact ⟨((hk1 q hq).ext hE2b (fun b hb e => (hkD q hq b hb).2.1 e)).ext hE3 (fun b hb e => (hkD q hq b hb).1 e), .inl hq⟩
        · simp at hq; subst hq; exact ⟨(hKn.ext hE2b (fun b hb e => (hlD b hb).2 e)).ext hE3 (fun b hb e => (hlD b hb).1 e), .inr rfl⟩
      · rcases hb2 with x | x
        · exact .inl (x ▸ hb)
        · rw [x] at hb; simp at hb; have := hE1.1; exact .inr (by omega)
    · skip
      refine V_skipk [0, 1] (by simp only [proj, lk, reduceIte, Nat.reduceEqDiff]; rfl) ?_
      refine hK4 _ _ ?_; clear hK4
      refine V_seq (fun K7 hK7 => ?_)
      refine V_sr T.mix (by kernel_rfl) (fun K8 hK8 => ?_)
      refine S_as rfl ?_
      refine S_nil (hK8 _ _ (V_keep [0, 1, 4] (by simp only [proj, lk, reduceIte, Nat.reduceEqDiff]; rfl) ?_)); clear hK8
      refine V_block ?_
      refine V_loop (fun m l h' => ∃ (i : Nat) (hk : Heap), (1 ≤ i) ∧ (i ≤ mine.length) ∧ (MI hk ma mc (shL mine i)) ∧ (Ext (fun b => blkA ma = some b) h1 hk) ∧ m = mine.length - i ∧ l = [(0, .pointer (some ⟨D, 0, none⟩)), (1, .slice la xs.length xs.length), (4, .int .i64 i)] ∧ hk = h') _ ⟨1, h1, by omega, by omega, by simpa [shL] using hm1, Ext.refl _ _, rfl, rfl, rfl⟩ ?_
      rintro m l h' ⟨i, hk, hi1, hi2, hmk, hEk, rfl, rfl, rfl⟩ K9 hK9
      have hDk := hD1.ext hEk (fun e => hmD e)
      have hd4 : cellH hk ⟨D, 4, none⟩ = some (.slice ma mine.length mc) := by rw [hDk.cell, hc4]
      have hln := shL_len mine hi1 hi2
      obtain ⟨bm, rfl, hm2, hm3, hm4⟩ := MI.get hmk (by omega)
      have hmcp : mine.length ≤ mc := by have := (OwnR.len hmk).2; omega
      refine V_seq (fun K10 hK10 => ?_)
      refine V_sr T.mix (by kernel_rfl) (fun K11 hK11 => ?_)
      refine S_mv rfl ?_
      refine S_mv rfl ?_
      refine S_nc rfl ?_
      first | refine S_fa0 T.f38_4 rfl ?_ | refine S_fa T.f38_4 rfl ?_
      refine S_ldK T.ag36 rfl (fun K' hK' => ?_)
      simp (disch := omega) only [hd4, oP_some, Nat.add_zero]
      refine hK' _ ?_; clear hK' K'
      refine S_lenl T.el36 rfl ?_
      refine S_bin rfl rfl rfl ?_
      refine S_nil (hK11 _ _ (V_keep [0, 1, 4, 32] (by simp only [proj, lk, reduceIte, Nat.reduceEqDiff]; rfl) ?_)); clear hK11
      refine V_condp rfl (fun c78 => ?_) (fun c78 => ?_)
      · skip
        have hcl : cellH hk ⟨bm, i, none⟩ = some (.slice (mine.getD i (none, 0)).1 (mine.getD i (none, 0)).2 (mine.getD i (none, 0)).2) := by have hh := hm3 i (by omega); rw [shL_get mine hi1 (by omega)] at hh; exact hh
        have hmok : okPut hk ⟨bm, ((i : Int) - 1).toNat, none⟩ = true := hm4 _ (by omega)
        refine V_skipk [0, 1, 4] (by simp only [proj, lk, reduceIte, Nat.reduceEqDiff]; rfl) ?_
        refine hK10 _ _ ?_; clear hK10
        refine V_seq (fun K12 hK12 => ?_)
        refine V_block ?_
        refine V_reg T.mix (by kernel_rfl) ?_
        refine S_mv rfl ?_
        refine S_nc rfl ?_
        first | refine S_fa0 T.f38_4 rfl ?_ | refine S_fa T.f38_4 rfl ?_
        refine S_ldK T.ag36 rfl (fun K' hK' => ?_)
        simp (disch := omega) only [hd4, hcl, oP_some, Nat.add_zero]
        refine hK' _ ?_; clear hK' K'
        refine S_mv rfl ?_
        first | refine S_sub rfl rfl (by omega) (by omega) ?_ | refine S_bin rfl rfl rfl ?_
        refine S_mv rfl ?_
        refine S_nc rfl ?_
        first | refine S_fa0 T.f38_4 rfl ?_ | refine S_fa T.f38_4 rfl ?_
        refine S_ldK T.ag36 rfl (fun K' hK' => ?_)
        simp (disch := omega) only [hd4, hcl, oP_some, Nat.add_zero]
        refine hK' _ ?_; clear hK' K'
        refine S_mv rfl ?_
        first | refine S_ixn T.el36 rfl rfl (by omega) ?_ | refine S_ix1 T.el36 rfl rfl (by omega) (by omega) ?_ | refine S_ix T.el36 rfl rfl (by omega) (by omega) ?_
        refine S_ldK T.ag35 rfl (fun K' hK' => ?_)
        simp (disch := omega) only [hd4, hcl, oP_some, Nat.add_zero]
        refine hK' _ ?_; clear hK' K'
        first | refine S_ixn T.el36 rfl rfl (by omega) ?_ | refine S_ix1 T.el36 rfl rfl (by omega) (by omega) ?_ | refine S_ix T.el36 rfl rfl (by omega) (by omega) ?_
        refine S_st T.sz35 rfl rfl rfl rfl (by simp (disch := omega) only [hmok]) ?_
        generalize hh : putH _ _ _ = h2
        have hm2 : MI h2 (some ⟨bm, 0, none⟩) mc (shL mine (i + 1)) := by rw [← hh, ← shL_set mine (by omega) (by omega), show ((i : Int) - 1).toNat = i - 1 by omega]; exact hmk.put (i - 1) _
        have hE2 : Ext (fun b => blkA (some ⟨bm, 0, none⟩) = some b) h1 h2 := by rw [← hh]; exact hEk.trans (Ext.put _ _ rfl)
        clear hh
        refine S_nilk [0, 1, 4] (by simp only [proj, lk, reduceIte, Nat.reduceEqDiff]; rfl) ?_
        refine hK12 _ _ ?_; clear hK12
        refine V_reg T.mix (by kernel_rfl) ?_
        refine S_mv rfl ?_
        first | refine S_add rfl rfl (by omega) (by omega) ?_ | refine S_bin rfl rfl rfl ?_
        refine S_as rfl ?_
        refine S_nilk [0, 1, 4] (by simp only [proj, lk, reduceIte, Nat.reduceEqDiff]; rfl) ?_
        exact hK9 _ _ ⟨_, by omega, i + 1, h2, by omega, by omega, hm2, hE2, rfl, rfl, rfl⟩
      · skip
        have hii : i = mine.length := by omega
        subst hii
        have hmok : okPut hk ⟨bm, ((mine.length : Int) - 1).toNat, none⟩ = true := hm4 _ (by omega)
        refine V_exitk [0, 1] rfl (by simp only [proj, lk, reduceIte, Nat.reduceEqDiff]; rfl) ?_
        refine hK7 _ _ ?_; clear hK7
        refine V_reg T.mix (by kernel_rfl) ?_
        refine S_mv rfl ?_
        refine S_nc rfl ?_
        first | refine S_fa0 T.f38_4 rfl ?_ | refine S_fa T.f38_4 rfl ?_
        refine S_ldK T.ag36 rfl (fun K' hK' => ?_)
        simp (disch := omega) only [hd4, oP_some, Nat.add_zero]
        refine hK' _ ?_; clear hK' K'
        refine S_mv rfl ?_
        refine S_nc rfl ?_
        first | refine S_fa0 T.f38_4 rfl ?_ | refine S_fa T.f38_4 rfl ?_
        refine S_ldK T.ag36 rfl (fun K' hK' => ?_)
        simp (disch := omega) only [hd4, oP_some, Nat.add_zero]
        refine hK' _ ?_; clear hK' K'
        refine S_lenl T.el36 rfl ?_
        first | refine S_sub rfl rfl (by omega) (by omega) ?_ | refine S_bin rfl rfl rfl ?_
        refine S_mv rfl ?_
        first | refine S_ixn T.el36 rfl rfl (by omega) ?_ | refine S_ix1 T.el36 rfl rfl (by omega) (by omega) ?_ | refine S_ix T.el36 rfl rfl (by omega) (by omega) ?_
        refine S_st T.sz35 rfl rfl rfl rfl (by simp (disch := omega) only [hmok]) ?_
        generalize hh : putH _ _ _ = h2
        have hm2 : MI h2 (some ⟨bm, 0, none⟩) mc (mine.drop 1 ++ [(la, xs.length)]) := by rw [← hh, ← shL_end mine (la, xs.length) (by omega), show ((mine.length : Int) - 1).toNat = mine.length - 1 by omega]; exact hmk.put (mine.length - 1) _
        have hE2 : Ext (fun b => blkA (some ⟨bm, 0, none⟩) = some b) h1 h2 := by rw [← hh]; exact hEk.trans (Ext.put _ _ rfl)
        clear hh
        refine S_nilk [] (by simp only [proj, lk, reduceIte, Nat.reduceEqDiff]; rfl) ?_
        -- end
        refine hR _ _ (ret0 rfl ?_)
        refine ⟨rfl, cs, some ⟨bm, 0, none⟩, mc, mine.drop 1 ++ [(la, xs.length)], hD1.ext hE2 (fun e => hmD e), rfl, fun _ _ => rfl, by rw [hc4]; congr 2; simp; omega, hm2, ?_, by simp; omega, hE1b.step hE2 (fun b _ e => .inr (.inl e)), fun b hb => .inl hb⟩
        intro q hq
        rcases List.mem_append.1 hq with hq | hq
        · have hq2 := List.mem_of_mem_drop hq
          exact ⟨(hk1 q hq2).ext hE2 (fun b hb e => (hkD q hq2 b hb).2.1 e), .inl hq2⟩
        · simp at hq; subst hq; exact ⟨hKn.ext hE2 (fun b hb e => (hlD b hb).2 e), .inr rfl⟩
end Go.Proofs.Qxb6500399a
