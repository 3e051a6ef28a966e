import Derived.Test.Qxb6500402aWd
set_option linter.unusedVariables false
set_option linter.unusedSimpArgs false
namespace Go.Proofs.Qxb6500402a
open Go.Eng Go.Trl

def stepS (s : TS) (k oa ob : Int) : TS := if k = 1 then ⟨[], 0, 0⟩ else if k = 2 then decS s oa else if k = 3 then asgS s oa ob else if k = 4 then bjS s oa else if k = 5 then takeS s else s
def dueF (s : TS) (k oa ob : Int) : Int := if k = 2 then (decE s oa : Int) else if k = 3 then (asgE s oa ob : Int) else if k = 4 then (bjE s oa : Int) else if k = 5 then takeV s else 0
theorem Ok.step {s : TS} (h : Ok s) (k oa ob : Int) : Ok (stepS s k oa ob) := by
  unfold stepS
  repeat' split
  all_goals first | exact Ok.zero | exact h.dec _ | exact h.asg _ _ | exact h.bj _ | exact h.take | exact h
theorem valO_zero {s : TS} {lt : Int} (hg : lt ≠ 0 ∧ -12 ≤ lt ∧ lt ≤ 12) : valO s lt = 0 ↔ valV s.L (vr lt) = 0 := by
  unfold valO valL vr; rw [if_pos hg]; split <;> omega
theorem take_at (s : TS) (hc : s.c ≤ s.L.length) : atL s.L (s.c : Int) = takeV s := by
  unfold atL takeV
  by_cases h : s.c < s.L.length
  · rw [if_pos (by omega), if_pos h, Int.toNat_natCast]
  · rw [if_neg (by omega), if_neg h]
/-- the first n items are alike -/
def Pre (s t : TS) (n : Nat) : Prop := n ≤ s.L.length ∧ n ≤ t.L.length ∧ ∀ i, i < n → s.L[i]? = t.L[i]?
theorem Pre.item {s t : TS} {n i : Nat} (h : Pre s t n) (hs : Ok s) (ht : Ok t) (hi : i < n) : ∃ x : It, atL s.L i = x.lit ∧ atL t.L i = x.lit ∧ levV s.L (x.lit.natAbs : Int) = x.lev ∧ levV t.L (x.lit.natAbs : Int) = x.lev ∧ reaV s.L (x.lit.natAbs : Int) = x.rea ∧ reaV t.L (x.lit.natAbs : Int) = x.rea ∧ good x.lit := by
  have h1 : i < s.L.length := Nat.lt_of_lt_of_le hi h.1
  have h2 : i < t.L.length := Nat.lt_of_lt_of_le hi h.2.1
  have hx : s.L[i]? = some s.L[i] := List.getElem?_eq_getElem h1
  have hy : t.L[i]? = some s.L[i] := by rw [← h.2.2 i hi]; exact hx
  have e1 := TI.loc hs hx
  have e2 := TI.loc ht hy
  rw [vr_abs] at e1 e2
  refine ⟨s.L[i], ?_, ?_, ?_, ?_, ?_, ?_, (hs.g _ (List.getElem_mem h1)).1⟩
  · unfold atL; rw [if_pos (by omega)]; simp [hx]
  · unfold atL; rw [if_pos (by omega)]; simp [hy]
  · unfold levV; rw [e1]
  · unfold levV; rw [e2]
  · unfold reaV; rw [e1]
  · unfold reaV; rw [e2]
theorem Pre.refl (s t : TS) (h : t.L = s.L) : Pre s t s.L.length := ⟨Nat.le_refl _, by rw [h]; exact Nat.le_refl _, fun i _ => by rw [h]⟩
theorem Pre.app (s t : TS) (x : It) (h : t.L = s.L ++ [x]) : Pre s t s.L.length := ⟨Nat.le_refl _, by rw [h]; simp, fun i hi => by rw [h, List.getElem?_append_left hi]⟩
theorem Pre.tk (s t : TS) (n : Nat) (hn : n ≤ s.L.length) (h : t.L = s.L.take n) : Pre s t n := ⟨hn, by rw [h]; simp; omega, fun i hi => by rw [h, List.getElem?_take_of_lt hi]⟩
theorem stepS_err {s : TS} {k oa ob : Int} (hk : k = 2 ∨ k = 3 ∨ k = 4) (h : dueF s k oa ob ≠ 0) : stepS s k oa ob = s := by
  unfold dueF at h
  unfold stepS
  rcases hk with e | e | e
  · subst e; simp at h ⊢; unfold decS; rw [if_neg (by omega)]
  · subst e; simp at h ⊢; unfold asgS; rw [if_neg (by omega)]
  · subst e; simp at h ⊢; unfold bjS; rw [if_neg (by omega)]
theorem cnt_uniq {L : List It} {k j : Int} {n : Nat} (h : Lv L 0 k) (hn : n ≤ L.length) (h1 : ∀ i x, i < n → L[i]? = some x → x.lev ≤ j) (h2 : ∀ x, L[n]? = some x → j < x.lev) : cnt L (j + 1) = n := by
  have hc := cnt_take (j + 1) h
  have hcl := cnt_le L (j + 1)
  rcases Nat.lt_trichotomy (cnt L (j + 1)) n with e | e | e
  · have hlt : cnt L (j + 1) < L.length := by omega
    have hm : L[cnt L (j + 1)] ∈ L.drop (cnt L (j + 1)) := by rw [List.mem_drop_iff_getElem]; exact ⟨0, by omega, by simp⟩
    have := hc.2 _ hm
    have := h1 _ _ e (List.getElem?_eq_getElem hlt)
    omega
  · exact e
  · have hlt : n < L.length := by omega
    have hm : L[n] ∈ L.take (cnt L (j + 1)) := by rw [List.mem_take_iff_getElem]; exact ⟨n, by omega, rfl⟩
    rw [← hc.1] at hm
    have := (List.mem_filter.1 hm).2
    have := h2 _ (List.getElem?_eq_getElem hlt)
    simp at *; omega
theorem at_item {s : TS} (hs : Ok s) {i : Nat} (hi : i < s.L.length) : ∃ x : It, s.L[i]? = some x ∧ atL s.L i = x.lit ∧ levV s.L (x.lit.natAbs : Int) = x.lev ∧ reaV s.L (x.lit.natAbs : Int) = x.rea ∧ plaV s.L (x.lit.natAbs : Int) = i ∧ valO s x.lit = 1 ∧ valO s (-x.lit) = -1 ∧ good x.lit := by
  have hx : s.L[i]? = some s.L[i] := List.getElem?_eq_getElem hi
  have e1 := TI.loc hs hx
  have e0 := e1
  rw [vr_abs] at e1
  have hg := (hs.g _ (List.getElem_mem hi)).1
  have hg2 := hg
  unfold good at hg2
  refine ⟨s.L[i], hx, ?_, ?_, ?_, ?_, ?_, ?_, hg⟩
  · unfold atL; rw [if_pos (by omega)]; simp [hx]
  · unfold levV; rw [e1]
  · unfold reaV; rw [e1]
  · unfold plaV; rw [e1]
  · unfold valO; rw [if_pos hg2, valL_eq hg, e0]; simp
  · unfold valO; rw [if_pos (by omega), valL_eq (by unfold good; omega), vr_neg, e0]; simp only []; rw [if_neg (by omega)]
set_option maxHeartbeats 400000 in
theorem sameitem_spec (h : Heap) (W : Nat) (G : Nat → Prop) (s : TS) (ws : MS h W G s) (M : Nat) (F : Nat → Prop) (s2 : TS) (ms : MS h M F s2) (n i : Nat) (hp : Pre s s2 n) (hi : i < n) :
    FC Try.prog 69 (#[.pointer (some ⟨W, 0, none⟩), .pointer (some ⟨M, 0, none⟩), .int .i64 (i : Int)] : Array Value) h fun v h' => v = .bool true ∧ h = h' := by
  obtain ⟨x, p1, p2, p3, p4, p5, p6, p7⟩ := hp.item ws.ok ms.ok hi
  have p8 := p7
  unfold good at p8
  refine FC_of [(0, .pointer (some ⟨W, 0, none⟩)), (1, .pointer (some ⟨M, 0, none⟩)), (2, .int .i64 (i : Int))] Try.func69 rfl Try.ntmps69 (by simp) rfl (fun R hR => ?_)
  refine V_sr T.mix (by kernel_rfl) (fun K1 hK1 => ?_)
  refine S_as rfl ?_
  refine S_nil (hK1 _ _ (V_keep [0, 1, 2] (by simp only [proj, lk, reduceIte, Nat.reduceEqDiff]; rfl) ?_)); clear hK1
  refine V_sr T.mix (by kernel_rfl) (fun K2 hK2 => ?_)
  refine S_mv rfl ?_
  refine S_mv rfl ?_
  refine S_call T.hb26 rfl ?_
  refine FC.mono (mat_spec h W G s ws i) ?_
  rintro v' h' ⟨rfl, rfl⟩
  rw [p1]
  refine S_as rfl ?_
  refine S_nil (hK2 _ _ (V_keep [0, 1, 2, 7] (by simp only [proj, lk, reduceIte, Nat.reduceEqDiff]; rfl) ?_)); clear hK2
  refine V_seq (fun K3 hK3 => ?_)
  refine V_sr T.mix (by kernel_rfl) (fun K4 hK4 => ?_)
  refine S_mv rfl ?_
  refine S_mv rfl ?_
  refine S_call T.hb26 rfl ?_
  refine FC.mono (mat_spec h M F s2 ms i) ?_
  rintro v' h' ⟨rfl, rfl⟩
  refine S_mv rfl ?_
  refine S_bin rfl rfl rfl ?_
  refine S_nil (hK4 _ _ (V_keep [0, 1, 7, 18] (by simp only [proj, lk, reduceIte, Nat.reduceEqDiff]; rfl) ?_)); clear hK4
  refine V_condp rfl (fun c46 => ?_) (fun c46 => ?_)
  · skip
    exfalso; exact c46 p2
  · skip
    refine V_skipk [0, 1, 7] (by simp only [proj, lk, reduceIte, Nat.reduceEqDiff]; rfl) ?_
    refine hK3 _ _ ?_; clear hK3
    refine V_sr T.mix (by kernel_rfl) (fun K5 hK5 => ?_)
    refine S_mv rfl ?_
    refine S_call T.hb42 rfl ?_
    refine FC.mono (var_spec _ x.lit (by omega) (by omega)) ?_
    rintro v' h' ⟨rfl, rfl⟩
    refine S_as rfl ?_
    refine S_nil (hK5 _ _ (V_keep [0, 1, 8] (by simp only [proj, lk, reduceIte, Nat.reduceEqDiff]; rfl) ?_)); clear hK5
    refine V_sr T.mix (by kernel_rfl) (fun K6 hK6 => ?_)
    refine S_mv rfl ?_
    refine S_mv rfl ?_
    refine S_call T.hb43 rfl ?_
    refine FC.mono (mlevelof_spec h W G s ws _) ?_
    rintro v' h' ⟨rfl, rfl⟩
    rw [p3]
    refine S_as rfl ?_
    refine S_nil (hK6 _ _ (V_keep [0, 1, 8, 9] (by simp only [proj, lk, reduceIte, Nat.reduceEqDiff]; rfl) ?_)); clear hK6
    refine V_seq (fun K7 hK7 => ?_)
    refine V_sr T.mix (by kernel_rfl) (fun K8 hK8 => ?_)
    refine S_mv rfl ?_
    refine S_mv rfl ?_
    refine S_call T.hb43 rfl ?_
    refine FC.mono (mlevelof_spec h M F s2 ms _) ?_
    rintro v' h' ⟨rfl, rfl⟩
    refine S_mv rfl ?_
    refine S_bin rfl rfl rfl ?_
    refine S_nil (hK8 _ _ (V_keep [0, 1, 8, 28] (by simp only [proj, lk, reduceIte, Nat.reduceEqDiff]; rfl) ?_)); clear hK8
    refine V_condp rfl (fun c51 => ?_) (fun c51 => ?_)
    · skip
      exfalso; exact c51 p4
    · skip
      refine V_skipk [0, 1, 8] (by simp only [proj, lk, reduceIte, Nat.reduceEqDiff]; rfl) ?_
      refine hK7 _ _ ?_; clear hK7
      refine V_sr T.mix (by kernel_rfl) (fun K9 hK9 => ?_)
      refine S_mv rfl ?_
      refine S_mv rfl ?_
      refine S_call T.hb44 rfl ?_
      refine FC.mono (mreason_spec h W G s ws _) ?_
      rintro v' h' ⟨rfl, rfl⟩
      rw [p5]
      refine S_as rfl ?_
      refine S_nil (hK9 _ _ (V_keep [1, 8, 10] (by simp only [proj, lk, reduceIte, Nat.reduceEqDiff]; rfl) ?_)); clear hK9
      refine V_sr T.mix (by kernel_rfl) (fun K10 hK10 => ?_)
      refine S_mv rfl ?_
      refine S_mv rfl ?_
      refine S_call T.hb44 rfl ?_
      refine FC.mono (mreason_spec h M F s2 ms _) ?_
      rintro v' h' ⟨rfl, rfl⟩
      refine S_mv rfl ?_
      refine S_bin rfl rfl rfl ?_
      refine S_as rfl ?_
      refine S_nil (hK10 _ _ (V_keep [6] (by simp only [proj, lk, reduceIte, Nat.reduceEqDiff]; rfl) ?_)); clear hK10
      refine V_ret ?_
      refine hR _ _ (ret1 rfl rfl ?_)
      exact ⟨by rw [p6]; simp, rfl⟩
set_option maxHeartbeats 400000 in
theorem prefix_spec (h : Heap) (W : Nat) (G : Nat → Prop) (s : TS) (ws : MS h W G s) (M : Nat) (F : Nat → Prop) (s2 : TS) (ms : MS h M F s2) (n : Nat) (hp : Pre s s2 n) (hn : n ≤ 1000) :
    FC Try.prog 41 (#[.pointer (some ⟨W, 0, none⟩), .pointer (some ⟨M, 0, none⟩), .int .i64 (n : Int)] : Array Value) h fun v h' => v = .bool true ∧ h = h' := by
  refine FC_of [(0, .pointer (some ⟨W, 0, none⟩)), (1, .pointer (some ⟨M, 0, none⟩)), (2, .int .i64 (n : Int))] Try.func41 rfl Try.ntmps41 (by simp) rfl (fun R hR => ?_)
  refine V_sr T.mix (by kernel_rfl) (fun K1 hK1 => ?_)
  refine S_as rfl ?_
  refine S_nil (hK1 _ _ (V_keep [0, 1, 2] (by simp only [proj, lk, reduceIte, Nat.reduceEqDiff]; rfl) ?_)); clear hK1
  refine V_seq (fun K2 hK2 => ?_)
  refine V_sr T.mix (by kernel_rfl) (fun K3 hK3 => ?_)
  refine S_as rfl ?_
  refine S_nil (hK3 _ _ (V_keep [0, 1, 2, 7] (by simp only [proj, lk, reduceIte, Nat.reduceEqDiff]; rfl) ?_)); clear hK3
  refine V_block ?_
  refine V_loop (fun m l h' => ∃ (i : Nat), (i ≤ n) ∧ m = n - i ∧ l = [(0, .pointer (some ⟨W, 0, none⟩)), (1, .pointer (some ⟨M, 0, none⟩)), (2, .int .i64 (n : Int)), (7, .int .i64 (i : Int))] ∧ h = h') _ ⟨0, by omega, rfl, rfl, rfl⟩ ?_
  rintro m l h' ⟨i, hi, rfl, rfl, rfl⟩ K4 hK4
  refine V_seq (fun K5 hK5 => ?_)
  refine V_sr T.mix (by kernel_rfl) (fun K6 hK6 => ?_)
  refine S_mv rfl ?_
  refine S_mv rfl ?_
  refine S_bin rfl rfl rfl ?_
  refine S_nil (hK6 _ _ (V_keep [0, 1, 2, 7, 10] (by simp only [proj, lk, reduceIte, Nat.reduceEqDiff]; rfl) ?_)); clear hK6
  refine V_condp rfl (fun c60 => ?_) (fun c60 => ?_)
  · skip
    refine V_skipk [0, 1, 2, 7] (by simp only [proj, lk, reduceIte, Nat.reduceEqDiff]; rfl) ?_
    refine hK5 _ _ ?_; clear hK5
    refine V_seq (fun K7 hK7 => ?_)
    refine V_block ?_
    refine V_sr T.mix (by kernel_rfl) (fun K8 hK8 => ?_)
    refine S_mv rfl ?_
    refine S_mv rfl ?_
    refine S_mv rfl ?_
    refine S_call T.hb69 rfl ?_
    refine FC.mono (sameitem_spec h W G s ws M F s2 ms n i hp (by omega)) ?_
    rintro v' h' ⟨rfl, rfl⟩
    refine S_notb rfl ?_
    refine S_nil (hK8 _ _ (V_keep [0, 1, 2, 7, 17] (by simp only [proj, lk, reduceIte, Nat.reduceEqDiff]; rfl) ?_)); clear hK8
    refine V_condb rfl (fun c61 => ?_) (fun c61 => ?_)
    · skip
      cases c61
    · skip
      refine V_skipk [0, 1, 2, 7] (by simp only [proj, lk, reduceIte, Nat.reduceEqDiff]; rfl) ?_
      refine hK7 _ _ ?_; clear hK7
      refine V_reg T.mix (by kernel_rfl) ?_
      refine S_mv rfl ?_
      first | refine S_add rfl rfl (by omega) (by omega) ?_ | refine S_bin rfl rfl rfl ?_
      refine S_as rfl ?_
      refine S_nilk [0, 1, 2, 7] (by simp only [proj, lk, reduceIte, Nat.reduceEqDiff]; rfl) ?_
      exact hK4 _ _ ⟨_, by omega, i + 1, by omega, rfl, rfl, rfl⟩
  · skip
    refine V_exitk [] rfl (by simp only [proj, lk, reduceIte, Nat.reduceEqDiff]; rfl) ?_
    refine hK2 _ _ ?_; clear hK2
    refine V_sr T.mix (by kernel_rfl) (fun K9 hK9 => ?_)
    refine S_as rfl ?_
    refine S_nil (hK9 _ _ (V_keep [6] (by simp only [proj, lk, reduceIte, Nat.reduceEqDiff]; rfl) ?_)); clear hK9
    refine V_ret ?_
    refine hR _ _ (ret1 rfl rfl ?_)
    exact ⟨rfl, rfl⟩
set_option maxHeartbeats 400000 in
theorem shape_spec (h : Heap) (M : Nat) (F : Nat → Prop) (s : TS) (ms : MS h M F s) (n k c : Int) (hn : (s.L.length : Int) = n) (hk : (s.k : Int) = k) (hc : (s.c : Int) = c) :
    FC Try.prog 40 (#[.pointer (some ⟨M, 0, none⟩), .int .i64 n, .int .i64 k, .int .i64 c] : Array Value) h fun v h' => v = .bool true ∧ h = h' := by
  have hlen := TI.len ms.ok
  have hcc := ms.ok.c
  refine FC_of [(0, .pointer (some ⟨M, 0, none⟩)), (1, .int .i64 n), (2, .int .i64 k), (3, .int .i64 c)] Try.func40 rfl Try.ntmps40 (by simp) rfl (fun R hR => ?_)
  refine V_sr T.mix (by kernel_rfl) (fun K1 hK1 => ?_)
  refine S_as rfl ?_
  refine S_nil (hK1 _ _ (V_keep [0, 1, 2, 3] (by simp only [proj, lk, reduceIte, Nat.reduceEqDiff]; rfl) ?_)); clear hK1
  refine V_seq (fun K2 hK2 => ?_)
  refine V_sr T.mix (by kernel_rfl) (fun K3 hK3 => ?_)
  refine S_mv rfl ?_
  refine S_call T.hb13 rfl ?_
  refine FC.mono (mlen_spec h M F s ms) ?_
  rintro v' h' ⟨rfl, rfl⟩
  refine S_mv rfl ?_
  refine S_bin rfl rfl rfl ?_
  refine S_nil (hK3 _ _ (V_keep [0, 1, 2, 3, 12] (by simp only [proj, lk, reduceIte, Nat.reduceEqDiff]; rfl) ?_)); clear hK3
  refine V_condp rfl (fun c70 => ?_) (fun c70 => ?_)
  · skip
    exfalso; exact c70 hn
  · skip
    refine V_skipk [0, 1, 2, 3] (by simp only [proj, lk, reduceIte, Nat.reduceEqDiff]; rfl) ?_
    refine hK2 _ _ ?_; clear hK2
    refine V_seq (fun K4 hK4 => ?_)
    refine V_sr T.mix (by kernel_rfl) (fun K5 hK5 => ?_)
    refine S_mv rfl ?_
    refine S_call T.hb24 rfl ?_
    refine FC.mono (mlevel_spec h M F s ms) ?_
    rintro v' h' ⟨rfl, rfl⟩
    refine S_mv rfl ?_
    refine S_bin rfl rfl rfl ?_
    refine S_nil (hK5 _ _ (V_keep [0, 1, 3, 16] (by simp only [proj, lk, reduceIte, Nat.reduceEqDiff]; rfl) ?_)); clear hK5
    refine V_condp rfl (fun c73 => ?_) (fun c73 => ?_)
    · skip
      exfalso; exact c73 hk
    · skip
      refine V_skipk [0, 1, 3] (by simp only [proj, lk, reduceIte, Nat.reduceEqDiff]; rfl) ?_
      refine hK4 _ _ ?_; clear hK4
      refine V_sr T.mix (by kernel_rfl) (fun K6 hK6 => ?_)
      refine S_mv rfl ?_
      refine S_call T.hb25 rfl ?_
      refine FC.mono (mpending_spec h M F s ms) ?_
      rintro v' h' ⟨rfl, rfl⟩
      refine S_mv rfl ?_
      refine S_mv rfl ?_
      first | refine S_sub rfl rfl (by omega) (by omega) ?_ | refine S_bin rfl rfl rfl ?_
      refine S_bin rfl rfl rfl ?_
      refine S_as rfl ?_
      refine S_nil (hK6 _ _ (V_keep [8] (by simp only [proj, lk, reduceIte, Nat.reduceEqDiff]; rfl) ?_)); clear hK6
      refine V_ret ?_
      refine hR _ _ (ret1 rfl rfl ?_)
      exact ⟨by simp; omega, rfl⟩
set_option maxHeartbeats 1600000 in
theorem due_spec (h : Heap) (W : Nat) (G : Nat → Prop) (s : TS) (ws : MS h W G s) (k oa ob oc : Int) (os ot : ByteArray) :
    FC Try.prog 15 (#[.pointer (some ⟨W, 0, none⟩), .agg #[.int .i64 k, .int .i64 oa, .int .i64 ob, .int .i64 oc, .string os, .string ot]] : Array Value) h fun rv h' => rv = .int .i64 (dueF s k oa ob) ∧ Ext (fun _ => False) h h' := by
  have hlen := TI.len ws.ok
  have hcc := ws.ok.c
  refine FC_of [(0, .pointer (some ⟨W, 0, none⟩)), (1, .agg #[.int .i64 k, .int .i64 oa, .int .i64 ob, .int .i64 oc, .string os, .string ot])] Try.func15 rfl Try.ntmps15 (by simp) rfl (fun R hR => ?_)
  refine V_sr T.mix (by kernel_rfl) (fun K1 hK1 => ?_)
  refine S_boxA rfl ?_
  generalize hh : Array.push h _ = h1
  have o : B h1 h.size #[.int .i64 k, .int .i64 oa, .int .i64 ob, .int .i64 oc, .string os, .string ot] 36 := by rw [← hh]; exact B.new _ _ _
  have hEh1 : Ext (fun _ => False) h h1 := by rw [← hh]; exact Ext.push _ _ _
  clear hh
  have o0 : cellH h1 ⟨h.size, 0, none⟩ = some (.int .i64 k) := o.cell 0
  have o1 : cellH h1 ⟨h.size, 1, none⟩ = some (.int .i64 oa) := o.cell 1
  have o2 : cellH h1 ⟨h.size, 2, none⟩ = some (.int .i64 ob) := o.cell 2
  replace ws := ws.ext hEh1 (fun _ _ f => f)
  refine S_as rfl ?_
  refine S_nil (hK1 _ _ (V_keep [0, 3] (by simp only [proj, lk, reduceIte, Nat.reduceEqDiff]; rfl) ?_)); clear hK1
  refine V_seq (fun K2 hK2 => ?_)
  refine V_sr T.mix (by kernel_rfl) (fun K3 hK3 => ?_)
  first | refine S_fa0 T.f36_0 rfl ?_ | refine S_fa T.f36_0 rfl ?_
  refine S_ldK T.ag3 rfl (fun K' hK' => ?_)
  simp (disch := omega) only [o0, o1, o2, oP_some, Nat.add_zero]
  refine hK' _ ?_; clear hK' K'
  refine S_nil (hK3 _ _ (V_keep [0, 3, 8] (by simp only [proj, lk, reduceIte, Nat.reduceEqDiff]; rfl) ?_)); clear hK3
  refine V_block ?_
  refine V_sr T.mix (by kernel_rfl) (fun K4 hK4 => ?_)
  refine S_bin rfl rfl rfl ?_
  refine S_as rfl ?_
  refine S_nil (hK4 _ _ (V_keep [0, 3, 8, 9] (by simp only [proj, lk, reduceIte, Nat.reduceEqDiff]; rfl) ?_)); clear hK4
  refine V_condp rfl (fun c14 => ?_) (fun c14 => ?_)
  · skip
    refine V_seq (fun K5 hK5 => ?_)
    refine V_sr T.mix (by kernel_rfl) (fun K6 hK6 => ?_)
    first | refine S_fa0 T.f36_1 rfl ?_ | refine S_fa T.f36_1 rfl ?_
    refine S_ldK T.ag3 rfl (fun K' hK' => ?_)
    simp (disch := omega) only [o0, o1, o2, oP_some, Nat.add_zero]
    refine hK' _ ?_; clear hK' K'
    refine S_call T.hb22 rfl ?_
    refine FC.mono (goodlit_spec _ oa) ?_
    rintro v' h' ⟨g, rfl, hg, rfl⟩
    refine S_notb rfl ?_
    refine S_nil (hK6 _ _ (V_keep [0, 3, 14] (by simp only [proj, lk, reduceIte, Nat.reduceEqDiff]; rfl) ?_)); clear hK6
    refine V_condb rfl (fun c15 => ?_) (fun c15 => ?_)
    · skip
      simp only [Bool.not_eq_true'] at c15
      have hng : ¬ good oa := fun e => by rw [hg.2 e] at c15; cases c15
      unfold good at hng
      refine V_sr T.mix (by kernel_rfl) (fun K7 hK7 => ?_)
      refine S_as rfl ?_
      refine S_nil (hK7 _ _ (V_keep [4] (by simp only [proj, lk, reduceIte, Nat.reduceEqDiff]; rfl) ?_)); clear hK7
      refine V_ret ?_
      refine hR _ _ (ret1 rfl rfl ?_)
      first | exact ⟨by rw [take_at s hcc]; unfold dueF; rw [if_neg (by omega), if_neg (by omega), if_neg (by omega), if_pos (by omega)], hEh1⟩ | (refine ⟨congrArg (Value.int .i64) ?_, hEh1⟩; unfold dueF decE asgE bjE; (repeat' split) <;> (try simp only [good] at *) <;> omega)
    · skip
      simp only [Bool.not_eq_false'] at c15
      have hgl := hg.1 c15
      have hgl2 := hgl
      unfold good at hgl2
      refine V_skipk [0, 3] (by simp only [proj, lk, reduceIte, Nat.reduceEqDiff]; rfl) ?_
      refine hK5 _ _ ?_; clear hK5
      refine V_sr T.mix (by kernel_rfl) (fun K8 hK8 => ?_)
      refine S_mv rfl ?_
      first | refine S_fa0 T.f36_1 rfl ?_ | refine S_fa T.f36_1 rfl ?_
      refine S_ldK T.ag3 rfl (fun K' hK' => ?_)
      simp (disch := omega) only [o0, o1, o2, oP_some, Nat.add_zero]
      refine hK' _ ?_; clear hK' K'
      refine S_call T.hb23 rfl ?_
      refine FC.mono (mvalue_spec h1 W G s ws oa) ?_
      rintro v' h' ⟨rfl, rfl⟩
      have hvz := valO_zero (s := s) (lt := oa) (by omega)
      refine S_bin rfl rfl rfl ?_
      refine S_nil (hK8 _ _ (V_keep [19] (by simp only [proj, lk, reduceIte, Nat.reduceEqDiff]; rfl) ?_)); clear hK8
      refine V_condp rfl (fun c18 => ?_) (fun c18 => ?_)
      · skip
        refine V_sr T.mix (by kernel_rfl) (fun K9 hK9 => ?_)
        refine S_as rfl ?_
        refine S_nil (hK9 _ _ (V_keep [4] (by simp only [proj, lk, reduceIte, Nat.reduceEqDiff]; rfl) ?_)); clear hK9
        refine V_ret ?_
        refine hR _ _ (ret1 rfl rfl ?_)
        first | exact ⟨by rw [take_at s hcc]; unfold dueF; rw [if_neg (by omega), if_neg (by omega), if_neg (by omega), if_pos (by omega)], hEh1⟩ | (refine ⟨congrArg (Value.int .i64) ?_, hEh1⟩; unfold dueF decE asgE bjE; (repeat' split) <;> (try simp only [good] at *) <;> omega)
      · skip
        refine V_skipk [] (by simp only [proj, lk, reduceIte, Nat.reduceEqDiff]; rfl) ?_
        refine hK2 _ _ ?_; clear hK2
        refine V_sr T.mix (by kernel_rfl) (fun K10 hK10 => ?_)
        refine S_as rfl ?_
        refine S_nil (hK10 _ _ (V_keep [4] (by simp only [proj, lk, reduceIte, Nat.reduceEqDiff]; rfl) ?_)); clear hK10
        refine V_ret ?_
        refine hR _ _ (ret1 rfl rfl ?_)
        first | exact ⟨by rw [take_at s hcc]; unfold dueF; rw [if_neg (by omega), if_neg (by omega), if_neg (by omega), if_pos (by omega)], hEh1⟩ | (refine ⟨congrArg (Value.int .i64) ?_, hEh1⟩; unfold dueF decE asgE bjE; (repeat' split) <;> (try simp only [good] at *) <;> omega)
  · skip
    refine V_sr T.mix (by kernel_rfl) (fun K11 hK11 => ?_)
    refine S_bin rfl rfl rfl ?_
    refine S_as rfl ?_
    refine S_nil (hK11 _ _ (V_keep [0, 3, 8, 20] (by simp only [proj, lk, reduceIte, Nat.reduceEqDiff]; rfl) ?_)); clear hK11
    refine V_condp rfl (fun c21 => ?_) (fun c21 => ?_)
    · skip
      refine V_seq (fun K12 hK12 => ?_)
      refine V_sr T.mix (by kernel_rfl) (fun K13 hK13 => ?_)
      first | refine S_fa0 T.f36_1 rfl ?_ | refine S_fa T.f36_1 rfl ?_
      refine S_ldK T.ag3 rfl (fun K' hK' => ?_)
      simp (disch := omega) only [o0, o1, o2, oP_some, Nat.add_zero]
      refine hK' _ ?_; clear hK' K'
      refine S_call T.hb22 rfl ?_
      refine FC.mono (goodlit_spec _ oa) ?_
      rintro v' h' ⟨g, rfl, hg, rfl⟩
      refine S_notb rfl ?_
      refine S_nil (hK13 _ _ (V_keep [0, 3, 25] (by simp only [proj, lk, reduceIte, Nat.reduceEqDiff]; rfl) ?_)); clear hK13
      refine V_condb rfl (fun c22 => ?_) (fun c22 => ?_)
      · skip
        simp only [Bool.not_eq_true'] at c22
        have hng : ¬ good oa := fun e => by rw [hg.2 e] at c22; cases c22
        unfold good at hng
        refine V_sr T.mix (by kernel_rfl) (fun K14 hK14 => ?_)
        refine S_as rfl ?_
        refine S_nil (hK14 _ _ (V_keep [4] (by simp only [proj, lk, reduceIte, Nat.reduceEqDiff]; rfl) ?_)); clear hK14
        refine V_ret ?_
        refine hR _ _ (ret1 rfl rfl ?_)
        first | exact ⟨by rw [take_at s hcc]; unfold dueF; rw [if_neg (by omega), if_neg (by omega), if_neg (by omega), if_pos (by omega)], hEh1⟩ | (refine ⟨congrArg (Value.int .i64) ?_, hEh1⟩; unfold dueF decE asgE bjE; (repeat' split) <;> (try simp only [good] at *) <;> omega)
      · skip
        simp only [Bool.not_eq_false'] at c22
        have hgl := hg.1 c22
        have hgl2 := hgl
        unfold good at hgl2
        refine V_skipk [0, 3] (by simp only [proj, lk, reduceIte, Nat.reduceEqDiff]; rfl) ?_
        refine hK12 _ _ ?_; clear hK12
        refine V_seq (fun K15 hK15 => ?_)
        refine V_sr T.mix (by kernel_rfl) (fun K16 hK16 => ?_)
        first | refine S_fa0 T.f36_2 rfl ?_ | refine S_fa T.f36_2 rfl ?_
        refine S_ldK T.ag3 rfl (fun K' hK' => ?_)
        simp (disch := omega) only [o0, o1, o2, oP_some, Nat.add_zero]
        refine hK' _ ?_; clear hK' K'
        refine S_bin rfl rfl rfl ?_
        refine S_nil (hK16 _ _ (V_keep [0, 3, 28] (by simp only [proj, lk, reduceIte, Nat.reduceEqDiff]; rfl) ?_)); clear hK16
        refine V_condp rfl (fun c25 => ?_) (fun c25 => ?_)
        · skip
          refine V_sr T.mix (by kernel_rfl) (fun K17 hK17 => ?_)
          refine S_as rfl ?_
          refine S_nil (hK17 _ _ (V_keep [4] (by simp only [proj, lk, reduceIte, Nat.reduceEqDiff]; rfl) ?_)); clear hK17
          refine V_ret ?_
          refine hR _ _ (ret1 rfl rfl ?_)
          first | exact ⟨by rw [take_at s hcc]; unfold dueF; rw [if_neg (by omega), if_neg (by omega), if_neg (by omega), if_pos (by omega)], hEh1⟩ | (refine ⟨congrArg (Value.int .i64) ?_, hEh1⟩; unfold dueF decE asgE bjE; (repeat' split) <;> (try simp only [good] at *) <;> omega)
        · skip
          refine V_skipk [0, 3] (by simp only [proj, lk, reduceIte, Nat.reduceEqDiff]; rfl) ?_
          refine hK15 _ _ ?_; clear hK15
          refine V_sr T.mix (by kernel_rfl) (fun K18 hK18 => ?_)
          refine S_mv rfl ?_
          first | refine S_fa0 T.f36_1 rfl ?_ | refine S_fa T.f36_1 rfl ?_
          refine S_ldK T.ag3 rfl (fun K' hK' => ?_)
          simp (disch := omega) only [o0, o1, o2, oP_some, Nat.add_zero]
          refine hK' _ ?_; clear hK' K'
          refine S_call T.hb23 rfl ?_
          refine FC.mono (mvalue_spec h1 W G s ws oa) ?_
          rintro v' h' ⟨rfl, rfl⟩
          have hvz := valO_zero (s := s) (lt := oa) (by omega)
          refine S_bin rfl rfl rfl ?_
          refine S_nil (hK18 _ _ (V_keep [33] (by simp only [proj, lk, reduceIte, Nat.reduceEqDiff]; rfl) ?_)); clear hK18
          refine V_condp rfl (fun c28 => ?_) (fun c28 => ?_)
          · skip
            refine V_sr T.mix (by kernel_rfl) (fun K19 hK19 => ?_)
            refine S_as rfl ?_
            refine S_nil (hK19 _ _ (V_keep [4] (by simp only [proj, lk, reduceIte, Nat.reduceEqDiff]; rfl) ?_)); clear hK19
            refine V_ret ?_
            refine hR _ _ (ret1 rfl rfl ?_)
            first | exact ⟨by rw [take_at s hcc]; unfold dueF; rw [if_neg (by omega), if_neg (by omega), if_neg (by omega), if_pos (by omega)], hEh1⟩ | (refine ⟨congrArg (Value.int .i64) ?_, hEh1⟩; unfold dueF decE asgE bjE; (repeat' split) <;> (try simp only [good] at *) <;> omega)
          · skip
            refine V_skipk [] (by simp only [proj, lk, reduceIte, Nat.reduceEqDiff]; rfl) ?_
            refine hK2 _ _ ?_; clear hK2
            refine V_sr T.mix (by kernel_rfl) (fun K20 hK20 => ?_)
            refine S_as rfl ?_
            refine S_nil (hK20 _ _ (V_keep [4] (by simp only [proj, lk, reduceIte, Nat.reduceEqDiff]; rfl) ?_)); clear hK20
            refine V_ret ?_
            refine hR _ _ (ret1 rfl rfl ?_)
            first | exact ⟨by rw [take_at s hcc]; unfold dueF; rw [if_neg (by omega), if_neg (by omega), if_neg (by omega), if_pos (by omega)], hEh1⟩ | (refine ⟨congrArg (Value.int .i64) ?_, hEh1⟩; unfold dueF decE asgE bjE; (repeat' split) <;> (try simp only [good] at *) <;> omega)
    · skip
      refine V_sr T.mix (by kernel_rfl) (fun K21 hK21 => ?_)
      refine S_bin rfl rfl rfl ?_
      refine S_as rfl ?_
      refine S_nil (hK21 _ _ (V_keep [0, 3, 8, 34] (by simp only [proj, lk, reduceIte, Nat.reduceEqDiff]; rfl) ?_)); clear hK21
      refine V_condp rfl (fun c31 => ?_) (fun c31 => ?_)
      · skip
        refine V_srM #[0, 1, 2, 3, 4, 5, 6, 7, 8, 9] [0, 1, 2, 3, 4, 5, 6] 7 [8, 9] T.mix (by kernel_rfl) rfl ⟨rfl, rfl⟩ (fun K22 hK22 => ?_)
        first | refine S_fa0 T.f36_1 rfl ?_ | refine S_fa T.f36_1 rfl ?_
        refine S_ldK T.ag3 rfl (fun K' hK' => ?_)
        simp (disch := omega) only [o0, o1, o2, oP_some, Nat.add_zero]
        refine hK' _ ?_; clear hK' K'
        refine S_bin rfl rfl rfl ?_
        refine S_mv rfl ?_
        refine S_dec (fun g32 => ?_) (fun g32 => ?_)
        · skip
          refine S_gf rfl ?_
          refine S_gf rfl ?_
          refine S_gf rfl ?_
          refine S_nil ?_
          refine SM_gf rfl ?_
          refine S_gf rfl ?_
          refine S_pt rfl rfl ?_
          refine S_nil (hK22 _ _ (V_keep [45] (by simp only [proj, lk, reduceIte, Nat.reduceEqDiff]; rfl) ?_)); clear hK22
          refine V_condt rfl ?_
          refine V_sr T.mix (by kernel_rfl) (fun K23 hK23 => ?_)
          refine S_as rfl ?_
          refine S_nil (hK23 _ _ (V_keep [4] (by simp only [proj, lk, reduceIte, Nat.reduceEqDiff]; rfl) ?_)); clear hK23
          refine V_ret ?_
          refine hR _ _ (ret1 rfl rfl ?_)
          first | exact ⟨by rw [take_at s hcc]; unfold dueF; rw [if_neg (by omega), if_neg (by omega), if_neg (by omega), if_pos (by omega)], hEh1⟩ | (refine ⟨congrArg (Value.int .i64) ?_, hEh1⟩; unfold dueF decE asgE bjE; (repeat' split) <;> (try simp only [good] at *) <;> omega)
        · skip
          refine S_gt rfl ?_
          first | refine S_fa0 T.f36_1 rfl ?_ | refine S_fa T.f36_1 rfl ?_
          refine S_gt rfl ?_
          refine S_ldK T.ag3 rfl (fun K' hK' => ?_)
          simp (disch := omega) only [o0, o1, o2, oP_some, Nat.add_zero]
          refine hK' _ ?_; clear hK' K'
          refine S_gt rfl ?_
          refine S_mv rfl ?_
          refine S_nil ?_
          refine SM_gt rfl ?_
          refine SM_call T.hb24 rfl ?_
          refine FC.mono (mlevel_spec h1 W G s ws) ?_
          rintro v' h' ⟨rfl, rfl⟩
          first | refine ⟨Grows.refl _, ?_⟩ | refine ⟨Grows.of_ext (by assumption), ?_⟩
          refine S_gt rfl ?_
          refine S_bin rfl rfl rfl ?_
          refine S_pf rfl rfl ?_
          refine S_nil (hK22 _ _ (V_keep [45] (by simp only [proj, lk, reduceIte, Nat.reduceEqDiff]; rfl) ?_)); clear hK22
          refine V_condp rfl (fun c32 => ?_) (fun c32 => ?_)
          · skip
            refine V_sr T.mix (by kernel_rfl) (fun K24 hK24 => ?_)
            refine S_as rfl ?_
            refine S_nil (hK24 _ _ (V_keep [4] (by simp only [proj, lk, reduceIte, Nat.reduceEqDiff]; rfl) ?_)); clear hK24
            refine V_ret ?_
            refine hR _ _ (ret1 rfl rfl ?_)
            first | exact ⟨by rw [take_at s hcc]; unfold dueF; rw [if_neg (by omega), if_neg (by omega), if_neg (by omega), if_pos (by omega)], hEh1⟩ | (refine ⟨congrArg (Value.int .i64) ?_, hEh1⟩; unfold dueF decE asgE bjE; (repeat' split) <;> (try simp only [good] at *) <;> omega)
          · skip
            refine V_skipk [] (by simp only [proj, lk, reduceIte, Nat.reduceEqDiff]; rfl) ?_
            refine hK2 _ _ ?_; clear hK2
            refine V_sr T.mix (by kernel_rfl) (fun K25 hK25 => ?_)
            refine S_as rfl ?_
            refine S_nil (hK25 _ _ (V_keep [4] (by simp only [proj, lk, reduceIte, Nat.reduceEqDiff]; rfl) ?_)); clear hK25
            refine V_ret ?_
            refine hR _ _ (ret1 rfl rfl ?_)
            first | exact ⟨by rw [take_at s hcc]; unfold dueF; rw [if_neg (by omega), if_neg (by omega), if_neg (by omega), if_pos (by omega)], hEh1⟩ | (refine ⟨congrArg (Value.int .i64) ?_, hEh1⟩; unfold dueF decE asgE bjE; (repeat' split) <;> (try simp only [good] at *) <;> omega)
      · skip
        refine V_sr T.mix (by kernel_rfl) (fun K26 hK26 => ?_)
        refine S_bin rfl rfl rfl ?_
        refine S_as rfl ?_
        refine S_nil (hK26 _ _ (V_keep [0, 46] (by simp only [proj, lk, reduceIte, Nat.reduceEqDiff]; rfl) ?_)); clear hK26
        refine V_condp rfl (fun c35 => ?_) (fun c35 => ?_)
        · skip
          refine V_sr T.mix (by kernel_rfl) (fun K27 hK27 => ?_)
          refine S_mv rfl ?_
          refine S_call T.hb13 rfl ?_
          refine FC.mono (mlen_spec h1 W G s ws) ?_
          rintro v' h' ⟨rfl, rfl⟩
          refine S_as rfl ?_
          refine S_nil (hK27 _ _ (V_keep [0, 5] (by simp only [proj, lk, reduceIte, Nat.reduceEqDiff]; rfl) ?_)); clear hK27
          refine V_sr T.mix (by kernel_rfl) (fun K28 hK28 => ?_)
          refine S_mv rfl ?_
          refine S_call T.hb25 rfl ?_
          refine FC.mono (mpending_spec h1 W G s ws) ?_
          rintro v' h' ⟨rfl, rfl⟩
          refine S_as rfl ?_
          refine S_nil (hK28 _ _ (V_keep [0, 5, 6] (by simp only [proj, lk, reduceIte, Nat.reduceEqDiff]; rfl) ?_)); clear hK28
          refine V_sr T.mix (by kernel_rfl) (fun K29 hK29 => ?_)
          refine S_mv rfl ?_
          refine S_mv rfl ?_
          refine S_mv rfl ?_
          first | refine S_sub rfl rfl (by omega) (by omega) ?_ | refine S_bin rfl rfl rfl ?_
          refine S_call T.hb26 rfl ?_
          rw [show (s.L.length : Int) - ((s.L.length : Int) - s.c) = s.c by omega]
          refine FC.mono (mat_spec h1 W G s ws s.c) ?_
          rintro v' h' ⟨rfl, rfl⟩
          refine S_as rfl ?_
          refine S_nil (hK29 _ _ (V_keep [4] (by simp only [proj, lk, reduceIte, Nat.reduceEqDiff]; rfl) ?_)); clear hK29
          refine V_ret ?_
          refine hR _ _ (ret1 rfl rfl ?_)
          first | exact ⟨by rw [take_at s hcc]; unfold dueF; rw [if_neg (by omega), if_neg (by omega), if_neg (by omega), if_pos (by omega)], hEh1⟩ | (refine ⟨congrArg (Value.int .i64) ?_, hEh1⟩; unfold dueF decE asgE bjE; (repeat' split) <;> (try simp only [good] at *) <;> omega)
        · skip
          refine V_skipk [] (by simp only [proj, lk, reduceIte, Nat.reduceEqDiff]; rfl) ?_
          refine hK2 _ _ ?_; clear hK2
          refine V_sr T.mix (by kernel_rfl) (fun K30 hK30 => ?_)
          refine S_as rfl ?_
          refine S_nil (hK30 _ _ (V_keep [4] (by simp only [proj, lk, reduceIte, Nat.reduceEqDiff]; rfl) ?_)); clear hK30
          refine V_ret ?_
          refine hR _ _ (ret1 rfl rfl ?_)
          first | exact ⟨by rw [take_at s hcc]; unfold dueF; rw [if_neg (by omega), if_neg (by omega), if_neg (by omega), if_pos (by omega)], hEh1⟩ | (refine ⟨congrArg (Value.int .i64) ?_, hEh1⟩; unfold dueF decE asgE bjE; (repeat' split) <;> (try simp only [good] at *) <;> omega)
set_option maxHeartbeats 400000 in
theorem keepsat_spec (h : Heap) (M : Nat) (F : Nat → Prop) (s : TS) (ms : MS h M F s) (i : Nat) (hi : i < s.L.length) :
    FC Try.prog 45 (#[.pointer (some ⟨M, 0, none⟩), .int .i64 (i : Int), .int .i64 (lastL (s.L.take i) 0)] : Array Value) h fun rv h' => rv = .int .i64 (lastL (s.L.take (i + 1)) 0) ∧ 0 ≤ lastL (s.L.take (i + 1)) 0 ∧ h = h' := by
  have hlen := TI.len ms.ok
  have hdep := TI.dep ms.ok
  obtain ⟨x, hx, p1, p2, p3, p4, p5, p6, p7⟩ := at_item ms.ok hi
  have p8 := p7
  unfold good at p8
  obtain ⟨hla, hlb⟩ := Lv_at ms.ok.lv hx
  have hl0 := (Lv_le (Lv_take (i + 1) ms.ok.lv)).1
  have hxl := (Lv_le ms.ok.lv).2 x (List.mem_of_getElem? hx)
  refine FC_of [(0, .pointer (some ⟨M, 0, none⟩)), (1, .int .i64 (i : Int)), (2, .int .i64 (lastL (s.L.take i) 0))] Try.func45 rfl Try.ntmps45 (by simp) rfl (fun R hR => ?_)
  refine V_sr T.mix (by kernel_rfl) (fun K1 hK1 => ?_)
  refine S_as rfl ?_
  refine S_nil (hK1 _ _ (V_keep [0, 1, 2] (by simp only [proj, lk, reduceIte, Nat.reduceEqDiff]; rfl) ?_)); clear hK1
  refine V_sr T.mix (by kernel_rfl) (fun K2 hK2 => ?_)
  refine S_mv rfl ?_
  refine S_mv rfl ?_
  refine S_call T.hb26 rfl ?_
  refine FC.mono (mat_spec h M F s ms i) ?_
  rintro v' h' ⟨rfl, rfl⟩
  rw [p1]
  refine S_as rfl ?_
  refine S_nil (hK2 _ _ (V_keep [0, 1, 2, 7] (by simp only [proj, lk, reduceIte, Nat.reduceEqDiff]; rfl) ?_)); clear hK2
  refine V_seq (fun K3 hK3 => ?_)
  refine V_sr T.mix (by kernel_rfl) (fun K4 hK4 => ?_)
  refine S_mv rfl ?_
  refine S_mv rfl ?_
  refine S_call T.hb23 rfl ?_
  refine FC.mono (mvalue_spec h M F s ms x.lit) ?_
  rintro v' h' ⟨rfl, rfl⟩
  refine S_bin rfl rfl rfl ?_
  refine S_nil (hK4 _ _ (V_keep [0, 1, 2, 7, 16] (by simp only [proj, lk, reduceIte, Nat.reduceEqDiff]; rfl) ?_)); clear hK4
  refine V_condp rfl (fun c164 => ?_) (fun c164 => ?_)
  · skip
    exfalso; exact c164 p5
  · skip
    refine V_skipk [0, 1, 2, 7] (by simp only [proj, lk, reduceIte, Nat.reduceEqDiff]; rfl) ?_
    refine hK3 _ _ ?_; clear hK3
    refine V_seq (fun K5 hK5 => ?_)
    refine V_sr T.mix (by kernel_rfl) (fun K6 hK6 => ?_)
    refine S_mv rfl ?_
    refine S_mv rfl ?_
    first | refine S_neg rfl (by omega) (by omega) ?_ | refine S_un rfl rfl ?_
    refine S_call T.hb23 rfl ?_
    refine FC.mono (mvalue_spec h M F s ms (-x.lit)) ?_
    rintro v' h' ⟨rfl, rfl⟩
    refine S_bin rfl rfl rfl ?_
    refine S_nil (hK6 _ _ (V_keep [0, 1, 2, 7, 21] (by simp only [proj, lk, reduceIte, Nat.reduceEqDiff]; rfl) ?_)); clear hK6
    refine V_condp rfl (fun c167 => ?_) (fun c167 => ?_)
    · skip
      exfalso; exact c167 p6
    · skip
      refine V_skipk [0, 1, 2, 7] (by simp only [proj, lk, reduceIte, Nat.reduceEqDiff]; rfl) ?_
      refine hK5 _ _ ?_; clear hK5
      refine V_sr T.mix (by kernel_rfl) (fun K7 hK7 => ?_)
      refine S_mv rfl ?_
      refine S_call T.hb42 rfl ?_
      refine FC.mono (var_spec _ x.lit (by omega) (by omega)) ?_
      rintro v' h' ⟨rfl, rfl⟩
      refine S_as rfl ?_
      refine S_nil (hK7 _ _ (V_keep [0, 1, 2, 8] (by simp only [proj, lk, reduceIte, Nat.reduceEqDiff]; rfl) ?_)); clear hK7
      refine V_seq (fun K8 hK8 => ?_)
      refine V_sr T.mix (by kernel_rfl) (fun K9 hK9 => ?_)
      refine S_mv rfl ?_
      refine S_mv rfl ?_
      refine S_call T.hb68 rfl ?_
      refine FC.mono (mplace_spec h M F s ms _) ?_
      rintro v' h' ⟨rfl, rfl⟩
      refine S_mv rfl ?_
      refine S_bin rfl rfl rfl ?_
      refine S_nil (hK9 _ _ (V_keep [0, 2, 8, 28] (by simp only [proj, lk, reduceIte, Nat.reduceEqDiff]; rfl) ?_)); clear hK9
      refine V_condp rfl (fun c171 => ?_) (fun c171 => ?_)
      · skip
        exfalso; exact c171 p4
      · skip
        refine V_skipk [0, 2, 8] (by simp only [proj, lk, reduceIte, Nat.reduceEqDiff]; rfl) ?_
        refine hK8 _ _ ?_; clear hK8
        refine V_sr T.mix (by kernel_rfl) (fun K10 hK10 => ?_)
        refine S_mv rfl ?_
        refine S_mv rfl ?_
        refine S_call T.hb43 rfl ?_
        refine FC.mono (mlevelof_spec h M F s ms _) ?_
        rintro v' h' ⟨rfl, rfl⟩
        rw [p2]
        refine S_as rfl ?_
        refine S_nil (hK10 _ _ (V_keep [0, 2, 8, 9] (by simp only [proj, lk, reduceIte, Nat.reduceEqDiff]; rfl) ?_)); clear hK10
        refine V_seq (fun K11 hK11 => ?_)
        refine V_sr T.mix (by kernel_rfl) (fun K12 hK12 => ?_)
        refine S_mv rfl ?_
        refine S_mv rfl ?_
        refine S_bin rfl rfl rfl ?_
        refine S_nil (hK12 _ _ (V_keep [0, 2, 8, 9, 34] (by simp only [proj, lk, reduceIte, Nat.reduceEqDiff]; rfl) ?_)); clear hK12
        refine V_condp rfl (fun c175 => ?_) (fun c175 => ?_)
        · skip
          refine V_sr T.mix (by kernel_rfl) (fun K13 hK13 => ?_)
          refine S_mv rfl ?_
          refine S_as rfl ?_
          refine S_nil (hK13 _ _ (V_keep [6] (by simp only [proj, lk, reduceIte, Nat.reduceEqDiff]; rfl) ?_)); clear hK13
          refine V_ret ?_
          refine hR _ _ (ret1 rfl rfl ?_)
          exact ⟨by rw [hlb], hl0, rfl⟩
        · skip
          refine V_skipk [0, 2, 8, 9] (by simp only [proj, lk, reduceIte, Nat.reduceEqDiff]; rfl) ?_
          refine hK11 _ _ ?_; clear hK11
          refine V_seq (fun K14 hK14 => ?_)
          refine V_sr T.mix (by kernel_rfl) (fun K15 hK15 => ?_)
          refine S_mv rfl ?_
          refine S_mv rfl ?_
          first | refine S_add rfl rfl (by omega) (by omega) ?_ | refine S_bin rfl rfl rfl ?_
          refine S_bin rfl rfl rfl ?_
          refine S_nil (hK15 _ _ (V_keep [0, 8, 9, 39] (by simp only [proj, lk, reduceIte, Nat.reduceEqDiff]; rfl) ?_)); clear hK15
          refine V_condp rfl (fun c178 => ?_) (fun c178 => ?_)
          · skip
            exfalso; rcases hla with e | e; (exact c175 e); (exact c178 e.1)
          · skip
            refine V_skipk [0, 8, 9] (by simp only [proj, lk, reduceIte, Nat.reduceEqDiff]; rfl) ?_
            refine hK14 _ _ ?_; clear hK14
            refine V_seq (fun K16 hK16 => ?_)
            refine V_sr T.mix (by kernel_rfl) (fun K17 hK17 => ?_)
            refine S_mv rfl ?_
            refine S_mv rfl ?_
            refine S_call T.hb44 rfl ?_
            refine FC.mono (mreason_spec h M F s ms _) ?_
            rintro v' h' ⟨rfl, rfl⟩
            refine S_bin rfl rfl rfl ?_
            refine S_nil (hK17 _ _ (V_keep [9, 43] (by simp only [proj, lk, reduceIte, Nat.reduceEqDiff]; rfl) ?_)); clear hK17
            refine V_condp rfl (fun c181 => ?_) (fun c181 => ?_)
            · skip
              exfalso; rw [p3] at c181; rcases hla with e | e; (exact c175 e); (exact c181 e.2.1)
            · skip
              refine V_skipk [9] (by simp only [proj, lk, reduceIte, Nat.reduceEqDiff]; rfl) ?_
              refine hK16 _ _ ?_; clear hK16
              refine V_sr T.mix (by kernel_rfl) (fun K18 hK18 => ?_)
              refine S_mv rfl ?_
              refine S_as rfl ?_
              refine S_nil (hK18 _ _ (V_keep [6] (by simp only [proj, lk, reduceIte, Nat.reduceEqDiff]; rfl) ?_)); clear hK18
              refine V_ret ?_
              refine hR _ _ (ret1 rfl rfl ?_)
              exact ⟨by rw [hlb], hl0, rfl⟩
set_option maxHeartbeats 400000 in
theorem open_spec (h : Heap) (M : Nat) (F : Nat → Prop) (s : TS) (ms : MS h M F s) (v : Nat) (hv : 1 ≤ v) (hv2 : v ≤ 12) :
    FC Try.prog 46 (#[.pointer (some ⟨M, 0, none⟩), .int .i64 (v : Int)] : Array Value) h fun v h' => v = .bool true ∧ h = h' := by
  have hlen := TI.len ms.ok
  refine FC_of [(0, .pointer (some ⟨M, 0, none⟩)), (1, .int .i64 (v : Int))] Try.func46 rfl Try.ntmps46 (by simp) rfl (fun R hR => ?_)
  refine V_sr T.mix (by kernel_rfl) (fun K1 hK1 => ?_)
  refine S_as rfl ?_
  refine S_nil (hK1 _ _ (V_keep [0, 1] (by simp only [proj, lk, reduceIte, Nat.reduceEqDiff]; rfl) ?_)); clear hK1
  refine V_sr T.mix (by kernel_rfl) (fun K2 hK2 => ?_)
  refine S_mv rfl ?_
  refine S_mv rfl ?_
  refine S_call T.hb68 rfl ?_
  refine FC.mono (mplace_spec h M F s ms v) ?_
  rintro v' h' ⟨rfl, rfl⟩
  refine S_as rfl ?_
  refine S_nil (hK2 _ _ (V_keep [0, 1, 5] (by simp only [proj, lk, reduceIte, Nat.reduceEqDiff]; rfl) ?_)); clear hK2
  refine V_seq (fun K3 hK3 => ?_)
  refine V_sr T.mix (by kernel_rfl) (fun K4 hK4 => ?_)
  refine S_mv rfl ?_
  refine S_bin rfl rfl rfl ?_
  refine S_nil (hK4 _ _ (V_keep [0, 1, 5, 11] (by simp only [proj, lk, reduceIte, Nat.reduceEqDiff]; rfl) ?_)); clear hK4
  refine V_condp rfl (fun c191 => ?_) (fun c191 => ?_)
  · skip
    obtain ⟨n, hpn⟩ : ∃ n : Nat, plaV s.L v = n := ⟨(plaV s.L v).toNat, by omega⟩
    have hpl := plaV_lt (L := s.L) (v := v)
    obtain ⟨x, hx1, hx2, hx3⟩ := pla_item hpn
    have hat : atL s.L (plaV s.L v) = x.lit := by rw [hpn]; unfold atL; rw [if_pos (by omega), Int.toNat_natCast, hx2]
    have hgx := (ms.ok.g x (List.mem_of_getElem? hx1)).1
    unfold good at hgx
    have hvx := (loc_some hx3).2
    rw [vr_abs] at hvx
    refine V_sr T.mix (by kernel_rfl) (fun K5 hK5 => ?_)
    refine S_mv rfl ?_
    refine S_mv rfl ?_
    refine S_call T.hb26 rfl ?_
    refine FC.mono (mat_spec h M F s ms _) ?_
    rintro v' h' ⟨rfl, rfl⟩
    rw [hat]
    refine S_as rfl ?_
    refine S_nil (hK5 _ _ (V_keep [1, 6] (by simp only [proj, lk, reduceIte, Nat.reduceEqDiff]; rfl) ?_)); clear hK5
    refine V_sr T.mix (by kernel_rfl) (fun K6 hK6 => ?_)
    refine S_mv rfl ?_
    refine S_call T.hb42 rfl ?_
    refine FC.mono (var_spec _ x.lit (by omega) (by omega)) ?_
    rintro v' h' ⟨rfl, rfl⟩
    refine S_mv rfl ?_
    refine S_bin rfl rfl rfl ?_
    refine S_as rfl ?_
    refine S_nil (hK6 _ _ (V_keep [4] (by simp only [proj, lk, reduceIte, Nat.reduceEqDiff]; rfl) ?_)); clear hK6
    refine V_ret ?_
    refine hR _ _ (ret1 rfl rfl ?_)
    exact ⟨by simp; exact hvx, rfl⟩
  · skip
    have hnv := new_val (pla_new.1 (show plaV s.L (v : Int) < 0 by omega))
    refine V_skipk [0, 1] (by simp only [proj, lk, reduceIte, Nat.reduceEqDiff]; rfl) ?_
    refine hK3 _ _ ?_; clear hK3
    refine V_seq (fun K7 hK7 => ?_)
    refine V_sr T.mix (by kernel_rfl) (fun K8 hK8 => ?_)
    refine S_mv rfl ?_
    refine S_mv rfl ?_
    refine S_call T.hb23 rfl ?_
    refine FC.mono (mvalue_spec h M F s ms v) ?_
    rintro v' h' ⟨rfl, rfl⟩
    refine S_bin rfl rfl rfl ?_
    refine S_nil (hK8 _ _ (V_keep [0, 1, 22] (by simp only [proj, lk, reduceIte, Nat.reduceEqDiff]; rfl) ?_)); clear hK8
    refine V_condp rfl (fun c195 => ?_) (fun c195 => ?_)
    · skip
      exfalso; exact c195 ((valO_zero (by omega)).2 (by rw [show vr (v : Int) = v by unfold vr; rw [if_neg (by omega)]]; exact hnv.1))
    · skip
      refine V_skipk [0, 1] (by simp only [proj, lk, reduceIte, Nat.reduceEqDiff]; rfl) ?_
      refine hK7 _ _ ?_; clear hK7
      refine V_seq (fun K9 hK9 => ?_)
      refine V_sr T.mix (by kernel_rfl) (fun K10 hK10 => ?_)
      refine S_mv rfl ?_
      refine S_mv rfl ?_
      first | refine S_neg rfl (by omega) (by omega) ?_ | refine S_un rfl rfl ?_
      refine S_call T.hb23 rfl ?_
      refine FC.mono (mvalue_spec h M F s ms (-(v : Int))) ?_
      rintro v' h' ⟨rfl, rfl⟩
      refine S_bin rfl rfl rfl ?_
      refine S_nil (hK10 _ _ (V_keep [0, 1, 27] (by simp only [proj, lk, reduceIte, Nat.reduceEqDiff]; rfl) ?_)); clear hK10
      refine V_condp rfl (fun c198 => ?_) (fun c198 => ?_)
      · skip
        exfalso; exact c198 ((valO_zero (by omega)).2 (by rw [vr_neg, show vr (v : Int) = v by unfold vr; rw [if_neg (by omega)]]; exact hnv.1))
      · skip
        refine V_skipk [0, 1] (by simp only [proj, lk, reduceIte, Nat.reduceEqDiff]; rfl) ?_
        refine hK9 _ _ ?_; clear hK9
        refine V_seq (fun K11 hK11 => ?_)
        refine V_sr T.mix (by kernel_rfl) (fun K12 hK12 => ?_)
        refine S_mv rfl ?_
        refine S_mv rfl ?_
        refine S_call T.hb43 rfl ?_
        refine FC.mono (mlevelof_spec h M F s ms v) ?_
        rintro v' h' ⟨rfl, rfl⟩
        refine S_bin rfl rfl rfl ?_
        refine S_nil (hK12 _ _ (V_keep [0, 1, 31] (by simp only [proj, lk, reduceIte, Nat.reduceEqDiff]; rfl) ?_)); clear hK12
        refine V_condp rfl (fun c201 => ?_) (fun c201 => ?_)
        · skip
          exfalso; exact c201 hnv.2.1
        · skip
          refine V_skipk [0, 1] (by simp only [proj, lk, reduceIte, Nat.reduceEqDiff]; rfl) ?_
          refine hK11 _ _ ?_; clear hK11
          refine V_sr T.mix (by kernel_rfl) (fun K13 hK13 => ?_)
          refine S_mv rfl ?_
          refine S_mv rfl ?_
          refine S_call T.hb44 rfl ?_
          refine FC.mono (mreason_spec h M F s ms v) ?_
          rintro v' h' ⟨rfl, rfl⟩
          refine S_bin rfl rfl rfl ?_
          refine S_as rfl ?_
          refine S_nil (hK13 _ _ (V_keep [4] (by simp only [proj, lk, reduceIte, Nat.reduceEqDiff]; rfl) ?_)); clear hK13
          refine V_ret ?_
          refine hR _ _ (ret1 rfl rfl ?_)
          exact ⟨by rw [hnv.2.2.1]; simp, rfl⟩
set_option maxHeartbeats 400000 in
theorem keeps_spec (h : Heap) (M : Nat) (F : Nat → Prop) (s : TS) (ms : MS h M F s) :
    FC Try.prog 18 (#[.pointer (some ⟨M, 0, none⟩)] : Array Value) h fun v h' => v = .bool true ∧ h = h' := by
  have hlen := TI.len ms.ok
  have hcc := ms.ok.c
  refine FC_of [(0, .pointer (some ⟨M, 0, none⟩))] Try.func18 rfl Try.ntmps18 (by simp) rfl (fun R hR => ?_)
  refine V_sr T.mix (by kernel_rfl) (fun K1 hK1 => ?_)
  refine S_as rfl ?_
  refine S_nil (hK1 _ _ (V_keep [0] (by simp only [proj, lk, reduceIte, Nat.reduceEqDiff]; rfl) ?_)); clear hK1
  refine V_sr T.mix (by kernel_rfl) (fun K2 hK2 => ?_)
  refine S_mv rfl ?_
  refine S_call T.hb13 rfl ?_
  refine FC.mono (mlen_spec h M F s ms) ?_
  rintro v' h' ⟨rfl, rfl⟩
  refine S_as rfl ?_
  refine S_nil (hK2 _ _ (V_keep [0, 3] (by simp only [proj, lk, reduceIte, Nat.reduceEqDiff]; rfl) ?_)); clear hK2
  refine V_sr T.mix (by kernel_rfl) (fun K3 hK3 => ?_)
  refine S_as rfl ?_
  refine S_nil (hK3 _ _ (V_keep [0, 3, 4] (by simp only [proj, lk, reduceIte, Nat.reduceEqDiff]; rfl) ?_)); clear hK3
  refine V_seq (fun K4 hK4 => ?_)
  refine V_sr T.mix (by kernel_rfl) (fun K5 hK5 => ?_)
  refine S_as rfl ?_
  refine S_nil (hK5 _ _ (V_keep [0, 3, 4, 5] (by simp only [proj, lk, reduceIte, Nat.reduceEqDiff]; rfl) ?_)); clear hK5
  refine V_block ?_
  refine V_loop (fun m l h' => ∃ (i : Nat), (i ≤ s.L.length) ∧ m = s.L.length - i ∧ l = [(0, .pointer (some ⟨M, 0, none⟩)), (3, .int .i64 (s.L.length : Int)), (4, .int .i64 (lastL (s.L.take i) 0)), (5, .int .i64 (i : Int))] ∧ h = h') _ ⟨0, by omega, rfl, rfl, rfl⟩ ?_
  rintro m l h' ⟨i, hi, rfl, rfl, rfl⟩ K6 hK6
  refine V_seq (fun K7 hK7 => ?_)
  refine V_sr T.mix (by kernel_rfl) (fun K8 hK8 => ?_)
  refine S_mv rfl ?_
  refine S_mv rfl ?_
  refine S_bin rfl rfl rfl ?_
  refine S_nil (hK8 _ _ (V_keep [0, 3, 4, 5, 12] (by simp only [proj, lk, reduceIte, Nat.reduceEqDiff]; rfl) ?_)); clear hK8
  refine V_condp rfl (fun c212 => ?_) (fun c212 => ?_)
  · skip
    refine V_skipk [0, 3, 4, 5] (by simp only [proj, lk, reduceIte, Nat.reduceEqDiff]; rfl) ?_
    refine hK7 _ _ ?_; clear hK7
    refine V_seq (fun K9 hK9 => ?_)
    refine V_block ?_
    refine V_sr T.mix (by kernel_rfl) (fun K10 hK10 => ?_)
    refine S_mv rfl ?_
    refine S_mv rfl ?_
    refine S_mv rfl ?_
    refine S_call T.hb45 rfl ?_
    refine FC.mono (keepsat_spec h M F s ms i (by omega)) ?_
    rintro v' h' ⟨rfl, hk0, rfl⟩
    refine S_as rfl ?_
    refine S_nil (hK10 _ _ (V_keep [0, 3, 4, 5] (by simp only [proj, lk, reduceIte, Nat.reduceEqDiff]; rfl) ?_)); clear hK10
    refine V_sr T.mix (by kernel_rfl) (fun K11 hK11 => ?_)
    refine S_mv rfl ?_
    refine S_bin rfl rfl rfl ?_
    refine S_nil (hK11 _ _ (V_keep [0, 3, 4, 5, 20] (by simp only [proj, lk, reduceIte, Nat.reduceEqDiff]; rfl) ?_)); clear hK11
    refine V_condp rfl (fun c214 => ?_) (fun c214 => ?_)
    · skip
      exfalso; omega
    · skip
      refine V_skipk [0, 3, 4, 5] (by simp only [proj, lk, reduceIte, Nat.reduceEqDiff]; rfl) ?_
      refine hK9 _ _ ?_; clear hK9
      refine V_reg T.mix (by kernel_rfl) ?_
      refine S_mv rfl ?_
      first | refine S_add rfl rfl (by omega) (by omega) ?_ | refine S_bin rfl rfl rfl ?_
      refine S_as rfl ?_
      refine S_nilk [0, 3, 4, 5] (by simp only [proj, lk, reduceIte, Nat.reduceEqDiff]; rfl) ?_
      exact hK6 _ _ ⟨_, by omega, i + 1, by omega, rfl, rfl, rfl⟩
  · skip
    refine V_exitk [0, 3, 4] rfl (by simp only [proj, lk, reduceIte, Nat.reduceEqDiff]; rfl) ?_
    refine hK4 _ _ ?_; clear hK4
    refine V_seq (fun K12 hK12 => ?_)
    refine V_sr T.mix (by kernel_rfl) (fun K13 hK13 => ?_)
    refine S_mv rfl ?_
    refine S_call T.hb24 rfl ?_
    refine FC.mono (mlevel_spec h M F s ms) ?_
    rintro v' h' ⟨rfl, rfl⟩
    refine S_mv rfl ?_
    refine S_bin rfl rfl rfl ?_
    refine S_nil (hK13 _ _ (V_keep [0, 3, 24] (by simp only [proj, lk, reduceIte, Nat.reduceEqDiff]; rfl) ?_)); clear hK13
    refine V_condp rfl (fun c218 => ?_) (fun c218 => ?_)
    · skip
      exfalso; exact c218 (by have hii : i = s.L.length := (by omega); subst hii; rw [List.take_length, Lv_last ms.ok.lv])
    · skip
      refine V_skipk [0, 3] (by simp only [proj, lk, reduceIte, Nat.reduceEqDiff]; rfl) ?_
      refine hK12 _ _ ?_; clear hK12
      refine V_seq (fun K14 hK14 => ?_)
      refine V_sr T.mix (by kernel_rfl) (fun K15 hK15 => ?_)
      refine S_as rfl ?_
      refine S_nil (hK15 _ _ (V_keep [0, 3, 6] (by simp only [proj, lk, reduceIte, Nat.reduceEqDiff]; rfl) ?_)); clear hK15
      refine V_block ?_
      refine V_loop (fun m l h' => ∃ (v : Nat), (1 ≤ v) ∧ (v ≤ 13) ∧ m = 13 - v ∧ l = [(0, .pointer (some ⟨M, 0, none⟩)), (3, .int .i64 (s.L.length : Int)), (6, .int .i64 (v : Int))] ∧ h = h') _ ⟨1, by omega, by omega, rfl, rfl, rfl⟩ ?_
      rintro m l h' ⟨v, hv, hv2, rfl, rfl, rfl⟩ K16 hK16
      refine V_seq (fun K17 hK17 => ?_)
      refine V_sr T.mix (by kernel_rfl) (fun K18 hK18 => ?_)
      refine S_mv rfl ?_
      refine S_bin rfl rfl rfl ?_
      refine S_nil (hK18 _ _ (V_keep [0, 3, 6, 26] (by simp only [proj, lk, reduceIte, Nat.reduceEqDiff]; rfl) ?_)); clear hK18
      refine V_condp rfl (fun c221 => ?_) (fun c221 => ?_)
      · skip
        refine V_skipk [0, 3, 6] (by simp only [proj, lk, reduceIte, Nat.reduceEqDiff]; rfl) ?_
        refine hK17 _ _ ?_; clear hK17
        refine V_seq (fun K19 hK19 => ?_)
        refine V_block ?_
        refine V_sr T.mix (by kernel_rfl) (fun K20 hK20 => ?_)
        refine S_mv rfl ?_
        refine S_mv rfl ?_
        refine S_call T.hb46 rfl ?_
        refine FC.mono (open_spec h M F s ms v (by omega) (by omega)) ?_
        rintro v' h' ⟨rfl, rfl⟩
        refine S_notb rfl ?_
        refine S_nil (hK20 _ _ (V_keep [0, 3, 6, 32] (by simp only [proj, lk, reduceIte, Nat.reduceEqDiff]; rfl) ?_)); clear hK20
        refine V_condb rfl (fun c222 => ?_) (fun c222 => ?_)
        · skip
          cases c222
        · skip
          refine V_skipk [0, 3, 6] (by simp only [proj, lk, reduceIte, Nat.reduceEqDiff]; rfl) ?_
          refine hK19 _ _ ?_; clear hK19
          refine V_reg T.mix (by kernel_rfl) ?_
          refine S_mv rfl ?_
          first | refine S_add rfl rfl (by omega) (by omega) ?_ | refine S_bin rfl rfl rfl ?_
          refine S_as rfl ?_
          refine S_nilk [0, 3, 6] (by simp only [proj, lk, reduceIte, Nat.reduceEqDiff]; rfl) ?_
          exact hK16 _ _ ⟨_, by omega, v + 1, by omega, by omega, rfl, rfl, rfl⟩
      · skip
        refine V_exitk [0, 3] rfl (by simp only [proj, lk, reduceIte, Nat.reduceEqDiff]; rfl) ?_
        refine hK14 _ _ ?_; clear hK14
        refine V_sr T.mix (by kernel_rfl) (fun K21 hK21 => ?_)
        refine S_mv rfl ?_
        refine S_call T.hb25 rfl ?_
        refine FC.mono (mpending_spec h M F s ms) ?_
        rintro v' h' ⟨rfl, rfl⟩
        refine S_as rfl ?_
        refine S_nil (hK21 _ _ (V_keep [3, 7] (by simp only [proj, lk, reduceIte, Nat.reduceEqDiff]; rfl) ?_)); clear hK21
        refine V_sr T.mix (by kernel_rfl) (fun K22 hK22 => ?_)
        refine S_mv rfl ?_
        refine S_bin rfl rfl rfl ?_
        refine S_mv rfl ?_
        refine S_dec (fun g227 => ?_) (fun g227 => ?_)
        · skip
          refine S_gt rfl ?_
          refine S_mv rfl ?_
          refine S_gt rfl ?_
          refine S_mv rfl ?_
          refine S_gt rfl ?_
          refine S_bin rfl rfl rfl ?_
          refine S_pt rfl rfl ?_
          refine S_as rfl ?_
          refine S_nil (hK22 _ _ (V_keep [2] (by simp only [proj, lk, reduceIte, Nat.reduceEqDiff]; rfl) ?_)); clear hK22
          refine V_ret ?_
          refine hR _ _ (ret1 rfl rfl ?_)
          exact ⟨by simp; omega, rfl⟩
        · skip
          exfalso; omega
end Go.Proofs.Qxb6500402a
