import Derived.Test.Qxb6500401aGreatCd
set_option linter.unusedVariables false
set_option linter.unusedSimpArgs false
namespace Go.Proofs.Qxb6500401aGreat.ChkW
open Go.Eng Go.Cnf

def FlatN (x : Int) : Prop := x = 13 ∨ (-12 ≤ x ∧ x ≤ 12)
theorem numB_len {x : Int} (h : FlatN x) : (numB x).length = if x = 13 ∨ x = 0 then 2 else (if x < 0 then 1 else 0) + (if 10 ≤ x.natAbs then 1 else 0) + 2 := by
  unfold numB FlatN at *
  by_cases h1 : x = 13
  · simp [h1]
  · by_cases h2 : x = 0
    · simp [h2]
    · simp only [h1, h2, or_self, if_false, List.length_append]
      by_cases h3 : x < 0 <;> by_cases h4 : 10 ≤ x.natAbs <;> simp [h3, h4]
/-- the buffer: the bytes of L, then zeros -/
def bufG (L : List Nat) (j : Nat) : Int := if j < L.length then ((L.getD j 0 : Nat) : Int) else 0
theorem buf_put {h : Heap} {b n : Nat} {L : List Nat} {t : TypeId} (hB : B h b (arr n fun j => .int .u8 (bufG L j)) t) (c : Nat) : B (putH h ⟨b, L.length, none⟩ (.int .u8 (c : Int))) b (arr n fun j => .int .u8 (bufG (L ++ [c]) j)) t := by
  refine (hB.putA L.length _).cong (arr_ext fun j _ => ?_)
  unfold bufG
  by_cases h1 : j = L.length
  · subst h1; simp
  · rw [if_neg h1]; congr 1
    by_cases h2 : j < L.length
    · rw [if_pos h2, if_pos (by simp; omega)]; congr 1; simp [List.getD_eq_getElem?_getD, List.getElem?_append_left h2]
    · rw [if_neg h2, if_neg (by simp; omega)]
theorem buf_putE {h : Heap} {b n i : Nat} {L : List Nat} {t : TypeId} {v : Value} (hB : B h b (arr n fun j => .int .u8 (bufG L j)) t) (c : Nat) (hi : i = L.length) (hv : v = .int .u8 (c : Int)) : B (putH h ⟨b, i, none⟩ v) b (arr n fun j => .int .u8 (bufG (L ++ [c]) j)) t := by
  subst hi hv; exact buf_put hB c
theorem buf_str (L : List Nat) : mkS ((List.range L.length).map (bufG L)) = textOf L := by
  unfold mkS textOf
  congr 2
  refine List.ext_getElem? fun j => ?_
  by_cases hj : j < L.length
  · simp [hj, bufG]
  · simp [hj]
def printF (l : List Int) : ByteArray × Nat := if 262144 < l.length then (⟨#[]⟩, 1) else if flatOk l then (textOf (printB l), 0) else (⟨#[]⟩, 6)
theorem flat_rng {l : List Int} (h : flatOk l = true) : ∀ x ∈ l, FlatN x := by
  unfold flatOk at h
  simp only [Bool.and_eq_true, Option.isSome_iff_exists] at h
  obtain ⟨⟨c, hc⟩, _⟩ := h
  exact ckR_rng l _ c hc
theorem print_take {l : List Int} {i : Nat} (h : i < l.length) : printB (l.take (i + 1)) = printB (l.take i) ++ numB (l.getD i 0) := by
  rw [getD_snoc l i h]; simp [printB]
theorem print_take_le {l : List Int} (hr : ∀ x ∈ l, FlatN x) (i : Nat) : (printB (l.take i)).length ≤ 4 * l.length := by
  have := (printB_len (l.take i) (fun x hx => hr x (List.mem_of_mem_take hx))).1
  have h2 : (l.take i).length ≤ l.length := by simp; omega
  omega
theorem print_pre {l : List Int} {i : Nat} (h : i < l.length) : (printB (l.take i)).length + (numB (l.getD i 0)).length ≤ (printB l).length := by
  have e : printB l = printB (l.take (i + 1)) ++ printB (l.drop (i + 1)) := by unfold printB; rw [← List.flatMap_append, List.take_append_drop]
  rw [e, print_take h, List.length_append, List.length_append]; omega
set_option maxHeartbeats 400000 in
theorem width_spec (h : Heap) (x : Int) (hx : FlatN x) :
    FC Tryz.prog 131 (#[.int .i64 x] : Array Value) h fun v h' => v = .int .i64 ((numB x).length : Nat) ∧ h = h' := by
  have hl := numB_len hx
  unfold FlatN at hx
  refine FC_of [(0, .int .i64 x)] Tryz.func131 rfl Tryz.ntmps131 (by simp) rfl (fun R hR => ?_)
  refine V_sr T.mix (by kernel_rfl) (fun K1 hK1 => ?_)
  refine S_as rfl ?_
  refine S_nil (hK1 _ _ (V_keep [0] (by simp only [proj, lk, reduceIte, Nat.reduceEqDiff]; rfl) ?_)); clear hK1
  refine V_seq (fun K2 hK2 => ?_)
  refine V_sr T.mix (by kernel_rfl) (fun K3 hK3 => ?_)
  refine S_cut (K' := fun l h' => ∃ b : Bool, (b = true ↔ (x = 13 ∨ x = 0)) ∧ l = [(0, .int .i64 x), (9, .bool b)] ∧ h = h') ?_ ?_
  · skip
    refine S_mv rfl ?_
    refine S_bin rfl rfl rfl ?_
    refine S_mv rfl ?_
    refine S_dec (fun g7 => ?_) (fun g7 => ?_)
    · skip
      refine S_gf rfl ?_
      refine S_gf rfl ?_
      refine S_pt rfl rfl ?_
      exact S_nilk [0, 9] (by simp only [proj, lk, reduceIte, Nat.reduceEqDiff]; rfl) ⟨_, (by first | (simp [*]; done) | (simp; omega)), rfl, rfl⟩
    · skip
      refine S_gt rfl ?_
      refine S_mv rfl ?_
      refine S_gt rfl ?_
      refine S_bin rfl rfl rfl ?_
      refine S_pf rfl rfl ?_
      exact S_nilk [0, 9] (by simp only [proj, lk, reduceIte, Nat.reduceEqDiff]; rfl) ⟨_, (by first | (simp [*]; done) | (simp; omega)), rfl, rfl⟩
  rintro l h' ⟨b, hb7, rfl, rfl⟩
  refine hK3 _ _ ?_; clear hK3
  refine V_condb rfl (fun c7 => ?_) (fun c7 => ?_)
  · replace c7 := hb7.1 c7
    refine V_sr T.mix (by kernel_rfl) (fun K5 hK5 => ?_)
    refine S_as rfl ?_
    refine S_nil (hK5 _ _ (V_keep [2] (by simp only [proj, lk, reduceIte, Nat.reduceEqDiff]; rfl) ?_)); clear hK5
    refine V_ret ?_
    refine hR _ _ (ret1 rfl rfl ?_)
    refine ⟨?_, rfl⟩
    congr 1
    repeat (first | rw [if_pos (by omega)] at hl | rw [if_neg (by omega)] at hl)
    omega
  · replace c7 : ¬ _ := fun hp => Bool.false_ne_true (c7.symm.trans (hb7.2 hp))
    refine V_skipk [0] (by simp only [proj, lk, reduceIte, Nat.reduceEqDiff]; rfl) ?_
    refine hK2 _ _ ?_; clear hK2
    refine V_sr T.mix (by kernel_rfl) (fun K6 hK6 => ?_)
    refine S_as rfl ?_
    refine S_nil (hK6 _ _ (V_keep [0, 3] (by simp only [proj, lk, reduceIte, Nat.reduceEqDiff]; rfl) ?_)); clear hK6
    refine V_seq (fun K7 hK7 => ?_)
    refine V_sr T.mix (by kernel_rfl) (fun K8 hK8 => ?_)
    refine S_mv rfl ?_
    refine S_bin rfl rfl rfl ?_
    refine S_nil (hK8 _ _ (V_keep [0, 3, 11] (by simp only [proj, lk, reduceIte, Nat.reduceEqDiff]; rfl) ?_)); clear hK8
    refine V_condp rfl (fun c11 => ?_) (fun c11 => ?_)
    · skip
      refine V_sr T.mix (by kernel_rfl) (fun K9 hK9 => ?_)
      refine S_mv rfl ?_
      first | refine S_add rfl rfl (by omega) (by omega) ?_ | refine S_bin rfl rfl rfl ?_
      refine S_as rfl ?_
      refine S_nil (hK9 _ _ (V_keep [0, 3] (by simp only [proj, lk, reduceIte, Nat.reduceEqDiff]; rfl) ?_)); clear hK9
      refine V_reg T.mix (by kernel_rfl) ?_
      refine S_mv rfl ?_
      first | refine S_neg rfl (by omega) (by omega) ?_ | refine S_un rfl rfl ?_
      refine S_as rfl ?_
      refine S_nilk [0, 3] (by simp only [proj, lk, reduceIte, Nat.reduceEqDiff]; rfl) ?_
      refine hK7 _ _ ?_; clear hK7
      refine V_seq (fun K10 hK10 => ?_)
      refine V_sr T.mix (by kernel_rfl) (fun K11 hK11 => ?_)
      refine S_mv rfl ?_
      refine S_bin rfl rfl rfl ?_
      refine S_nil (hK11 _ _ (V_keep [3, 17] (by simp only [proj, lk, reduceIte, Nat.reduceEqDiff]; rfl) ?_)); clear hK11
      refine V_condp rfl (fun c15 => ?_) (fun c15 => ?_)
      · skip
        refine V_reg T.mix (by kernel_rfl) ?_
        refine S_mv rfl ?_
        first | refine S_add rfl rfl (by omega) (by omega) ?_ | refine S_bin rfl rfl rfl ?_
        refine S_as rfl ?_
        refine S_nilk [3] (by simp only [proj, lk, reduceIte, Nat.reduceEqDiff]; rfl) ?_
        refine hK10 _ _ ?_; clear hK10
        refine V_sr T.mix (by kernel_rfl) (fun K12 hK12 => ?_)
        refine S_mv rfl ?_
        refine S_as rfl ?_
        refine S_nil (hK12 _ _ (V_keep [2] (by simp only [proj, lk, reduceIte, Nat.reduceEqDiff]; rfl) ?_)); clear hK12
        refine V_ret ?_
        refine hR _ _ (ret1 rfl rfl ?_)
        refine ⟨?_, rfl⟩
        congr 1
        repeat (first | rw [if_pos (by omega)] at hl | rw [if_neg (by omega)] at hl)
        omega
      · skip
        refine V_skipk [3] (by simp only [proj, lk, reduceIte, Nat.reduceEqDiff]; rfl) ?_
        refine hK10 _ _ ?_; clear hK10
        refine V_sr T.mix (by kernel_rfl) (fun K13 hK13 => ?_)
        refine S_mv rfl ?_
        refine S_as rfl ?_
        refine S_nil (hK13 _ _ (V_keep [2] (by simp only [proj, lk, reduceIte, Nat.reduceEqDiff]; rfl) ?_)); clear hK13
        refine V_ret ?_
        refine hR _ _ (ret1 rfl rfl ?_)
        refine ⟨?_, rfl⟩
        congr 1
        repeat (first | rw [if_pos (by omega)] at hl | rw [if_neg (by omega)] at hl)
        omega
    · skip
      refine V_skipk [0, 3] (by simp only [proj, lk, reduceIte, Nat.reduceEqDiff]; rfl) ?_
      refine hK7 _ _ ?_; clear hK7
      refine V_seq (fun K14 hK14 => ?_)
      refine V_sr T.mix (by kernel_rfl) (fun K15 hK15 => ?_)
      refine S_mv rfl ?_
      refine S_bin rfl rfl rfl ?_
      refine S_nil (hK15 _ _ (V_keep [3, 17] (by simp only [proj, lk, reduceIte, Nat.reduceEqDiff]; rfl) ?_)); clear hK15
      refine V_condp rfl (fun c15a => ?_) (fun c15a => ?_)
      · skip
        refine V_reg T.mix (by kernel_rfl) ?_
        refine S_mv rfl ?_
        first | refine S_add rfl rfl (by omega) (by omega) ?_ | refine S_bin rfl rfl rfl ?_
        refine S_as rfl ?_
        refine S_nilk [3] (by simp only [proj, lk, reduceIte, Nat.reduceEqDiff]; rfl) ?_
        refine hK14 _ _ ?_; clear hK14
        refine V_sr T.mix (by kernel_rfl) (fun K16 hK16 => ?_)
        refine S_mv rfl ?_
        refine S_as rfl ?_
        refine S_nil (hK16 _ _ (V_keep [2] (by simp only [proj, lk, reduceIte, Nat.reduceEqDiff]; rfl) ?_)); clear hK16
        refine V_ret ?_
        refine hR _ _ (ret1 rfl rfl ?_)
        refine ⟨?_, rfl⟩
        congr 1
        repeat (first | rw [if_pos (by omega)] at hl | rw [if_neg (by omega)] at hl)
        omega
      · skip
        refine V_skipk [3] (by simp only [proj, lk, reduceIte, Nat.reduceEqDiff]; rfl) ?_
        refine hK14 _ _ ?_; clear hK14
        refine V_sr T.mix (by kernel_rfl) (fun K17 hK17 => ?_)
        refine S_mv rfl ?_
        refine S_as rfl ?_
        refine S_nil (hK17 _ _ (V_keep [2] (by simp only [proj, lk, reduceIte, Nat.reduceEqDiff]; rfl) ?_)); clear hK17
        refine V_ret ?_
        refine hR _ _ (ret1 rfl rfl ?_)
        refine ⟨?_, rfl⟩
        congr 1
        repeat (first | rw [if_pos (by omega)] at hl | rw [if_neg (by omega)] at hl)
        omega
set_option maxHeartbeats 400000 in
theorem lay_spec (h : Heap) (b n : Nat) (L : List Nat) (x : Int) (hB : B h b (arr n fun j => .int .u8 (bufG L j)) 5) (hx : FlatN x) (hn : n ≤ 1048577) (hf : L.length + (numB x).length ≤ n) :
    FC Tryz.prog 132 (#[.slice (some ⟨b, 0, none⟩) n n, .int .i64 L.length, .int .i64 x] : Array Value) h fun v h' => v = .int .i64 ((L ++ numB x).length : Nat) ∧ B h' b (arr n fun j => .int .u8 (bufG (L ++ numB x) j)) 5 ∧ Ext (fun k => k = b) h h' := by
  have hl := numB_len hx
  unfold FlatN at hx
  have hE := Ext.refl (fun k => k = b) h
  refine FC_of [(0, .slice (some ⟨b, 0, none⟩) n n), (1, .int .i64 L.length), (2, .int .i64 x)] Tryz.func132 rfl Tryz.ntmps132 (by simp) rfl (fun R hR => ?_)
  refine V_sr T.mix (by kernel_rfl) (fun K1 hK1 => ?_)
  refine S_as rfl ?_
  refine S_nil (hK1 _ _ (V_keep [0, 1, 2] (by simp only [proj, lk, reduceIte, Nat.reduceEqDiff]; rfl) ?_)); clear hK1
  refine V_seq (fun K2 hK2 => ?_)
  refine V_sr T.mix (by kernel_rfl) (fun K3 hK3 => ?_)
  refine S_mv rfl ?_
  refine S_bin rfl rfl rfl ?_
  refine S_nil (hK3 _ _ (V_keep [0, 1, 2, 8] (by simp only [proj, lk, reduceIte, Nat.reduceEqDiff]; rfl) ?_)); clear hK3
  refine V_condp rfl (fun c23 => ?_) (fun c23 => ?_)
  · skip
    rw [if_pos (by omega)] at hl
    refine V_sr T.mix (by kernel_rfl) (fun K4 hK4 => ?_)
    refine S_mv rfl ?_
    refine S_mv rfl ?_
    refine S_mv rfl ?_
    refine S_mv rfl ?_
    first | refine S_add rfl rfl (by omega) (by omega) ?_ | refine S_bin rfl rfl rfl ?_
    first | refine S_ixn T.el61 rfl rfl (by omega) ?_ | refine S_ix1 T.el61 rfl rfl (by omega) (by omega) ?_ | refine S_ix T.el61 rfl rfl (by omega) (by omega) ?_
    refine S_st T.sz5 rfl rfl rfl rfl (by simp (disch := omega) only [hB.okA]) ?_
    generalize hh : putH _ _ _ = h1
    replace hB : B h1 b (arr n fun j => .int .u8 (bufG (L ++ [100]) j)) 5 := by rw [← hh]; exact buf_putE hB (100) (by first | rfl | omega | (simp only [List.length_append, List.length_singleton]; omega)) (rfl)
    replace hE : Ext (fun k => k = b) h h1 := by rw [← hh]; exact hE.trans (Ext.put _ _ rfl)
    clear hh
    first | refine S_ixn T.el61 rfl rfl (by omega) ?_ | refine S_ix1 T.el61 rfl rfl (by omega) (by omega) ?_ | refine S_ix T.el61 rfl rfl (by omega) (by omega) ?_
    refine S_st T.sz5 rfl rfl rfl rfl (by simp (disch := omega) only [hB.okA]) ?_
    generalize hh : putH _ _ _ = h2
    replace hB : B h2 b (arr n fun j => .int .u8 (bufG (L ++ [100] ++ [32]) j)) 5 := by rw [← hh]; exact buf_putE hB (32) (by first | rfl | omega | (simp only [List.length_append, List.length_singleton]; omega)) (rfl)
    replace hE : Ext (fun k => k = b) h h2 := by rw [← hh]; exact hE.trans (Ext.put _ _ rfl)
    clear hh
    refine S_nil (hK4 _ _ (V_keep [1] (by simp only [proj, lk, reduceIte, Nat.reduceEqDiff]; rfl) ?_)); clear hK4
    refine V_sr T.mix (by kernel_rfl) (fun K5 hK5 => ?_)
    refine S_mv rfl ?_
    first | refine S_add rfl rfl (by omega) (by omega) ?_ | refine S_bin rfl rfl rfl ?_
    refine S_as rfl ?_
    refine S_nil (hK5 _ _ (V_keep [6] (by simp only [proj, lk, reduceIte, Nat.reduceEqDiff]; rfl) ?_)); clear hK5
    refine V_ret ?_
    refine hR _ _ (ret1 rfl rfl ?_)
    have e : numB x = [100, 32] := by unfold numB; rw [if_pos c23]
    refine ⟨by rw [e]; congr 1; simp only [List.length_append, List.length_cons, List.length_nil]; omega, by rw [e]; simpa using hB, hE⟩
  · skip
    refine V_skipk [0, 1, 2] (by simp only [proj, lk, reduceIte, Nat.reduceEqDiff]; rfl) ?_
    refine hK2 _ _ ?_; clear hK2
    refine V_seq (fun K6 hK6 => ?_)
    refine V_sr T.mix (by kernel_rfl) (fun K7 hK7 => ?_)
    refine S_mv rfl ?_
    refine S_bin rfl rfl rfl ?_
    refine S_nil (hK7 _ _ (V_keep [0, 1, 2, 19] (by simp only [proj, lk, reduceIte, Nat.reduceEqDiff]; rfl) ?_)); clear hK7
    refine V_condp rfl (fun c27 => ?_) (fun c27 => ?_)
    · skip
      rw [if_pos (by omega)] at hl
      refine V_sr T.mix (by kernel_rfl) (fun K8 hK8 => ?_)
      refine S_mv rfl ?_
      refine S_mv rfl ?_
      refine S_mv rfl ?_
      refine S_mv rfl ?_
      first | refine S_add rfl rfl (by omega) (by omega) ?_ | refine S_bin rfl rfl rfl ?_
      first | refine S_ixn T.el61 rfl rfl (by omega) ?_ | refine S_ix1 T.el61 rfl rfl (by omega) (by omega) ?_ | refine S_ix T.el61 rfl rfl (by omega) (by omega) ?_
      refine S_st T.sz5 rfl rfl rfl rfl (by simp (disch := omega) only [hB.okA]) ?_
      generalize hh : putH _ _ _ = h1
      replace hB : B h1 b (arr n fun j => .int .u8 (bufG (L ++ [48]) j)) 5 := by rw [← hh]; exact buf_putE hB (48) (by first | rfl | omega | (simp only [List.length_append, List.length_singleton]; omega)) (rfl)
      replace hE : Ext (fun k => k = b) h h1 := by rw [← hh]; exact hE.trans (Ext.put _ _ rfl)
      clear hh
      first | refine S_ixn T.el61 rfl rfl (by omega) ?_ | refine S_ix1 T.el61 rfl rfl (by omega) (by omega) ?_ | refine S_ix T.el61 rfl rfl (by omega) (by omega) ?_
      refine S_st T.sz5 rfl rfl rfl rfl (by simp (disch := omega) only [hB.okA]) ?_
      generalize hh : putH _ _ _ = h2
      replace hB : B h2 b (arr n fun j => .int .u8 (bufG (L ++ [48] ++ [10]) j)) 5 := by rw [← hh]; exact buf_putE hB (10) (by first | rfl | omega | (simp only [List.length_append, List.length_singleton]; omega)) (rfl)
      replace hE : Ext (fun k => k = b) h h2 := by rw [← hh]; exact hE.trans (Ext.put _ _ rfl)
      clear hh
      refine S_nil (hK8 _ _ (V_keep [1] (by simp only [proj, lk, reduceIte, Nat.reduceEqDiff]; rfl) ?_)); clear hK8
      refine V_sr T.mix (by kernel_rfl) (fun K9 hK9 => ?_)
      refine S_mv rfl ?_
      first | refine S_add rfl rfl (by omega) (by omega) ?_ | refine S_bin rfl rfl rfl ?_
      refine S_as rfl ?_
      refine S_nil (hK9 _ _ (V_keep [6] (by simp only [proj, lk, reduceIte, Nat.reduceEqDiff]; rfl) ?_)); clear hK9
      refine V_ret ?_
      refine hR _ _ (ret1 rfl rfl ?_)
      have e : numB x = [48, 10] := by unfold numB; rw [if_neg c23, if_pos c27]
      refine ⟨by rw [e]; congr 1; simp only [List.length_append, List.length_cons, List.length_nil]; omega, by rw [e]; simpa using hB, hE⟩
    · skip
      rw [if_neg (by omega)] at hl
      refine V_skipk [0, 1, 2] (by simp only [proj, lk, reduceIte, Nat.reduceEqDiff]; rfl) ?_
      refine hK6 _ _ ?_; clear hK6
      refine V_seq (fun K10 hK10 => ?_)
      refine V_sr T.mix (by kernel_rfl) (fun K11 hK11 => ?_)
      refine S_mv rfl ?_
      refine S_bin rfl rfl rfl ?_
      refine S_nil (hK11 _ _ (V_keep [0, 1, 2, 30] (by simp only [proj, lk, reduceIte, Nat.reduceEqDiff]; rfl) ?_)); clear hK11
      refine V_condp rfl (fun c31 => ?_) (fun c31 => ?_)
      · skip
        rw [if_pos c31] at hl
        refine V_sr T.mix (by kernel_rfl) (fun K12 hK12 => ?_)
        refine S_mv rfl ?_
        refine S_mv rfl ?_
        first | refine S_ixn T.el61 rfl rfl (by omega) ?_ | refine S_ix1 T.el61 rfl rfl (by omega) (by omega) ?_ | refine S_ix T.el61 rfl rfl (by omega) (by omega) ?_
        refine S_st T.sz5 rfl rfl rfl rfl (by simp (disch := omega) only [hB.okA]) ?_
        generalize hh : putH _ _ _ = h1
        replace hB : B h1 b (arr n fun j => .int .u8 (bufG (L ++ [45]) j)) 5 := by rw [← hh]; exact buf_putE hB (45) (by first | rfl | omega | (simp only [List.length_append, List.length_singleton]; omega)) (rfl)
        replace hE : Ext (fun k => k = b) h h1 := by rw [← hh]; exact hE.trans (Ext.put _ _ rfl)
        clear hh
        refine S_nil (hK12 _ _ (V_keep [0, 1, 2] (by simp only [proj, lk, reduceIte, Nat.reduceEqDiff]; rfl) ?_)); clear hK12
        refine V_sr T.mix (by kernel_rfl) (fun K13 hK13 => ?_)
        refine S_mv rfl ?_
        first | refine S_add rfl rfl (by omega) (by omega) ?_ | refine S_bin rfl rfl rfl ?_
        refine S_as rfl ?_
        refine S_nil (hK13 _ _ (V_keep [0, 1, 2] (by simp only [proj, lk, reduceIte, Nat.reduceEqDiff]; rfl) ?_)); clear hK13
        refine V_reg T.mix (by kernel_rfl) ?_
        refine S_mv rfl ?_
        first | refine S_neg rfl (by omega) (by omega) ?_ | refine S_un rfl rfl ?_
        refine S_as rfl ?_
        refine S_nilk [0, 1, 2] (by simp only [proj, lk, reduceIte, Nat.reduceEqDiff]; rfl) ?_
        refine hK10 _ _ ?_; clear hK10
        refine V_seq (fun K14 hK14 => ?_)
        refine V_sr T.mix (by kernel_rfl) (fun K15 hK15 => ?_)
        refine S_mv rfl ?_
        refine S_bin rfl rfl rfl ?_
        refine S_nil (hK15 _ _ (V_keep [0, 1, 2, 39] (by simp only [proj, lk, reduceIte, Nat.reduceEqDiff]; rfl) ?_)); clear hK15
        refine V_condp rfl (fun c36 => ?_) (fun c36 => ?_)
        · skip
          rw [if_pos (show 10 ≤ x.natAbs by omega)] at hl
          refine V_sr T.mix (by kernel_rfl) (fun K16 hK16 => ?_)
          refine S_mv rfl ?_
          refine S_mv rfl ?_
          refine S_mv rfl ?_
          refine S_quo rfl rfl (by omega) (by omega) (by omega) ?_
          first | refine S_add rfl rfl (by omega) (by omega) ?_ | refine S_bin rfl rfl rfl ?_
          first | refine S_cvb T.us3 T.in5 rfl (by omega) (by omega) ?_ | refine S_cv T.us3 T.in5 rfl ?_
          first | refine S_ixn T.el61 rfl rfl (by omega) ?_ | refine S_ix1 T.el61 rfl rfl (by omega) (by omega) ?_ | refine S_ix T.el61 rfl rfl (by omega) (by omega) ?_
          refine S_st T.sz5 rfl rfl rfl rfl (by simp (disch := omega) only [hB.okA]) ?_
          generalize hh : putH _ _ _ = h2
          replace hB : B h2 b (arr n fun j => .int .u8 (bufG (L ++ [45] ++ [48 + x.natAbs / 10]) j)) 5 := by rw [← hh]; exact buf_putE hB (48 + x.natAbs / 10) (by first | rfl | omega | (simp only [List.length_append, List.length_singleton]; omega)) (by congr 1; omega)
          replace hE : Ext (fun k => k = b) h h2 := by rw [← hh]; exact hE.trans (Ext.put _ _ rfl)
          clear hh
          refine S_nil (hK16 _ _ (V_keep [0, 1, 2] (by simp only [proj, lk, reduceIte, Nat.reduceEqDiff]; rfl) ?_)); clear hK16
          refine V_sr T.mix (by kernel_rfl) (fun K17 hK17 => ?_)
          refine S_mv rfl ?_
          first | refine S_add rfl rfl (by omega) (by omega) ?_ | refine S_bin rfl rfl rfl ?_
          refine S_as rfl ?_
          refine S_nil (hK17 _ _ (V_keep [0, 1, 2] (by simp only [proj, lk, reduceIte, Nat.reduceEqDiff]; rfl) ?_)); clear hK17
          refine V_reg T.mix (by kernel_rfl) ?_
          refine S_mv rfl ?_
          refine S_rem rfl rfl (by omega) (by omega) ?_
          refine S_as rfl ?_
          refine S_nilk [0, 1, 2] (by simp only [proj, lk, reduceIte, Nat.reduceEqDiff]; rfl) ?_
          refine hK14 _ _ ?_; clear hK14
          refine V_sr T.mix (by kernel_rfl) (fun K18 hK18 => ?_)
          refine S_mv rfl ?_
          refine S_mv rfl ?_
          refine S_mv rfl ?_
          refine S_mv rfl ?_
          first | refine S_add rfl rfl (by omega) (by omega) ?_ | refine S_bin rfl rfl rfl ?_
          refine S_mv rfl ?_
          first | refine S_add rfl rfl (by omega) (by omega) ?_ | refine S_bin rfl rfl rfl ?_
          first | refine S_cvb T.us3 T.in5 rfl (by omega) (by omega) ?_ | refine S_cv T.us3 T.in5 rfl ?_
          first | refine S_ixn T.el61 rfl rfl (by omega) ?_ | refine S_ix1 T.el61 rfl rfl (by omega) (by omega) ?_ | refine S_ix T.el61 rfl rfl (by omega) (by omega) ?_
          refine S_st T.sz5 rfl rfl rfl rfl (by simp (disch := omega) only [hB.okA]) ?_
          generalize hh : putH _ _ _ = h3
          replace hB : B h3 b (arr n fun j => .int .u8 (bufG (L ++ [45] ++ [48 + x.natAbs / 10] ++ [48 + x.natAbs % 10]) j)) 5 := by rw [← hh]; exact buf_putE hB (48 + x.natAbs % 10) (by first | rfl | omega | (simp only [List.length_append, List.length_singleton]; omega)) (by congr 1; omega)
          replace hE : Ext (fun k => k = b) h h3 := by rw [← hh]; exact hE.trans (Ext.put _ _ rfl)
          clear hh
          first | refine S_ixn T.el61 rfl rfl (by omega) ?_ | refine S_ix1 T.el61 rfl rfl (by omega) (by omega) ?_ | refine S_ix T.el61 rfl rfl (by omega) (by omega) ?_
          refine S_st T.sz5 rfl rfl rfl rfl (by simp (disch := omega) only [hB.okA]) ?_
          generalize hh : putH _ _ _ = h4
          replace hB : B h4 b (arr n fun j => .int .u8 (bufG (L ++ [45] ++ [48 + x.natAbs / 10] ++ [48 + x.natAbs % 10] ++ [32]) j)) 5 := by rw [← hh]; exact buf_putE hB (32) (by first | rfl | omega | (simp only [List.length_append, List.length_singleton]; omega)) (rfl)
          replace hE : Ext (fun k => k = b) h h4 := by rw [← hh]; exact hE.trans (Ext.put _ _ rfl)
          clear hh
          refine S_nil (hK18 _ _ (V_keep [1] (by simp only [proj, lk, reduceIte, Nat.reduceEqDiff]; rfl) ?_)); clear hK18
          refine V_sr T.mix (by kernel_rfl) (fun K19 hK19 => ?_)
          refine S_mv rfl ?_
          first | refine S_add rfl rfl (by omega) (by omega) ?_ | refine S_bin rfl rfl rfl ?_
          refine S_as rfl ?_
          refine S_nil (hK19 _ _ (V_keep [6] (by simp only [proj, lk, reduceIte, Nat.reduceEqDiff]; rfl) ?_)); clear hK19
          refine V_ret ?_
          refine hR _ _ (ret1 rfl rfl ?_)
          have e : numB x = [45, 48 + x.natAbs / 10, 48 + x.natAbs % 10, 32] := by unfold numB; rw [if_neg c23, if_neg c27, if_pos c31, if_pos (by omega)]; rfl
          refine ⟨by rw [e]; congr 1; simp only [List.length_append, List.length_cons, List.length_nil]; omega, by rw [e]; simpa using hB, hE⟩
        · skip
          rw [if_neg (show ¬ 10 ≤ x.natAbs by omega)] at hl
          refine V_skipk [0, 1, 2] (by simp only [proj, lk, reduceIte, Nat.reduceEqDiff]; rfl) ?_
          refine hK14 _ _ ?_; clear hK14
          refine V_sr T.mix (by kernel_rfl) (fun K20 hK20 => ?_)
          refine S_mv rfl ?_
          refine S_mv rfl ?_
          refine S_mv rfl ?_
          refine S_mv rfl ?_
          first | refine S_add rfl rfl (by omega) (by omega) ?_ | refine S_bin rfl rfl rfl ?_
          refine S_mv rfl ?_
          first | refine S_add rfl rfl (by omega) (by omega) ?_ | refine S_bin rfl rfl rfl ?_
          first | refine S_cvb T.us3 T.in5 rfl (by omega) (by omega) ?_ | refine S_cv T.us3 T.in5 rfl ?_
          first | refine S_ixn T.el61 rfl rfl (by omega) ?_ | refine S_ix1 T.el61 rfl rfl (by omega) (by omega) ?_ | refine S_ix T.el61 rfl rfl (by omega) (by omega) ?_
          refine S_st T.sz5 rfl rfl rfl rfl (by simp (disch := omega) only [hB.okA]) ?_
          generalize hh : putH _ _ _ = h3
          replace hB : B h3 b (arr n fun j => .int .u8 (bufG (L ++ [45] ++ [48 + x.natAbs % 10]) j)) 5 := by rw [← hh]; exact buf_putE hB (48 + x.natAbs % 10) (by first | rfl | omega | (simp only [List.length_append, List.length_singleton]; omega)) (by congr 1; omega)
          replace hE : Ext (fun k => k = b) h h3 := by rw [← hh]; exact hE.trans (Ext.put _ _ rfl)
          clear hh
          first | refine S_ixn T.el61 rfl rfl (by omega) ?_ | refine S_ix1 T.el61 rfl rfl (by omega) (by omega) ?_ | refine S_ix T.el61 rfl rfl (by omega) (by omega) ?_
          refine S_st T.sz5 rfl rfl rfl rfl (by simp (disch := omega) only [hB.okA]) ?_
          generalize hh : putH _ _ _ = h4
          replace hB : B h4 b (arr n fun j => .int .u8 (bufG (L ++ [45] ++ [48 + x.natAbs % 10] ++ [32]) j)) 5 := by rw [← hh]; exact buf_putE hB (32) (by first | rfl | omega | (simp only [List.length_append, List.length_singleton]; omega)) (rfl)
          replace hE : Ext (fun k => k = b) h h4 := by rw [← hh]; exact hE.trans (Ext.put _ _ rfl)
          clear hh
          refine S_nil (hK20 _ _ (V_keep [1] (by simp only [proj, lk, reduceIte, Nat.reduceEqDiff]; rfl) ?_)); clear hK20
          refine V_sr T.mix (by kernel_rfl) (fun K21 hK21 => ?_)
          refine S_mv rfl ?_
          first | refine S_add rfl rfl (by omega) (by omega) ?_ | refine S_bin rfl rfl rfl ?_
          refine S_as rfl ?_
          refine S_nil (hK21 _ _ (V_keep [6] (by simp only [proj, lk, reduceIte, Nat.reduceEqDiff]; rfl) ?_)); clear hK21
          refine V_ret ?_
          refine hR _ _ (ret1 rfl rfl ?_)
          have e : numB x = [45, 48 + x.natAbs % 10, 32] := by unfold numB; rw [if_neg c23, if_neg c27, if_pos c31, if_neg (by omega)]; rfl
          refine ⟨by rw [e]; congr 1; simp only [List.length_append, List.length_cons, List.length_nil]; omega, by rw [e]; simpa using hB, hE⟩
      · skip
        rw [if_neg c31] at hl
        refine V_skipk [0, 1, 2] (by simp only [proj, lk, reduceIte, Nat.reduceEqDiff]; rfl) ?_
        refine hK10 _ _ ?_; clear hK10
        refine V_seq (fun K22 hK22 => ?_)
        refine V_sr T.mix (by kernel_rfl) (fun K23 hK23 => ?_)
        refine S_mv rfl ?_
        refine S_bin rfl rfl rfl ?_
        refine S_nil (hK23 _ _ (V_keep [0, 1, 2, 39] (by simp only [proj, lk, reduceIte, Nat.reduceEqDiff]; rfl) ?_)); clear hK23
        refine V_condp rfl (fun c36a => ?_) (fun c36a => ?_)
        · skip
          rw [if_pos (show 10 ≤ x.natAbs by omega)] at hl
          refine V_sr T.mix (by kernel_rfl) (fun K24 hK24 => ?_)
          refine S_mv rfl ?_
          refine S_mv rfl ?_
          refine S_mv rfl ?_
          refine S_quo rfl rfl (by omega) (by omega) (by omega) ?_
          first | refine S_add rfl rfl (by omega) (by omega) ?_ | refine S_bin rfl rfl rfl ?_
          first | refine S_cvb T.us3 T.in5 rfl (by omega) (by omega) ?_ | refine S_cv T.us3 T.in5 rfl ?_
          first | refine S_ixn T.el61 rfl rfl (by omega) ?_ | refine S_ix1 T.el61 rfl rfl (by omega) (by omega) ?_ | refine S_ix T.el61 rfl rfl (by omega) (by omega) ?_
          refine S_st T.sz5 rfl rfl rfl rfl (by simp (disch := omega) only [hB.okA]) ?_
          generalize hh : putH _ _ _ = h2
          replace hB : B h2 b (arr n fun j => .int .u8 (bufG (L ++ [48 + x.natAbs / 10]) j)) 5 := by rw [← hh]; exact buf_putE hB (48 + x.natAbs / 10) (by first | rfl | omega | (simp only [List.length_append, List.length_singleton]; omega)) (by congr 1; omega)
          replace hE : Ext (fun k => k = b) h h2 := by rw [← hh]; exact hE.trans (Ext.put _ _ rfl)
          clear hh
          refine S_nil (hK24 _ _ (V_keep [0, 1, 2] (by simp only [proj, lk, reduceIte, Nat.reduceEqDiff]; rfl) ?_)); clear hK24
          refine V_sr T.mix (by kernel_rfl) (fun K25 hK25 => ?_)
          refine S_mv rfl ?_
          first | refine S_add rfl rfl (by omega) (by omega) ?_ | refine S_bin rfl rfl rfl ?_
          refine S_as rfl ?_
          refine S_nil (hK25 _ _ (V_keep [0, 1, 2] (by simp only [proj, lk, reduceIte, Nat.reduceEqDiff]; rfl) ?_)); clear hK25
          refine V_reg T.mix (by kernel_rfl) ?_
          refine S_mv rfl ?_
          refine S_rem rfl rfl (by omega) (by omega) ?_
          refine S_as rfl ?_
          refine S_nilk [0, 1, 2] (by simp only [proj, lk, reduceIte, Nat.reduceEqDiff]; rfl) ?_
          refine hK22 _ _ ?_; clear hK22
          refine V_sr T.mix (by kernel_rfl) (fun K26 hK26 => ?_)
          refine S_mv rfl ?_
          refine S_mv rfl ?_
          refine S_mv rfl ?_
          refine S_mv rfl ?_
          first | refine S_add rfl rfl (by omega) (by omega) ?_ | refine S_bin rfl rfl rfl ?_
          refine S_mv rfl ?_
          first | refine S_add rfl rfl (by omega) (by omega) ?_ | refine S_bin rfl rfl rfl ?_
          first | refine S_cvb T.us3 T.in5 rfl (by omega) (by omega) ?_ | refine S_cv T.us3 T.in5 rfl ?_
          first | refine S_ixn T.el61 rfl rfl (by omega) ?_ | refine S_ix1 T.el61 rfl rfl (by omega) (by omega) ?_ | refine S_ix T.el61 rfl rfl (by omega) (by omega) ?_
          refine S_st T.sz5 rfl rfl rfl rfl (by simp (disch := omega) only [hB.okA]) ?_
          generalize hh : putH _ _ _ = h3
          replace hB : B h3 b (arr n fun j => .int .u8 (bufG (L ++ [48 + x.natAbs / 10] ++ [48 + x.natAbs % 10]) j)) 5 := by rw [← hh]; exact buf_putE hB (48 + x.natAbs % 10) (by first | rfl | omega | (simp only [List.length_append, List.length_singleton]; omega)) (by congr 1; omega)
          replace hE : Ext (fun k => k = b) h h3 := by rw [← hh]; exact hE.trans (Ext.put _ _ rfl)
          clear hh
          first | refine S_ixn T.el61 rfl rfl (by omega) ?_ | refine S_ix1 T.el61 rfl rfl (by omega) (by omega) ?_ | refine S_ix T.el61 rfl rfl (by omega) (by omega) ?_
          refine S_st T.sz5 rfl rfl rfl rfl (by simp (disch := omega) only [hB.okA]) ?_
          generalize hh : putH _ _ _ = h4
          replace hB : B h4 b (arr n fun j => .int .u8 (bufG (L ++ [48 + x.natAbs / 10] ++ [48 + x.natAbs % 10] ++ [32]) j)) 5 := by rw [← hh]; exact buf_putE hB (32) (by first | rfl | omega | (simp only [List.length_append, List.length_singleton]; omega)) (rfl)
          replace hE : Ext (fun k => k = b) h h4 := by rw [← hh]; exact hE.trans (Ext.put _ _ rfl)
          clear hh
          refine S_nil (hK26 _ _ (V_keep [1] (by simp only [proj, lk, reduceIte, Nat.reduceEqDiff]; rfl) ?_)); clear hK26
          refine V_sr T.mix (by kernel_rfl) (fun K27 hK27 => ?_)
          refine S_mv rfl ?_
          first | refine S_add rfl rfl (by omega) (by omega) ?_ | refine S_bin rfl rfl rfl ?_
          refine S_as rfl ?_
          refine S_nil (hK27 _ _ (V_keep [6] (by simp only [proj, lk, reduceIte, Nat.reduceEqDiff]; rfl) ?_)); clear hK27
          refine V_ret ?_
          refine hR _ _ (ret1 rfl rfl ?_)
          have e : numB x = [48 + x.natAbs / 10, 48 + x.natAbs % 10, 32] := by unfold numB; rw [if_neg c23, if_neg c27, if_neg c31, if_pos (by omega)]; rfl
          refine ⟨by rw [e]; congr 1; simp only [List.length_append, List.length_cons, List.length_nil]; omega, by rw [e]; simpa using hB, hE⟩
        · skip
          rw [if_neg (show ¬ 10 ≤ x.natAbs by omega)] at hl
          refine V_skipk [0, 1, 2] (by simp only [proj, lk, reduceIte, Nat.reduceEqDiff]; rfl) ?_
          refine hK22 _ _ ?_; clear hK22
          refine V_sr T.mix (by kernel_rfl) (fun K28 hK28 => ?_)
          refine S_mv rfl ?_
          refine S_mv rfl ?_
          refine S_mv rfl ?_
          refine S_mv rfl ?_
          first | refine S_add rfl rfl (by omega) (by omega) ?_ | refine S_bin rfl rfl rfl ?_
          refine S_mv rfl ?_
          first | refine S_add rfl rfl (by omega) (by omega) ?_ | refine S_bin rfl rfl rfl ?_
          first | refine S_cvb T.us3 T.in5 rfl (by omega) (by omega) ?_ | refine S_cv T.us3 T.in5 rfl ?_
          first | refine S_ixn T.el61 rfl rfl (by omega) ?_ | refine S_ix1 T.el61 rfl rfl (by omega) (by omega) ?_ | refine S_ix T.el61 rfl rfl (by omega) (by omega) ?_
          refine S_st T.sz5 rfl rfl rfl rfl (by simp (disch := omega) only [hB.okA]) ?_
          generalize hh : putH _ _ _ = h3
          replace hB : B h3 b (arr n fun j => .int .u8 (bufG (L ++ [48 + x.natAbs % 10]) j)) 5 := by rw [← hh]; exact buf_putE hB (48 + x.natAbs % 10) (by first | rfl | omega | (simp only [List.length_append, List.length_singleton]; omega)) (by congr 1; omega)
          replace hE : Ext (fun k => k = b) h h3 := by rw [← hh]; exact hE.trans (Ext.put _ _ rfl)
          clear hh
          first | refine S_ixn T.el61 rfl rfl (by omega) ?_ | refine S_ix1 T.el61 rfl rfl (by omega) (by omega) ?_ | refine S_ix T.el61 rfl rfl (by omega) (by omega) ?_
          refine S_st T.sz5 rfl rfl rfl rfl (by simp (disch := omega) only [hB.okA]) ?_
          generalize hh : putH _ _ _ = h4
          replace hB : B h4 b (arr n fun j => .int .u8 (bufG (L ++ [48 + x.natAbs % 10] ++ [32]) j)) 5 := by rw [← hh]; exact buf_putE hB (32) (by first | rfl | omega | (simp only [List.length_append, List.length_singleton]; omega)) (rfl)
          replace hE : Ext (fun k => k = b) h h4 := by rw [← hh]; exact hE.trans (Ext.put _ _ rfl)
          clear hh
          refine S_nil (hK28 _ _ (V_keep [1] (by simp only [proj, lk, reduceIte, Nat.reduceEqDiff]; rfl) ?_)); clear hK28
          refine V_sr T.mix (by kernel_rfl) (fun K29 hK29 => ?_)
          refine S_mv rfl ?_
          first | refine S_add rfl rfl (by omega) (by omega) ?_ | refine S_bin rfl rfl rfl ?_
          refine S_as rfl ?_
          refine S_nil (hK29 _ _ (V_keep [6] (by simp only [proj, lk, reduceIte, Nat.reduceEqDiff]; rfl) ?_)); clear hK29
          refine V_ret ?_
          refine hR _ _ (ret1 rfl rfl ?_)
          have e : numB x = [48 + x.natAbs % 10, 32] := by unfold numB; rw [if_neg c23, if_neg c27, if_neg c31, if_neg (by omega)]; rfl
          refine ⟨by rw [e]; congr 1; simp only [List.length_append, List.length_cons, List.length_nil]; omega, by rw [e]; simpa using hB, hE⟩
set_option maxHeartbeats 400000 in
theorem print_spec (h : Heap) (pv : Value) (a : Option Addr) (cap : Nat) (xs : List Int) (ho : IL h a cap xs) (hl : xs.length ≤ 1000000000) :
    FC Tryz.prog 99 (#[pv, .slice a xs.length cap] : Array Value) h fun v h' => v = .tuple #[.string (printF xs).1, .int .i64 (printF xs).2] ∧ Ext (fun _ => False) h h' := by
  refine FC_of [(0, pv), (1, .slice a xs.length cap)] Tryz.func99 rfl Tryz.ntmps99 (by simp) rfl (fun R hR => ?_)
  refine V_keep [1] (by simp only [proj, lk, reduceIte, Nat.reduceEqDiff]; rfl) ?_
  refine V_sr T.mix (by kernel_rfl) (fun K1 hK1 => ?_)
  refine S_as rfl ?_
  refine S_as rfl ?_
  refine S_nil (hK1 _ _ (V_keep [1] (by simp only [proj, lk, reduceIte, Nat.reduceEqDiff]; rfl) ?_)); clear hK1
  refine V_seq (fun K2 hK2 => ?_)
  refine V_sr T.mix (by kernel_rfl) (fun K3 hK3 => ?_)
  refine S_mv rfl ?_
  refine S_lenl T.el49 rfl ?_
  refine S_bin rfl rfl rfl ?_
  refine S_nil (hK3 _ _ (V_keep [1, 14] (by simp only [proj, lk, reduceIte, Nat.reduceEqDiff]; rfl) ?_)); clear hK3
  refine V_condp rfl (fun c47 => ?_) (fun c47 => ?_)
  · skip
    refine V_sr T.mix (by kernel_rfl) (fun K4 hK4 => ?_)
    refine S_as rfl ?_
    refine S_as rfl ?_
    refine S_nil (hK4 _ _ (V_keep [4, 5] (by simp only [proj, lk, reduceIte, Nat.reduceEqDiff]; rfl) ?_)); clear hK4
    refine V_ret ?_
    refine hR _ _ (ret2 rfl rfl rfl ?_)
    exact ⟨by unfold printF; rw [if_pos (by omega)]; rfl, Ext.refl _ _⟩
  · skip
    refine V_skipk [1] (by simp only [proj, lk, reduceIte, Nat.reduceEqDiff]; rfl) ?_
    refine hK2 _ _ ?_; clear hK2
    refine V_sr T.mix (by kernel_rfl) (fun K5 hK5 => ?_)
    refine S_mv rfl ?_
    refine S_call T.hb105 rfl ?_
    refine FC.mono (checkflat_spec h a cap xs ho (by omega)) ?_
    rintro v h' ⟨rfl, rfl⟩
    refine S_as rfl ?_
    refine S_nil (hK5 _ _ (V_keep [1, 6] (by simp only [proj, lk, reduceIte, Nat.reduceEqDiff]; rfl) ?_)); clear hK5
    refine V_seq (fun K6 hK6 => ?_)
    refine V_sr T.mix (by kernel_rfl) (fun K7 hK7 => ?_)
    refine S_mv rfl ?_
    refine S_bin rfl rfl rfl ?_
    refine S_nil (hK7 _ _ (V_keep [1, 18] (by simp only [proj, lk, reduceIte, Nat.reduceEqDiff]; rfl) ?_)); clear hK7
    refine V_condp rfl (fun c51 => ?_) (fun c51 => ?_)
    · skip
      refine V_sr T.mix (by kernel_rfl) (fun K8 hK8 => ?_)
      refine S_as rfl ?_
      refine S_as rfl ?_
      refine S_nil (hK8 _ _ (V_keep [4, 5] (by simp only [proj, lk, reduceIte, Nat.reduceEqDiff]; rfl) ?_)); clear hK8
      refine V_ret ?_
      refine hR _ _ (ret2 rfl rfl rfl ?_)
      have hfo : ¬ flatOk xs = true := fun e => c51 (by rw [if_pos e])
      exact ⟨by unfold printF; rw [if_neg (by omega), if_neg hfo]; rfl, Ext.refl _ _⟩
    · skip
      have hfo : flatOk xs = true := by cases hh : flatOk xs with | true => rfl | false => exact absurd (show (if flatOk xs = true then (0 : Int) else 6) ≠ 0 by rw [hh]; simp) c51
      have hpl := (printB_len xs (flat_rng hfo)).1
      refine V_skipk [1] (by simp only [proj, lk, reduceIte, Nat.reduceEqDiff]; rfl) ?_
      refine hK6 _ _ ?_; clear hK6
      refine V_sr T.mix (by kernel_rfl) (fun K9 hK9 => ?_)
      refine S_as rfl ?_
      refine S_nil (hK9 _ _ (V_keep [1, 7] (by simp only [proj, lk, reduceIte, Nat.reduceEqDiff]; rfl) ?_)); clear hK9
      refine V_seq (fun K10 hK10 => ?_)
      refine V_sr T.mix (by kernel_rfl) (fun K11 hK11 => ?_)
      refine S_as rfl ?_
      refine S_nil (hK11 _ _ (V_keep [1, 7, 8] (by simp only [proj, lk, reduceIte, Nat.reduceEqDiff]; rfl) ?_)); clear hK11
      refine V_block ?_
      refine V_loop (fun m l h' => ∃ (i : Nat), (i ≤ xs.length) ∧ m = xs.length - i ∧ l = [(1, .slice a xs.length cap), (7, .int .i64 ((printB (xs.take i)).length : Nat)), (8, .int .i64 i)] ∧ h = h') _ ⟨0, by omega, rfl, rfl, rfl⟩ ?_
      rintro m l h' ⟨i, hi, rfl, rfl, rfl⟩ K12 hK12
      refine V_seq (fun K13 hK13 => ?_)
      refine V_sr T.mix (by kernel_rfl) (fun K14 hK14 => ?_)
      refine S_mv rfl ?_
      refine S_mv rfl ?_
      refine S_lenl T.el49 rfl ?_
      refine S_bin rfl rfl rfl ?_
      refine S_nil (hK14 _ _ (V_keep [1, 7, 8, 22] (by simp only [proj, lk, reduceIte, Nat.reduceEqDiff]; rfl) ?_)); clear hK14
      refine V_condp rfl (fun c55 => ?_) (fun c55 => ?_)
      · skip
        have hfx : FlatN (xs.getD i 0) := flat_rng hfo _ (by rw [List.getD_eq_getElem?_getD, List.getElem?_eq_getElem (by omega)]; simp)
        obtain ⟨ba, rfl, ha2, ha3, _⟩ := IL.get ho (by omega)
        have hpt := print_take (l := xs) (i := i) (by omega)
        have hlt := print_take_le (flat_rng hfo) i
        have hl4 := (numB_lt _ hfx).2
        refine V_skipk [1, 7, 8] (by simp only [proj, lk, reduceIte, Nat.reduceEqDiff]; rfl) ?_
        refine hK13 _ _ ?_; clear hK13
        refine V_seq (fun K15 hK15 => ?_)
        refine V_block ?_
        refine V_reg T.mix (by kernel_rfl) ?_
        refine S_mv rfl ?_
        refine S_mv rfl ?_
        refine S_mv rfl ?_
        first | refine S_ixn T.el49 rfl rfl (by omega) ?_ | refine S_ix1 T.el49 rfl rfl (by omega) (by omega) ?_ | refine S_ix T.el49 rfl rfl (by omega) (by omega) ?_
        refine S_ldK T.ag3 rfl (fun K' hK' => ?_)
        simp (disch := omega) only [ha3, oP_some, Nat.add_zero]
        refine hK' _ ?_; clear hK' K'
        refine S_call T.hb131 rfl ?_
        refine FC.mono (width_spec h _ hfx) ?_
        rintro v h' ⟨rfl, rfl⟩
        first | refine S_add rfl rfl (by omega) (by omega) ?_ | refine S_bin rfl rfl rfl ?_
        refine S_as rfl ?_
        refine S_nilk [1, 7, 8] (by simp only [proj, lk, reduceIte, Nat.reduceEqDiff]; rfl) ?_
        refine hK15 _ _ ?_; clear hK15
        refine V_reg T.mix (by kernel_rfl) ?_
        refine S_mv rfl ?_
        first | refine S_add rfl rfl (by omega) (by omega) ?_ | refine S_bin rfl rfl rfl ?_
        refine S_as rfl ?_
        refine S_nilk [1, 7, 8] (by simp only [proj, lk, reduceIte, Nat.reduceEqDiff]; rfl) ?_
        exact hK12 _ _ ⟨_, by omega, i + 1, by omega, rfl, by rw [hpt, List.length_append]; simp, rfl⟩
      · skip
        have hii : i = xs.length := by omega
        subst hii
        rw [List.take_length]
        refine V_exitk [1, 7] rfl (by simp only [proj, lk, reduceIte, Nat.reduceEqDiff]; rfl) ?_
        refine hK10 _ _ ?_; clear hK10
        refine V_sr T.mix (by kernel_rfl) (fun K16 hK16 => ?_)
        refine S_mv rfl ?_
        refine S_mk T.ei61 rfl rfl (by omega) (by omega) (by omega) (by omega) ?_
        simp only [Int.toNat_natCast, Nat.mul_one, mkZ_one]
        generalize hh : Array.push h _ = h1
        have hB1 : B h1 h.size (arr (printB xs).length fun j => .int .u8 (bufG (printB (xs.take 0)) j)) 5 := by rw [← hh]; exact (B.new _ _ _).cong (arr_ext fun j _ => by simp [bufG, printB])
        have hE1 : Ext (fun _ => False) h h1 := by rw [← hh]; exact Ext.push _ _ _
        clear hh
        refine S_as rfl ?_
        refine S_nil (hK16 _ _ (V_keep [1, 9] (by simp only [proj, lk, reduceIte, Nat.reduceEqDiff]; rfl) ?_)); clear hK16
        refine V_sr T.mix (by kernel_rfl) (fun K17 hK17 => ?_)
        refine S_as rfl ?_
        refine S_nil (hK17 _ _ (V_keep [1, 9, 10] (by simp only [proj, lk, reduceIte, Nat.reduceEqDiff]; rfl) ?_)); clear hK17
        refine V_seq (fun K18 hK18 => ?_)
        refine V_sr T.mix (by kernel_rfl) (fun K19 hK19 => ?_)
        refine S_as rfl ?_
        refine S_nil (hK19 _ _ (V_keep [1, 9, 10, 11] (by simp only [proj, lk, reduceIte, Nat.reduceEqDiff]; rfl) ?_)); clear hK19
        refine V_block ?_
        refine V_loop (fun m l h' => ∃ (i : Nat) (hk : Heap), (i ≤ xs.length) ∧ (B hk h.size (arr (printB xs).length fun j => .int .u8 (bufG (printB (xs.take i)) j)) 5) ∧ (Ext (fun _ => False) h hk) ∧ m = xs.length - i ∧ l = [(1, .slice a xs.length cap), (9, .slice (some ⟨h.size, 0, none⟩) (printB xs).length (printB xs).length), (10, .int .i64 ((printB (xs.take i)).length : Nat)), (11, .int .i64 i)] ∧ hk = h') _ ⟨0, h1, by omega, hB1, hE1, rfl, rfl, rfl⟩ ?_
        rintro m l h' ⟨i, hk, hi, hB, hEk, rfl, rfl, rfl⟩ K20 hK20
        refine V_seq (fun K21 hK21 => ?_)
        refine V_sr T.mix (by kernel_rfl) (fun K22 hK22 => ?_)
        refine S_mv rfl ?_
        refine S_mv rfl ?_
        refine S_lenl T.el49 rfl ?_
        refine S_bin rfl rfl rfl ?_
        refine S_nil (hK22 _ _ (V_keep [1, 9, 10, 11, 37] (by simp only [proj, lk, reduceIte, Nat.reduceEqDiff]; rfl) ?_)); clear hK22
        refine V_condp rfl (fun c60 => ?_) (fun c60 => ?_)
        · skip
          have hfx : FlatN (xs.getD i 0) := flat_rng hfo _ (by rw [List.getD_eq_getElem?_getD, List.getElem?_eq_getElem (by omega)]; simp)
          obtain ⟨ba, rfl, ha2, ha3, _⟩ := IL.get (ho.ext hEk (fun _ _ f => f)) (by omega)
          have hpt := print_take (l := xs) (i := i) (by omega)
          refine V_skipk [1, 9, 10, 11] (by simp only [proj, lk, reduceIte, Nat.reduceEqDiff]; rfl) ?_
          refine hK21 _ _ ?_; clear hK21
          refine V_seq (fun K23 hK23 => ?_)
          refine V_block ?_
          refine V_reg T.mix (by kernel_rfl) ?_
          refine S_mv rfl ?_
          refine S_mv rfl ?_
          refine S_mv rfl ?_
          refine S_mv rfl ?_
          first | refine S_ixn T.el49 rfl rfl (by omega) ?_ | refine S_ix1 T.el49 rfl rfl (by omega) (by omega) ?_ | refine S_ix T.el49 rfl rfl (by omega) (by omega) ?_
          refine S_ldK T.ag3 rfl (fun K' hK' => ?_)
          simp (disch := omega) only [ha3, oP_some, Nat.add_zero]
          refine hK' _ ?_; clear hK' K'
          refine S_call T.hb132 rfl ?_
          refine FC.mono (lay_spec hk h.size _ (printB (xs.take i)) _ hB hfx (by omega) (print_pre (by omega))) ?_
          rintro v h2 ⟨rfl, hB2, hE2⟩
          refine S_as rfl ?_
          refine S_nilk [1, 9, 10, 11] (by simp only [proj, lk, reduceIte, Nat.reduceEqDiff]; rfl) ?_
          refine hK23 _ _ ?_; clear hK23
          refine V_reg T.mix (by kernel_rfl) ?_
          refine S_mv rfl ?_
          first | refine S_add rfl rfl (by omega) (by omega) ?_ | refine S_bin rfl rfl rfl ?_
          refine S_as rfl ?_
          refine S_nilk [1, 9, 10, 11] (by simp only [proj, lk, reduceIte, Nat.reduceEqDiff]; rfl) ?_
          exact hK20 _ _ ⟨_, by omega, i + 1, h2, by omega, by rw [hpt]; exact hB2, hEk.step hE2 (fun b hb e => by omega), rfl, by rw [hpt]; simp, rfl⟩
        · skip
          refine V_exitk [9] rfl (by simp only [proj, lk, reduceIte, Nat.reduceEqDiff]; rfl) ?_
          refine hK18 _ _ ?_; clear hK18
          refine V_sr T.mix (by kernel_rfl) (fun K24 hK24 => ?_)
          refine S_mv rfl ?_
          have hii : i = xs.length := by omega
          subst hii
          rw [List.take_length] at hB
          refine S_str T.kd61 T.kd9 T.in9 rfl (srcV_u8 hB) ?_
          refine S_as rfl ?_
          refine S_as rfl ?_
          refine S_nil (hK24 _ _ (V_keep [4, 5] (by simp only [proj, lk, reduceIte, Nat.reduceEqDiff]; rfl) ?_)); clear hK24
          refine V_ret ?_
          refine hR _ _ (ret2 rfl rfl rfl ?_)
          refine ⟨?_, hEk⟩
          unfold printF
          rw [if_neg (by omega), if_pos hfo, buf_str]
          rfl
end Go.Proofs.Qxb6500401aGreat.ChkW
