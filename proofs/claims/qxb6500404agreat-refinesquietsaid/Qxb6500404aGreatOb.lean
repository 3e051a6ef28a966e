import Derived.Test.Qxb6500404aGreatOa
import Derived.Test.Qxb6500404aGreatEp
set_option linter.unusedVariables false
set_option linter.unusedSimpArgs false
namespace Go.Proofs.Qxb6500404aGreat
open Go.Eng Go.Bits Go.Blk HufW

def PT (P b : Nat) : Prop := P ≤ b ∧ b ≤ P + 4
structure PB (h : Heap) (W : WA) (cn pl co wi : Nat → Nat) : Prop where
  x : B h W.P (pcs W) 75
  c : B h (W.P + 1) (ia 273 cn) 3
  p : B h (W.P + 2) (ia 273 pl) 3
  k : B h (W.P + 3) (ia 273 co) 3
  w : B h (W.P + 4) (ia 273 wi) 3
theorem PB.ext {h h' : Heap} {W : WA} {cn pl co wi : Nat → Nat} {S : Nat → Prop} (b : PB h W cn pl co wi) (he : Ext S h h') (hs : ∀ z, PT W.P z → ¬ S z) : PB h' W cn pl co wi :=
  ⟨b.x.ext he (hs _ ⟨by omega, by omega⟩), b.c.ext he (hs _ ⟨by omega, by omega⟩), b.p.ext he (hs _ ⟨by omega, by omega⟩), b.k.ext he (hs _ ⟨by omega, by omega⟩), b.w.ext he (hs _ ⟨by omega, by omega⟩)⟩
theorem PB.setc {h h' : Heap} {W : WA} {cn pl co wi cn' : Nat → Nat} (b : PB h W cn pl co wi) (he : Ext (fun z => z = W.P + 1) h h') (hc : B h' (W.P + 1) (ia 273 cn') 3) : PB h' W cn' pl co wi :=
  ⟨b.x.ext he (by simp), hc, b.p.ext he (by simp), b.k.ext he (by simp), b.w.ext he (by simp)⟩
theorem PB.setp {h h' : Heap} {W : WA} {cn pl co wi pl' : Nat → Nat} (b : PB h W cn pl co wi) (he : Ext (fun z => z = W.P + 2) h h') (hc : B h' (W.P + 2) (ia 273 pl') 3) : PB h' W cn pl' co wi :=
  ⟨b.x.ext he (by simp), b.c.ext he (by simp), hc, b.k.ext he (by simp), b.w.ext he (by simp)⟩
theorem PB.lt {h : Heap} {W : WA} {cn pl co wi : Nat → Nat} (b : PB h W cn pl co wi) : W.P + 4 < h.size := b.w.lt
/-- a token of a list, in the heap -/
theorem tok_at {h : Heap} {nb : Nat} {T : List Lz.Tok} (hT : LzW.TokB h nb T) {k : Nat} (hk : k < T.length) : ∃ t, t ∈ T ∧ T.take (k + 1) = T.take k ++ [t] ∧ cellH h ⟨nb, k * 3, none⟩ = some (.int .i64 t.len) ∧ cellH h ⟨nb, k * 3 + 1, none⟩ = some (.int .i64 t.dist) ∧ cellH h ⟨nb, k * 3 + 2, none⟩ = some (.int .i64 t.lit) := by
  obtain ⟨h1, h2, h3⟩ := Lz.fl_at T k hk
  have hc : ∀ j, j < T.length * 3 → cellH h ⟨nb, j, none⟩ = some (.int .i64 (Lz.fl T j)) := fun j hj => B.cellA hT hj
  refine ⟨T[k], List.getElem_mem hk, by rw [List.take_add_one]; simp [hk], ?_, ?_, ?_⟩
  · rw [hc _ (by omega), h1]
  · rw [hc _ (by omega), h2]
  · rw [hc _ (by omega), h3]
theorem cell_ext {h h' : Heap} {S : Nat → Prop} {b i : Nat} (he : Ext S h h') (hb : b < h.size) (hs : ¬ S b) : cellH h' ⟨b, i, none⟩ = cellH h ⟨b, i, none⟩ := by unfold cellH; simp only [he.2 b hb hs]
theorem cn_snoc' {T : List Lz.Tok} {k : Nat} {t : Lz.Tok} (h : T.take (k + 1) = T.take k ++ [t]) (s : Nat) : cnT (T.take (k + 1)) s = cnT (T.take k) s + cn1 t s := by rw [h, cnT_snoc]
theorem ups_one (f : Nat → Nat) (a : Nat) : Huf.ups f a (f a + 1) = fun s => f s + if s = a then 1 else 0 := by
  funext s; unfold Huf.ups; by_cases e : s = a
  · rw [if_pos e, if_pos e, e]
  · rw [if_neg e, if_neg e]; rfl
theorem ra_getD {l : List Nat} {n : Nat} (h : l.length = n) : ra n (fun i => l.getD i 0) = l := by
  apply List.ext_getElem
  · rw [ra_len, h]
  · intro i h1 h2; simp [ra, h2]
theorem sm_bnd {f : Nat → Nat} {M : Nat} : ∀ {n : Nat}, (∀ i, i < n → f i ≤ M) → Huf.sm f n ≤ M * n
  | 0, _ => Nat.zero_le _
  | n + 1, h => by
    have := sm_bnd (n := n) (fun i hi => h i (by omega))
    have h2 := h n (by omega)
    rw [Huf.sm, Nat.mul_add, Nat.mul_one]; omega
theorem OLc {h : Heap} {b n : Nat} {f : Nat → Nat} (hb : B h b (ia n f) 3) (o k cap : Nat) (hk : o + k ≤ n) : OL h (some ⟨b, o, none⟩) cap (Huf.il k fun j => f (o + j)) :=
  OL.of hb o cap _ (by rw [Huf.il_len]; unfold ia; rw [arr_size]; exact hk) (fun j hj => by rw [Huf.il_len] at hj; unfold ia; rw [arr_get (by omega), Huf.il_at hj])
theorem OLcA {h : Heap} {b : Nat} {f : Nat → Nat} (hb : B h b (ia 273 f) 3) (cap : Nat) : OL h (some ⟨b, 0, none⟩) cap (cA f) := by
  have := OLc hb 0 265 cap (by omega)
  simp only [Nat.zero_add] at this; exact this
theorem OLcB {h : Heap} {b : Nat} {f : Nat → Nat} (hb : B h b (ia 273 f) 3) (cap : Nat) : OL h (some ⟨b, 265, none⟩) cap (cB f) := OLc hb 265 8 cap (by omega)
theorem lB_at (l : List Nat) (j : Nat) : (lB l).getD j 0 = (l.getD (265 + j) 0 : Int) := by
  unfold lB; rw [li_at, List.getD_eq_getElem?_getD, List.getElem?_drop, List.getD_eq_getElem?_getD]
theorem lA_at (l : List Nat) {j : Nat} (h : j < 265) : (lA l).getD j 0 = (l.getD j 0 : Int) := by
  unfold lA; rw [li_at, List.getD_eq_getElem?_getD, List.getElem?_take, if_pos h, List.getD_eq_getElem?_getD]
theorem ints_at {l : List Int} {j : Nat} (h : j < l.length) : (ints l).getD j undef = .int .i64 (l.getD j 0) := by simp [ints, h]
theorem lA_len {l : List Nat} (h : l.length = 273) : (lA l).length = 265 := by unfold lA; rw [li_len, List.length_take]; omega
theorem lB_len {l : List Nat} (h : l.length = 273) : (lB l).length = 8 := by unfold lB; rw [li_len, List.length_drop]; omega
theorem two_copy {l : List Nat} (hl : l.length = 273) {pl : Nat → Nat} {h : Heap} {b : Nat} (hb : B h b (arr 273 fun j => if 265 ≤ j ∧ j < 265 + (ints (lB l)).length then (ints (lB l)).getD (j - 265) undef else if 0 ≤ j ∧ j < 0 + (ints (lA l)).length then (ints (lA l)).getD (j - 0) undef else .int .i64 (pl j : Int)) 3) : B h b (ia 273 fun i => l.getD i 0) 3 := by
  refine hb.cong (arr_ext fun j hj => ?_)
  rw [ints_len, ints_len, lA_len hl, lB_len hl]
  by_cases e : 265 ≤ j
  · rw [if_pos ⟨e, by omega⟩, ints_at (by rw [lB_len hl]; omega), lB_at, show 265 + (j - 265) = j by omega]
  · rw [if_neg (fun z => e z.1), if_pos ⟨by omega, by omega⟩, Nat.sub_zero, ints_at (by rw [lA_len hl]; omega), lA_at _ (by omega)]
theorem mo_0 {s : Nat} (h : s < 265) : mo s = 0 := by unfold mo; rw [if_pos h]
theorem mo_1 (c : Nat) : mo (265 + c) = dM c := by unfold mo; rw [if_neg (by omega), show 265 + c - 265 = c by omega]
theorem dM_le (c : Nat) : dM c ≤ 2 := by unfold dM; split; (omega); (split <;> omega)
theorem fix_le9 {i : Nat} (h : i < 273) : fixL.getD i 0 ≤ 9 := by
  rw [fix_at h]
  repeat' split
  all_goals omega
theorem mo_le (j : Nat) : mo j ≤ 2 := by
  unfold mo; split
  · omega
  · exact dM_le _
theorem bFX_ {cn : Nat → Nat} (hcn : ∀ i, cn i ≤ 600) : ∀ i, i ≤ 273 → Huf.sm (fun s => cn s * (fixL.getD s 0 + mo s)) i ≤ 6600 * i := fun i hi => sm_bnd fun j hj => by
  have h1 := hcn j
  have h2 := fix_le9 (i := j) (by omega)
  have h3 := mo_le j
  exact Nat.le_trans (Nat.mul_le_mul h1 (show fixL.getD j 0 + mo j ≤ 11 by omega)) (by decide)
theorem bDY_ {cn pl : Nat → Nat} (hcn : ∀ i, cn i ≤ 600) (hpl : ∀ i, i < 273 → pl i ≤ 10) : ∀ i, i ≤ 273 → Huf.sm (fun s => cn s * ((ra 273 pl).getD s 0 + mo s)) i ≤ 7200 * i := fun i hi => sm_bnd fun j hj => by
  have h1 := hcn j
  have h2 := hpl j (by omega)
  have h3 := mo_le j
  rw [ra_at (by omega)]
  exact Nat.le_trans (Nat.mul_le_mul h1 (show pl j + mo j ≤ 12 by omega)) (by decide)
def chs (a b c : Nat) : Nat := if a ≤ b ∧ a ≤ c then 0 else if b ≤ c then 1 else 2
set_option maxHeartbeats 1600000 in
theorem tally_spec (h : Heap) (W : WA) (cn pl co wi : Nat → Nat) (pb : PB h W cn pl co wi) (nb : Nat) (Q : List Lz.Tok) (hT : LzW.TokB h nb Q) (hnb : ¬ PT W.P nb) (tk : ∀ t, t ∈ Q → Tk t) (hTl : Q.length ≤ 256) :
    FC Tryz.prog 93 (#[.pointer (some ⟨W.P, 0, none⟩), .slice (some ⟨nb, 0, none⟩) Q.length Q.length] : Array Value) h fun rv h' => rv = .tuple #[] ∧ PB h' W (cnT Q) pl co wi ∧ Ext (fun z => z = W.P + 1) h h' := by
  have t0 : (0 : Nat) = 0 := rfl
  have t1 := t0
  have t2 := t0
  have pbk := pb
  try clear p0 p1 p2 p3 p4 p5 p6 p7
  obtain ⟨p0, p1, p2, p3, p4, p5, p6, p7⟩ := pq (pbk.x)
  have acn := ia_at pbk.c
  have hoc := ia_ok pbk.c
  refine FC_of [(0, .pointer (some ⟨W.P, 0, none⟩)), (1, .slice (some ⟨nb, 0, none⟩) Q.length Q.length)] Tryz.func93 rfl Tryz.ntmps93 (by simp) rfl (fun R hR => ?_)
  refine V_seq (fun K1 hK1 => ?_)
  refine V_sr T.mix (by kernel_rfl) (fun K2 hK2 => ?_)
  refine S_as rfl ?_
  refine S_nil (hK2 _ _ (V_keep [0, 1, 4] (by simp only [proj, lk, reduceIte, Nat.reduceEqDiff]; rfl) ?_)); clear hK2
  refine V_block ?_
  refine V_loop (fun m l h' => ∃ (i : Nat) (hk : Heap) (A : Nat → Nat), (i ≤ 273) ∧ (PB hk W A pl co wi) ∧ (∀ j, j < i → A j = 0) ∧ (Ext (fun z => z = W.P + 1) h hk) ∧ m = 273 - i ∧ l = [(0, .pointer (some ⟨W.P, 0, none⟩)), (1, .slice (some ⟨nb, 0, none⟩) Q.length Q.length), (4, .int .i64 (i : Int))] ∧ hk = h') _ ⟨0, h, cn, Nat.zero_le _, pb, fun j hj => by omega, Ext.refl _ _, rfl, rfl, rfl⟩ ?_
  rintro m l h' ⟨i, hk, A, hi, pbA, hA, hEk, rfl, rfl, rfl⟩ K3 hK3
  have pbk := pbA
  try clear p0 p1 p2 p3 p4 p5 p6 p7
  obtain ⟨p0, p1, p2, p3, p4, p5, p6, p7⟩ := pq (pbk.x)
  have acn := ia_at pbk.c
  have hoc := ia_ok pbk.c
  refine V_seq (fun K4 hK4 => ?_)
  refine V_sr T.mix (by kernel_rfl) (fun K5 hK5 => ?_)
  refine S_mv rfl ?_
  refine S_bin rfl rfl rfl ?_
  refine S_nil (hK5 _ _ (V_keep [0, 1, 4, 10] (by simp only [proj, lk, reduceIte, Nat.reduceEqDiff]; rfl) ?_)); clear hK5
  refine V_condp rfl (fun c14 => ?_) (fun c14 => ?_)
  · skip
    refine V_skipk [0, 1, 4] (by simp only [proj, lk, reduceIte, Nat.reduceEqDiff]; rfl) ?_
    refine hK4 _ _ ?_; clear hK4
    refine V_seq (fun K6 hK6 => ?_)
    refine V_block ?_
    refine V_reg T.mix (by kernel_rfl) ?_
    refine S_mv rfl ?_
    refine S_nc rfl ?_
    first | refine S_fa0 T.f75_4 rfl ?_ | refine S_fa T.f75_4 rfl ?_
    refine S_ldK T.ag56 rfl (fun K' hK' => ?_)
    simp (disch := omega) only [p0, p1, p2, p3, p4, p5, p6, p7, acn, t0, t1, t2, oP_some, Nat.add_zero]
    refine hK' _ ?_; clear hK' K'
    refine S_mv rfl ?_
    first | refine S_ixn T.el56 rfl rfl (by omega) ?_ | refine S_ix1 T.el56 rfl rfl (by omega) (by omega) ?_ | refine S_ix T.el56 rfl rfl (by omega) (by omega) ?_
    refine S_st T.sz3 rfl rfl rfl rfl (by simp (disch := omega) only [hoc]) ?_
    generalize hh : putH _ _ _ = h1
    have bch1 : B h1 (W.P + 1) (ia 273 (Huf.ups A (i) (0))) 3 := by rw [← hh]; exact ia_put pbk.c _ _
    have hEh1 : Ext (fun z => z = W.P + 1) hk h1 := by rw [← hh]; exact Ext.put _ _ rfl
    clear hh
    refine S_nilk [0, 1, 4] (by simp only [proj, lk, reduceIte, Nat.reduceEqDiff]; rfl) ?_
    refine hK6 _ _ ?_; clear hK6
    refine V_reg T.mix (by kernel_rfl) ?_
    refine S_mv rfl ?_
    first | refine S_add rfl rfl (by omega) (by omega) ?_ | refine S_bin rfl rfl rfl ?_
    refine S_as rfl ?_
    refine S_nilk [0, 1, 4] (by simp only [proj, lk, reduceIte, Nat.reduceEqDiff]; rfl) ?_
    exact hK3 _ _ ⟨_, by omega, i + 1, h1, Huf.ups A i 0, by omega, pbk.setc hEh1 bch1, fun j hj => by unfold Huf.ups; split; (rfl); (exact hA j (by omega)), hEk.trans hEh1, rfl, rfl, rfl⟩
  · skip
    refine V_exitk [0, 1] rfl (by simp only [proj, lk, reduceIte, Nat.reduceEqDiff]; rfl) ?_
    refine hK1 _ _ ?_; clear hK1
    refine V_sr T.mix (by kernel_rfl) (fun K7 hK7 => ?_)
    refine S_mv rfl ?_
    refine S_nc rfl ?_
    first | refine S_fa0 T.f75_4 rfl ?_ | refine S_fa T.f75_4 rfl ?_
    refine S_ldK T.ag56 rfl (fun K' hK' => ?_)
    simp (disch := omega) only [p0, p1, p2, p3, p4, p5, p6, p7, acn, t0, t1, t2, oP_some, Nat.add_zero]
    refine hK' _ ?_; clear hK' K'
    first | refine S_ixn T.el56 rfl rfl (by omega) ?_ | refine S_ix1 T.el56 rfl rfl (by omega) (by omega) ?_ | refine S_ix T.el56 rfl rfl (by omega) (by omega) ?_
    refine S_st T.sz3 rfl rfl rfl rfl (by simp (disch := omega) only [hoc]) ?_
    generalize hh : putH _ _ _ = h2
    have bch2 : B h2 (W.P + 1) (ia 273 (Huf.ups A (256) (1))) 3 := by rw [← hh]; exact ia_put pbk.c _ _
    have hEh2 : Ext (fun z => z = W.P + 1) hk h2 := by rw [← hh]; exact Ext.put _ _ rfl
    clear hh
    refine S_nil (hK7 _ _ (V_keep [0, 1] (by simp only [proj, lk, reduceIte, Nat.reduceEqDiff]; rfl) ?_)); clear hK7
    refine V_sr T.mix (by kernel_rfl) (fun K8 hK8 => ?_)
    refine S_as rfl ?_
    refine S_nil (hK8 _ _ (V_keep [0, 1, 5] (by simp only [proj, lk, reduceIte, Nat.reduceEqDiff]; rfl) ?_)); clear hK8
    refine V_block ?_
    refine V_loop (fun m l h' => ∃ (k : Nat) (hk : Heap), (k ≤ Q.length) ∧ (PB hk W (cnT (Q.take k)) pl co wi) ∧ (Ext (fun z => z = W.P + 1) h hk) ∧ m = Q.length - k ∧ l = [(0, .pointer (some ⟨W.P, 0, none⟩)), (1, .slice (some ⟨nb, 0, none⟩) Q.length Q.length), (5, .int .i64 (k : Int))] ∧ hk = h') _ ⟨0, h2, Nat.zero_le _, (pbk.setc hEh2 (ia_cong bch2 (fun j hj => by unfold Huf.ups; show _ = cnT [] j; rw [cnT]; split; (rfl); (exact hA j (by omega))))), hEk.trans hEh2, rfl, rfl, rfl⟩ ?_
    rintro m l h' ⟨k, hk, hk_, pbA, hEk, rfl, rfl, rfl⟩ K9 hK9
    have pbk := pbA
    try clear p0 p1 p2 p3 p4 p5 p6 p7
    obtain ⟨p0, p1, p2, p3, p4, p5, p6, p7⟩ := pq (pbk.x)
    have acn := ia_at pbk.c
    have hoc := ia_ok pbk.c
    have hcl := cnT_le (Q.take k)
    have htl : (Q.take k).length ≤ 256 := by rw [List.length_take]; omega
    refine V_seq (fun K10 hK10 => ?_)
    refine V_sr T.mix (by kernel_rfl) (fun K11 hK11 => ?_)
    refine S_mv rfl ?_
    refine S_mv rfl ?_
    refine S_lenl T.el71 rfl ?_
    refine S_bin rfl rfl rfl ?_
    refine S_nil (hK11 _ _ (V_keep [0, 1, 5, 27] (by simp only [proj, lk, reduceIte, Nat.reduceEqDiff]; rfl) ?_)); clear hK11
    refine V_condp rfl (fun c18 => ?_) (fun c18 => ?_)
    · skip
      clear t0 t1 t2
      have hnb1 : nb ≠ W.P + 1 := fun e => hnb (by rw [e]; exact ⟨by omega, by omega⟩)
      have hTk : LzW.TokB hk nb Q := B.ext hT hEk hnb1
      obtain ⟨t, tm, tks, t0, t1, t2⟩ := tok_at hTk (k := k) (by omega)
      have htk := tk t tm
      have hc0 := hcl 0
      refine V_skipk [0, 1, 5] (by simp only [proj, lk, reduceIte, Nat.reduceEqDiff]; rfl) ?_
      refine hK10 _ _ ?_; clear hK10
      refine V_seq (fun K12 hK12 => ?_)
      refine V_block ?_
      refine V_sr T.mix (by kernel_rfl) (fun K13 hK13 => ?_)
      refine S_mv rfl ?_
      refine S_mv rfl ?_
      first | refine S_ixmn T.el71 rfl rfl (by omega) ?_ | refine S_ixm T.el71 rfl rfl (by omega) (by omega) ?_ | refine S_ix T.el71 rfl rfl (by omega) (by omega) ?_
      first | refine S_fa0 T.f174_0 rfl ?_ | refine S_fa T.f174_0 rfl ?_
      refine S_ldK T.ag3 rfl (fun K' hK' => ?_)
      simp (disch := omega) only [p0, p1, p2, p3, p4, p5, p6, p7, acn, t0, t1, t2, oP_some, Nat.add_zero]
      refine hK' _ ?_; clear hK' K'
      refine S_as rfl ?_
      refine S_nil (hK13 _ _ (V_keep [0, 1, 5, 6] (by simp only [proj, lk, reduceIte, Nat.reduceEqDiff]; rfl) ?_)); clear hK13
      refine V_sr T.mix (by kernel_rfl) (fun K14 hK14 => ?_)
      refine S_mv rfl ?_
      refine S_bin rfl rfl rfl ?_
      refine S_nil (hK14 _ _ (V_keep [0, 1, 5, 6, 36] (by simp only [proj, lk, reduceIte, Nat.reduceEqDiff]; rfl) ?_)); clear hK14
      refine V_condp rfl (fun c20 => ?_) (fun c20 => ?_)
      · skip
        obtain ⟨b, hb, rfl⟩ : ∃ b : Nat, b < 256 ∧ t = ⟨0, 0, (b : Int)⟩ := by rcases htk with q | ⟨n, d, h1, h2, h3, h4, e⟩; (exact q); (rw [e] at c20; simp only [] at c20; omega)
        have hcb := hcl b
        refine V_reg T.mix (by kernel_rfl) ?_
        refine S_mv rfl ?_
        refine S_nc rfl ?_
        first | refine S_fa0 T.f75_4 rfl ?_ | refine S_fa T.f75_4 rfl ?_
        refine S_ldK T.ag56 rfl (fun K' hK' => ?_)
        simp (disch := omega) only [p0, p1, p2, p3, p4, p5, p6, p7, acn, t0, t1, t2, oP_some, Nat.add_zero]
        refine hK' _ ?_; clear hK' K'
        refine S_mv rfl ?_
        refine S_mv rfl ?_
        first | refine S_ixmn T.el71 rfl rfl (by omega) ?_ | refine S_ixm T.el71 rfl rfl (by omega) (by omega) ?_ | refine S_ix T.el71 rfl rfl (by omega) (by omega) ?_
        first | refine S_fa0 T.f174_2 rfl ?_ | refine S_fa T.f174_2 rfl ?_
        refine S_ldK T.ag3 rfl (fun K' hK' => ?_)
        simp (disch := omega) only [p0, p1, p2, p3, p4, p5, p6, p7, acn, t0, t1, t2, oP_some, Nat.add_zero]
        refine hK' _ ?_; clear hK' K'
        first | refine S_ixn T.el56 rfl rfl (by omega) ?_ | refine S_ix1 T.el56 rfl rfl (by omega) (by omega) ?_ | refine S_ix T.el56 rfl rfl (by omega) (by omega) ?_
        refine S_ldK T.ag3 rfl (fun K' hK' => ?_)
        simp (disch := omega) only [p0, p1, p2, p3, p4, p5, p6, p7, acn, t0, t1, t2, oP_some, Nat.add_zero]
        refine hK' _ ?_; clear hK' K'
        refine S_addN (cnT (Q.take k) b + 1) rfl rfl (by omega) (by omega) ?_
        first | refine S_ixn T.el56 rfl rfl (by omega) ?_ | refine S_ix1 T.el56 rfl rfl (by omega) (by omega) ?_ | refine S_ix T.el56 rfl rfl (by omega) (by omega) ?_
        refine S_st T.sz3 rfl rfl rfl rfl (by simp (disch := omega) only [hoc]) ?_
        generalize hh : putH _ _ _ = h3
        have bch3 : B h3 (W.P + 1) (ia 273 (Huf.ups (cnT (Q.take k)) (b) (cnT (Q.take k) b + 1))) 3 := by rw [← hh]; exact ia_put pbk.c _ _
        have hEh3 : Ext (fun z => z = W.P + 1) hk h3 := by rw [← hh]; exact Ext.put _ _ rfl
        clear hh
        refine S_nilk [0, 1, 5] (by simp only [proj, lk, reduceIte, Nat.reduceEqDiff]; rfl) ?_
        refine hK12 _ _ ?_; clear hK12
        refine V_reg T.mix (by kernel_rfl) ?_
        refine S_mv rfl ?_
        first | refine S_add rfl rfl (by omega) (by omega) ?_ | refine S_bin rfl rfl rfl ?_
        refine S_as rfl ?_
        refine S_nilk [0, 1, 5] (by simp only [proj, lk, reduceIte, Nat.reduceEqDiff]; rfl) ?_
        exact hK9 _ _ ⟨_, by omega, k + 1, h3, by omega, pbk.setc hEh3 (ia_cong bch3 (fun j hj => by rw [ups_one, cn_snoc' tks, cn1_lit])), hEk.trans hEh3, rfl, rfl, rfl⟩
      · skip
        obtain ⟨n, d, hn1, hn2, hd1, hd2, rfl⟩ : ∃ n d : Nat, 3 ≤ n ∧ n ≤ 10 ∧ 1 ≤ d ∧ d ≤ 16 ∧ t = ⟨(n : Int), (d : Int), 0⟩ := by rcases htk with ⟨b, hb, e⟩ | q; (exfalso; exact c20 (by rw [e])); (exact q)
        have hcb := hcl (n + 254)
        have hcd := hcl (265 + dC d)
        refine V_sr T.mix (by kernel_rfl) (fun K15 hK15 => ?_)
        refine S_mv rfl ?_
        refine S_call T.hb124 rfl ?_
        refine FC.mono (lensym_spec hk n (by omega)) ?_
        rintro v' h' ⟨rfl, rfl⟩
        refine S_as rfl ?_
        refine S_nil (hK15 _ _ (V_keep [0, 1, 5, 7] (by simp only [proj, lk, reduceIte, Nat.reduceEqDiff]; rfl) ?_)); clear hK15
        refine V_sr T.mix (by kernel_rfl) (fun K16 hK16 => ?_)
        refine S_mv rfl ?_
        refine S_nc rfl ?_
        first | refine S_fa0 T.f75_4 rfl ?_ | refine S_fa T.f75_4 rfl ?_
        refine S_ldK T.ag56 rfl (fun K' hK' => ?_)
        simp (disch := omega) only [p0, p1, p2, p3, p4, p5, p6, p7, acn, t0, t1, t2, oP_some, Nat.add_zero]
        refine hK' _ ?_; clear hK' K'
        refine S_mv rfl ?_
        first | refine S_ixn T.el56 rfl rfl (by omega) ?_ | refine S_ix1 T.el56 rfl rfl (by omega) (by omega) ?_ | refine S_ix T.el56 rfl rfl (by omega) (by omega) ?_
        refine S_ldK T.ag3 rfl (fun K' hK' => ?_)
        simp (disch := omega) only [p0, p1, p2, p3, p4, p5, p6, p7, acn, t0, t1, t2, oP_some, Nat.add_zero]
        refine hK' _ ?_; clear hK' K'
        refine S_addN (cnT (Q.take k) (n + 254) + 1) rfl rfl (by omega) (by omega) ?_
        first | refine S_ixn T.el56 rfl rfl (by omega) ?_ | refine S_ix1 T.el56 rfl rfl (by omega) (by omega) ?_ | refine S_ix T.el56 rfl rfl (by omega) (by omega) ?_
        refine S_st T.sz3 rfl rfl rfl rfl (by simp (disch := omega) only [hoc]) ?_
        generalize hh : putH _ _ _ = h3
        have bch3 : B h3 (W.P + 1) (ia 273 (Huf.ups (cnT (Q.take k)) (n + 254) (cnT (Q.take k) (n + 254) + 1))) 3 := by rw [← hh]; exact ia_put pbk.c _ _
        have hEh3 : Ext (fun z => z = W.P + 1) hk h3 := by rw [← hh]; exact Ext.put _ _ rfl
        clear hh
        try clear acn hoc p4
        have pb3 := pbk.setc hEh3 bch3
        have acn := ia_at pb3.c
        have hoc := ia_ok pb3.c
        have p4 := (pq pb3.x).2.2.2.2.1
        rw [← cell_ext hEh3 (B.lt hTk) hnb1] at t1
        refine S_nil (hK16 _ _ (V_keep [0, 1, 5] (by simp only [proj, lk, reduceIte, Nat.reduceEqDiff]; rfl) ?_)); clear hK16
        refine V_sr T.mix (by kernel_rfl) (fun K17 hK17 => ?_)
        refine S_mv rfl ?_
        refine S_mv rfl ?_
        first | refine S_ixmn T.el71 rfl rfl (by omega) ?_ | refine S_ixm T.el71 rfl rfl (by omega) (by omega) ?_ | refine S_ix T.el71 rfl rfl (by omega) (by omega) ?_
        first | refine S_fa0 T.f174_1 rfl ?_ | refine S_fa T.f174_1 rfl ?_
        refine S_ldK T.ag3 rfl (fun K' hK' => ?_)
        simp (disch := omega) only [p0, p1, p2, p3, p4, p5, p6, p7, acn, t0, t1, t2, oP_some, Nat.add_zero]
        refine hK' _ ?_; clear hK' K'
        refine S_call T.hb101 rfl ?_
        refine FC.mono (distcode_spec h3 d (by omega) (by omega)) ?_
        rintro v' h' ⟨rfl, rfl⟩
        obtain ⟨dc1, _⟩ := dC_is (d := d) (by omega) (by omega)
        refine S_as rfl ?_
        refine S_nil (hK17 _ _ (V_keep [0, 1, 5, 8] (by simp only [proj, lk, reduceIte, Nat.reduceEqDiff]; rfl) ?_)); clear hK17
        refine V_reg T.mix (by kernel_rfl) ?_
        refine S_mv rfl ?_
        refine S_nc rfl ?_
        first | refine S_fa0 T.f75_4 rfl ?_ | refine S_fa T.f75_4 rfl ?_
        refine S_ldK T.ag56 rfl (fun K' hK' => ?_)
        simp (disch := omega) only [p0, p1, p2, p3, p4, p5, p6, p7, acn, t0, t1, t2, oP_some, Nat.add_zero]
        refine hK' _ ?_; clear hK' K'
        refine S_mv rfl ?_
        refine S_addN (265 + dC d) rfl rfl (by omega) (by omega) ?_
        first | refine S_ixn T.el56 rfl rfl (by omega) ?_ | refine S_ix1 T.el56 rfl rfl (by omega) (by omega) ?_ | refine S_ix T.el56 rfl rfl (by omega) (by omega) ?_
        refine S_ldK T.ag3 rfl (fun K' hK' => ?_)
        simp (disch := omega) only [p0, p1, p2, p3, p4, p5, p6, p7, acn, t0, t1, t2, oP_some, Nat.add_zero]
        refine hK' _ ?_; clear hK' K'
        have hub : Huf.ups (cnT (Q.take k)) (n + 254) (cnT (Q.take k) (n + 254) + 1) (265 + dC d) ≤ 600 := by unfold Huf.ups; split <;> omega
        refine S_addN (Huf.ups (cnT (Q.take k)) (n + 254) (cnT (Q.take k) (n + 254) + 1) (265 + dC d) + 1) rfl rfl (by omega) (by omega) ?_
        first | refine S_ixn T.el56 rfl rfl (by omega) ?_ | refine S_ix1 T.el56 rfl rfl (by omega) (by omega) ?_ | refine S_ix T.el56 rfl rfl (by omega) (by omega) ?_
        refine S_st T.sz3 rfl rfl rfl rfl (by simp (disch := omega) only [hoc]) ?_
        generalize hh : putH _ _ _ = h4
        have bch4 : B h4 (W.P + 1) (ia 273 (Huf.ups (Huf.ups (cnT (Q.take k)) (n + 254) (cnT (Q.take k) (n + 254) + 1)) (265 + dC d) (Huf.ups (cnT (Q.take k)) (n + 254) (cnT (Q.take k) (n + 254) + 1) (265 + dC d) + 1))) 3 := by rw [← hh]; exact ia_put pb3.c _ _
        have hEh4 : Ext (fun z => z = W.P + 1) h3 h4 := by rw [← hh]; exact Ext.put _ _ rfl
        clear hh
        refine S_nilk [0, 1, 5] (by simp only [proj, lk, reduceIte, Nat.reduceEqDiff]; rfl) ?_
        refine hK12 _ _ ?_; clear hK12
        refine V_reg T.mix (by kernel_rfl) ?_
        refine S_mv rfl ?_
        first | refine S_add rfl rfl (by omega) (by omega) ?_ | refine S_bin rfl rfl rfl ?_
        refine S_as rfl ?_
        refine S_nilk [0, 1, 5] (by simp only [proj, lk, reduceIte, Nat.reduceEqDiff]; rfl) ?_
        exact hK9 _ _ ⟨_, by omega, k + 1, h4, by omega, pb3.setc hEh4 (ia_cong bch4 (fun j hj => by rw [ups_one, ups_one, cn_snoc' tks, cn1_dup _ _ (by omega)]; simp only []; omega)), (hEk.trans hEh3).trans hEh4, rfl, rfl, rfl⟩
    · skip
      refine V_exitk [] rfl (by simp only [proj, lk, reduceIte, Nat.reduceEqDiff]; rfl) ?_
      -- end
      refine hR _ _ (ret0 rfl ?_)
      have hkT : k = Q.length := by omega
      rw [hkT, List.take_length] at pbA
      exact ⟨rfl, pbA, hEk⟩
set_option maxHeartbeats 1600000 in
theorem lengths_spec (h : Heap) (W : WA) (cn pl co wi : Nat → Nat) (pb : PB h W cn pl co wi) (hco : CO cn) (ua ub : HC) (ca : CB h W.XA ua) (cb : CB h W.XB ub) (hfA : ua.fill ≤ 265) (hfB : ub.fill ≤ 265) (dPA : ∀ z, PT W.P z → ¬ CT W.XA z) (dPB : ∀ z, PT W.P z → ¬ CT W.XB z) (dAB : ∀ z, CT W.XA z → ¬ CT W.XB z) :
    FC Tryz.prog 94 (#[.pointer (some ⟨W.P, 0, none⟩)] : Array Value) h fun rv h' => rv = .tuple #[] ∧ ∃ va vb, PB h' W cn (fun i => (dyL cn).getD i 0) co wi ∧ CB h' W.XA va ∧ CB h' W.XB vb ∧ KC ua va ∧ KC ub vb ∧ va.fill ≤ 265 ∧ vb.fill ≤ 265 ∧ Ext (fun z => CT W.XA z ∨ CT W.XB z ∨ z = W.P + 2) h h' := by
  try clear p0 p1 p2 p3 p4 p5 p6 p7
  obtain ⟨p0, p1, p2, p3, p4, p5, p6, p7⟩ := pq (pb.x)
  have hPl := pb.lt
  have hXA := ca.lt
  have hXB := cb.lt
  have hlA : (Huf.planR (cA cn) 10).length = 265 := by rw [hco.rA]; exact lA_len (dy_len _)
  have hlB : (Huf.planR (cB cn) 10).length = 8 := by rw [hco.rB]; exact lB_len (dy_len _)
  refine FC_of [(0, .pointer (some ⟨W.P, 0, none⟩))] Tryz.func94 rfl Tryz.ntmps94 (by simp) rfl (fun R hR => ?_)
  refine V_sr T.mix (by kernel_rfl) (fun K1 hK1 => ?_)
  refine S_mv rfl ?_
  refine S_nc rfl ?_
  first | refine S_fa0 T.f75_1 rfl ?_ | refine S_fa T.f75_1 rfl ?_
  refine S_ldK T.ag49 rfl (fun K' hK' => ?_)
  simp (disch := omega) only [p0, p1, p2, p3, p4, p5, p6, p7, oP_some, Nat.add_zero]
  refine hK' _ ?_; clear hK' K'
  refine S_mv rfl ?_
  refine S_nc rfl ?_
  first | refine S_fa0 T.f75_4 rfl ?_ | refine S_fa T.f75_4 rfl ?_
  refine S_ldK T.ag56 rfl (fun K' hK' => ?_)
  simp (disch := omega) only [p0, p1, p2, p3, p4, p5, p6, p7, oP_some, Nat.add_zero]
  refine hK' _ ?_; clear hK' K'
  refine S_sl rfl rfl rfl (sliceV_hi T.el56 (by omega) (by omega)) ?_
  rw [show Int.toNat 265 = 265 from rfl]
  refine S_call T.hb125 rfl ?_
  have hpc := plan_spec h W.XA ua ca (some ⟨W.P + 1, 0, none⟩) 273 (cA cn) (OLcA pb.c 273) (fun z e => by cases e; exact dPA (W.P + 1) ⟨by omega, by omega⟩) 10 hfA
  rw [show (cA cn).length = 265 from Huf.il_len _ _] at hpc
  refine FC.mono hpc ?_
  rintro v' h1 ⟨xa, va, rfl, hx1, hxb, ca1, kcA, hfA1, hE1⟩
  rw [hlA] at hx1 ⊢
  have hz1 := hE1.1
  have pb1 := pb.ext hE1 dPA
  have cb1 := cb.ext hE1 (fun z e y => dAB z y e)
  try clear p0 p1 p2 p3 p4 p5 p6 p7
  obtain ⟨p0, p1, p2, p3, p4, p5, p6, p7⟩ := pq (pb1.x)
  refine S_mv rfl ?_
  refine S_ex rfl rfl ?_
  refine S_ex rfl rfl ?_
  refine S_as rfl ?_
  refine S_as rfl ?_
  refine S_nil (hK1 _ _ (V_keep [0, 2] (by simp only [proj, lk, reduceIte, Nat.reduceEqDiff]; rfl) ?_)); clear hK1
  refine V_sr T.mix (by kernel_rfl) (fun K2 hK2 => ?_)
  refine S_mv rfl ?_
  refine S_nc rfl ?_
  first | refine S_fa0 T.f75_2 rfl ?_ | refine S_fa T.f75_2 rfl ?_
  refine S_ldK T.ag49 rfl (fun K' hK' => ?_)
  simp (disch := omega) only [p0, p1, p2, p3, p4, p5, p6, p7, oP_some, Nat.add_zero]
  refine hK' _ ?_; clear hK' K'
  refine S_mv rfl ?_
  refine S_nc rfl ?_
  first | refine S_fa0 T.f75_4 rfl ?_ | refine S_fa T.f75_4 rfl ?_
  refine S_ldK T.ag56 rfl (fun K' hK' => ?_)
  simp (disch := omega) only [p0, p1, p2, p3, p4, p5, p6, p7, oP_some, Nat.add_zero]
  refine hK' _ ?_; clear hK' K'
  refine S_sl rfl rfl rfl (sliceV_lo (p := 265) T.el56 (by omega) (by omega) (by omega)) ?_
  simp only [Nat.zero_add, Nat.reduceMul, Nat.reduceSub]
  refine S_call T.hb125 rfl ?_
  have hpc := plan_spec h1 W.XB ub cb1 (some ⟨W.P + 1, 265, none⟩) 8 (cB cn) (OLcB pb1.c 8) (fun z e => by cases e; exact dPB (W.P + 1) ⟨by omega, by omega⟩) 10 hfB
  rw [show (cB cn).length = 8 from Huf.il_len _ _] at hpc
  refine FC.mono hpc ?_
  rintro v' h2 ⟨xb, vb, rfl, hy2, hyb, cb2, kcB, hfB1, hE2⟩
  rw [hlB] at hy2 ⊢
  have hz2 := hE2.1
  have pb2 := pb1.ext hE2 dPB
  have ca2 := ca1.ext hE2 dAB
  have hx2 := hx1.ext hE2 (fun z e y => by have h9 := hxb z e; have h8 := y.2; omega)
  try clear p0 p1 p2 p3 p4 p5 p6 p7
  obtain ⟨p0, p1, p2, p3, p4, p5, p6, p7⟩ := pq (pb2.x)
  refine S_mv rfl ?_
  refine S_ex rfl rfl ?_
  refine S_ex rfl rfl ?_
  refine S_as rfl ?_
  refine S_as rfl ?_
  refine S_nil (hK2 _ _ (V_keep [0, 2, 4] (by simp only [proj, lk, reduceIte, Nat.reduceEqDiff]; rfl) ?_)); clear hK2
  refine V_sr T.mix (by kernel_rfl) (fun K3 hK3 => ?_)
  refine S_mv rfl ?_
  refine S_nc rfl ?_
  first | refine S_fa0 T.f75_5 rfl ?_ | refine S_fa T.f75_5 rfl ?_
  refine S_ldK T.ag56 rfl (fun K' hK' => ?_)
  simp (disch := omega) only [p0, p1, p2, p3, p4, p5, p6, p7, oP_some, Nat.add_zero]
  refine hK' _ ?_; clear hK' K'
  refine S_sl rfl rfl rfl (sliceV_hi T.el56 (by omega) (by omega)) ?_
  rw [show Int.toNat 265 = 265 from rfl]
  refine S_mv rfl ?_
  refine S_copyo T.el56 rfl (k := 265) (by simp) (xs := ints (Huf.planR (cA cn) 10)) (by have h9 := OwnR.cells hx2; rw [hlA] at h9; exact h9) (show B h2 (W.P + 2) (arr 273 fun j => .int .i64 (pl j : Int)) 3 from pb2.p) (by rw [ints_len, hlA]; omega) (ints_one _) (fun h3 bp3 hE3 hz3 => ?_)
  have x3 := pb2.x.ext hE3 (show ¬ (W.P = W.P + 2) by omega)
  try clear p0 p1 p2 p3 p4 p5 p6 p7
  obtain ⟨p0, p1, p2, p3, p4, p5, p6, p7⟩ := pq (x3)
  have hy3 := hy2.ext hE3 (fun b e z => by have h9 := hyb b e; have h8 := hE1.1; omega)
  refine S_nil (hK3 _ _ (V_keep [0, 4] (by simp only [proj, lk, reduceIte, Nat.reduceEqDiff]; rfl) ?_)); clear hK3
  refine V_reg T.mix (by kernel_rfl) ?_
  refine S_mv rfl ?_
  refine S_nc rfl ?_
  first | refine S_fa0 T.f75_5 rfl ?_ | refine S_fa T.f75_5 rfl ?_
  refine S_ldK T.ag56 rfl (fun K' hK' => ?_)
  simp (disch := omega) only [p0, p1, p2, p3, p4, p5, p6, p7, oP_some, Nat.add_zero]
  refine hK' _ ?_; clear hK' K'
  refine S_sl rfl rfl rfl (sliceV_lo (p := 265) T.el56 (by omega) (by omega) (by omega)) ?_
  simp only [Nat.zero_add, Nat.reduceMul, Nat.reduceSub]
  refine S_mv rfl ?_
  refine S_copyo T.el56 rfl (k := 8) (by simp) (xs := ints (Huf.planR (cB cn) 10)) (by have h9 := OwnR.cells hy3; rw [hlB] at h9; exact h9) bp3 (by rw [ints_len, hlB]; omega) (ints_one _) (fun h4 bp4 hE4 hz4 => ?_)
  refine S_nilk [] (by simp only [proj, lk, reduceIte, Nat.reduceEqDiff]; rfl) ?_
  -- end
  refine hR _ _ (ret0 rfl ?_)
  rw [hco.rA, hco.rB] at bp4
  have bpf := two_copy (dy_len cn) bp4
  have hE24 : Ext (fun z => z = W.P + 2) h2 h4 := hE3.trans hE4
  refine ⟨rfl, va, vb, pb2.setp hE24 bpf, ca2.ext hE24 (fun z e y => dPA z (by rw [y]; exact ⟨by omega, by omega⟩) e), cb2.ext hE24 (fun z e y => dPB z (by rw [y]; exact ⟨by omega, by omega⟩) e), kcA, kcB, hfA1, hfB1, ?_⟩
  exact ((hE1.mono fun _ e => .inl e).trans (hE2.mono fun _ e => .inr (.inl e))).trans (hE24.mono fun _ e => .inr (.inr e))
set_option maxHeartbeats 1600000 in
theorem bodies_spec (h : Heap) (W : WA) (cn pl co wi : Nat → Nat) (pb : PB h W cn pl co wi) (hcn : ∀ i, cn i ≤ 600) (hpl : ∀ i, i < 273 → pl i ≤ 10) :
    FC Tryz.prog 126 (#[.pointer (some ⟨W.P, 0, none⟩)] : Array Value) h fun rv h' => rv = .tuple #[.int .i64 ((bdC fixL cn : Nat) : Int), .int .i64 ((bdC (ra 273 pl) cn : Nat) : Int)] ∧ h = h' := by
  try clear p0 p1 p2 p3 p4 p5 p6 p7
  obtain ⟨p0, p1, p2, p3, p4, p5, p6, p7⟩ := pq (pb.x)
  have acn := ia_at pb.c
  have apl := ia_at pb.p
  have bFX := bFX_ hcn
  have bDY := bDY_ hcn hpl
  refine FC_of [(0, .pointer (some ⟨W.P, 0, none⟩))] Tryz.func126 rfl Tryz.ntmps126 (by simp) rfl (fun R hR => ?_)
  refine V_sr T.mix (by kernel_rfl) (fun K1 hK1 => ?_)
  refine S_as rfl ?_
  refine S_as rfl ?_
  refine S_nil (hK1 _ _ (V_keep [0] (by simp only [proj, lk, reduceIte, Nat.reduceEqDiff]; rfl) ?_)); clear hK1
  refine V_sr T.mix (by kernel_rfl) (fun K2 hK2 => ?_)
  refine S_as rfl ?_
  refine S_nil (hK2 _ _ (V_keep [0, 4] (by simp only [proj, lk, reduceIte, Nat.reduceEqDiff]; rfl) ?_)); clear hK2
  refine V_sr T.mix (by kernel_rfl) (fun K3 hK3 => ?_)
  refine S_as rfl ?_
  refine S_nil (hK3 _ _ (V_keep [0, 4, 5] (by simp only [proj, lk, reduceIte, Nat.reduceEqDiff]; rfl) ?_)); clear hK3
  refine V_seq (fun K4 hK4 => ?_)
  refine V_sr T.mix (by kernel_rfl) (fun K5 hK5 => ?_)
  refine S_as rfl ?_
  refine S_nil (hK5 _ _ (V_keep [0, 4, 5, 6] (by simp only [proj, lk, reduceIte, Nat.reduceEqDiff]; rfl) ?_)); clear hK5
  refine V_block ?_
  refine V_loop (fun m l h' => ∃ (s fx dy : Nat), (s ≤ 265) ∧ (fx = Huf.sm (fun s => cn s * (fixL.getD s 0 + mo s)) s) ∧ (dy = Huf.sm (fun s => cn s * ((ra 273 pl).getD s 0 + mo s)) s) ∧ m = 265 - s ∧ l = [(0, .pointer (some ⟨W.P, 0, none⟩)), (4, .int .i64 (fx : Int)), (5, .int .i64 (dy : Int)), (6, .int .i64 (s : Int))] ∧ h = h') _ ⟨0, 0, 0, Nat.zero_le _, rfl, rfl, rfl, rfl, rfl⟩ ?_
  rintro m l h' ⟨s, fx, dy, hs, hfx, hdy, rfl, rfl, rfl⟩ K6 hK6
  have b1 := bFX s (by omega)
  have b2 := bDY s (by omega)
  refine V_seq (fun K7 hK7 => ?_)
  refine V_sr T.mix (by kernel_rfl) (fun K8 hK8 => ?_)
  refine S_mv rfl ?_
  refine S_bin rfl rfl rfl ?_
  refine S_nil (hK8 _ _ (V_keep [0, 4, 5, 6, 14] (by simp only [proj, lk, reduceIte, Nat.reduceEqDiff]; rfl) ?_)); clear hK8
  refine V_condp rfl (fun c43 => ?_) (fun c43 => ?_)
  · skip
    refine V_skipk [0, 4, 5, 6] (by simp only [proj, lk, reduceIte, Nat.reduceEqDiff]; rfl) ?_
    refine hK7 _ _ ?_; clear hK7
    refine V_seq (fun K9 hK9 => ?_)
    refine V_block ?_
    refine V_sr T.mix (by kernel_rfl) (fun K10 hK10 => ?_)
    refine S_mv rfl ?_
    refine S_nc rfl ?_
    first | refine S_fa0 T.f75_4 rfl ?_ | refine S_fa T.f75_4 rfl ?_
    refine S_ldK T.ag56 rfl (fun K' hK' => ?_)
    simp (disch := omega) only [p0, p1, p2, p3, p4, p5, p6, p7, acn, apl, oP_some, Nat.add_zero]
    refine hK' _ ?_; clear hK' K'
    refine S_mv rfl ?_
    first | refine S_ixn T.el56 rfl rfl (by omega) ?_ | refine S_ix1 T.el56 rfl rfl (by omega) (by omega) ?_ | refine S_ix T.el56 rfl rfl (by omega) (by omega) ?_
    refine S_ldK T.ag3 rfl (fun K' hK' => ?_)
    simp (disch := omega) only [p0, p1, p2, p3, p4, p5, p6, p7, acn, apl, oP_some, Nat.add_zero]
    refine hK' _ ?_; clear hK' K'
    refine S_as rfl ?_
    refine S_nil (hK10 _ _ (V_keep [0, 4, 5, 6, 7] (by simp only [proj, lk, reduceIte, Nat.reduceEqDiff]; rfl) ?_)); clear hK10
    refine V_sr T.mix (by kernel_rfl) (fun K11 hK11 => ?_)
    refine S_mv rfl ?_
    refine S_bin rfl rfl rfl ?_
    refine S_nil (hK11 _ _ (V_keep [0, 4, 5, 6, 7, 25] (by simp only [proj, lk, reduceIte, Nat.reduceEqDiff]; rfl) ?_)); clear hK11
    refine V_condp rfl (fun c45 => ?_) (fun c45 => ?_)
    · skip
      refine V_sr T.mix (by kernel_rfl) (fun K12 hK12 => ?_)
      refine S_mv rfl ?_
      refine S_call T.hb106 rfl ?_
      refine FC.mono (fixedlen_spec h s (by omega)) ?_
      rintro v' h' ⟨rfl, rfl⟩
      refine S_as rfl ?_
      refine S_nil (hK12 _ _ (V_keep [0, 4, 5, 6, 7, 8] (by simp only [proj, lk, reduceIte, Nat.reduceEqDiff]; rfl) ?_)); clear hK12
      refine V_sr T.mix (by kernel_rfl) (fun K13 hK13 => ?_)
      refine S_mv rfl ?_
      refine S_mv rfl ?_
      refine S_mv rfl ?_
      have h9 := Nat.mul_le_mul (hcn s) (fix_le9 (i := s) (by omega))
      refine S_mul rfl rfl (by rw [← Int.natCast_mul]; omega) (by rw [← Int.natCast_mul]; omega) ?_
      rw [← Int.natCast_mul]
      refine S_addN (fx + cn s * fixL.getD s 0) rfl rfl (by omega) (by omega) ?_
      refine S_as rfl ?_
      refine S_nil (hK13 _ _ (V_keep [0, 4, 5, 6, 7] (by simp only [proj, lk, reduceIte, Nat.reduceEqDiff]; rfl) ?_)); clear hK13
      refine V_reg T.mix (by kernel_rfl) ?_
      refine S_mv rfl ?_
      refine S_mv rfl ?_
      refine S_mv rfl ?_
      refine S_nc rfl ?_
      first | refine S_fa0 T.f75_5 rfl ?_ | refine S_fa T.f75_5 rfl ?_
      refine S_ldK T.ag56 rfl (fun K' hK' => ?_)
      simp (disch := omega) only [p0, p1, p2, p3, p4, p5, p6, p7, acn, apl, oP_some, Nat.add_zero]
      refine hK' _ ?_; clear hK' K'
      refine S_mv rfl ?_
      first | refine S_ixn T.el56 rfl rfl (by omega) ?_ | refine S_ix1 T.el56 rfl rfl (by omega) (by omega) ?_ | refine S_ix T.el56 rfl rfl (by omega) (by omega) ?_
      refine S_ldK T.ag3 rfl (fun K' hK' => ?_)
      simp (disch := omega) only [p0, p1, p2, p3, p4, p5, p6, p7, acn, apl, oP_some, Nat.add_zero]
      refine hK' _ ?_; clear hK' K'
      have h8 := Nat.mul_le_mul (hcn s) (hpl s (by omega))
      refine S_mul rfl rfl (by rw [← Int.natCast_mul]; omega) (by rw [← Int.natCast_mul]; omega) ?_
      rw [← Int.natCast_mul]
      refine S_addN (dy + cn s * pl s) rfl rfl (by omega) (by omega) ?_
      refine S_as rfl ?_
      refine S_nilk [0, 4, 5, 6] (by simp only [proj, lk, reduceIte, Nat.reduceEqDiff]; rfl) ?_
      refine hK9 _ _ ?_; clear hK9
      refine V_reg T.mix (by kernel_rfl) ?_
      refine S_mv rfl ?_
      first | refine S_add rfl rfl (by omega) (by omega) ?_ | refine S_bin rfl rfl rfl ?_
      refine S_as rfl ?_
      refine S_nilk [0, 4, 5, 6] (by simp only [proj, lk, reduceIte, Nat.reduceEqDiff]; rfl) ?_
      exact hK6 _ _ ⟨_, by omega, s + 1, _, _, by omega, by rw [hfx, Huf.sm, mo_0 (by omega), Nat.add_zero], by rw [hdy, Huf.sm, mo_0 (by omega), ra_at (by omega), Nat.add_zero], rfl, rfl, rfl⟩
    · skip
      refine V_skipk [0, 4, 5, 6] (by simp only [proj, lk, reduceIte, Nat.reduceEqDiff]; rfl) ?_
      refine hK9 _ _ ?_; clear hK9
      refine V_reg T.mix (by kernel_rfl) ?_
      refine S_mv rfl ?_
      first | refine S_add rfl rfl (by omega) (by omega) ?_ | refine S_bin rfl rfl rfl ?_
      refine S_as rfl ?_
      refine S_nilk [0, 4, 5, 6] (by simp only [proj, lk, reduceIte, Nat.reduceEqDiff]; rfl) ?_
      exact hK6 _ _ ⟨_, by omega, s + 1, fx, dy, by omega, by rw [hfx, Huf.sm, show cn s = 0 by omega, Nat.zero_mul]; rfl, by rw [hdy, Huf.sm, show cn s = 0 by omega, Nat.zero_mul]; rfl, rfl, rfl, rfl⟩
  · skip
    refine V_exitk [0, 4, 5] rfl (by simp only [proj, lk, reduceIte, Nat.reduceEqDiff]; rfl) ?_
    refine hK4 _ _ ?_; clear hK4
    refine V_seq (fun K14 hK14 => ?_)
    refine V_sr T.mix (by kernel_rfl) (fun K15 hK15 => ?_)
    refine S_as rfl ?_
    refine S_nil (hK15 _ _ (V_keep [0, 4, 5, 9] (by simp only [proj, lk, reduceIte, Nat.reduceEqDiff]; rfl) ?_)); clear hK15
    refine V_block ?_
    refine V_loop (fun m l h' => ∃ (c fx dy : Nat), (c ≤ 8) ∧ (fx = Huf.sm (fun s => cn s * (fixL.getD s 0 + mo s)) (265 + c)) ∧ (dy = Huf.sm (fun s => cn s * ((ra 273 pl).getD s 0 + mo s)) (265 + c)) ∧ m = 8 - c ∧ l = [(0, .pointer (some ⟨W.P, 0, none⟩)), (4, .int .i64 (fx : Int)), (5, .int .i64 (dy : Int)), (9, .int .i64 (c : Int))] ∧ h = h') _ ⟨0, fx, dy, Nat.zero_le _, by rw [hfx, show s = 265 by omega], by rw [hdy, show s = 265 by omega], rfl, rfl, rfl⟩ ?_
    rintro m l h' ⟨c, fx, dy, hc, hfx, hdy, rfl, rfl, rfl⟩ K16 hK16
    have b1 := bFX (265 + c) (by omega)
    have b2 := bDY (265 + c) (by omega)
    refine V_seq (fun K17 hK17 => ?_)
    refine V_sr T.mix (by kernel_rfl) (fun K18 hK18 => ?_)
    refine S_mv rfl ?_
    refine S_bin rfl rfl rfl ?_
    refine S_nil (hK18 _ _ (V_keep [0, 4, 5, 9, 45] (by simp only [proj, lk, reduceIte, Nat.reduceEqDiff]; rfl) ?_)); clear hK18
    refine V_condp rfl (fun c51 => ?_) (fun c51 => ?_)
    · skip
      refine V_skipk [0, 4, 5, 9] (by simp only [proj, lk, reduceIte, Nat.reduceEqDiff]; rfl) ?_
      refine hK17 _ _ ?_; clear hK17
      refine V_seq (fun K19 hK19 => ?_)
      refine V_block ?_
      refine V_sr T.mix (by kernel_rfl) (fun K20 hK20 => ?_)
      refine S_mv rfl ?_
      refine S_nc rfl ?_
      first | refine S_fa0 T.f75_4 rfl ?_ | refine S_fa T.f75_4 rfl ?_
      refine S_ldK T.ag56 rfl (fun K' hK' => ?_)
      simp (disch := omega) only [p0, p1, p2, p3, p4, p5, p6, p7, acn, apl, oP_some, Nat.add_zero]
      refine hK' _ ?_; clear hK' K'
      refine S_mv rfl ?_
      refine S_addN (265 + c) rfl rfl (by omega) (by omega) ?_
      first | refine S_ixn T.el56 rfl rfl (by omega) ?_ | refine S_ix1 T.el56 rfl rfl (by omega) (by omega) ?_ | refine S_ix T.el56 rfl rfl (by omega) (by omega) ?_
      refine S_ldK T.ag3 rfl (fun K' hK' => ?_)
      simp (disch := omega) only [p0, p1, p2, p3, p4, p5, p6, p7, acn, apl, oP_some, Nat.add_zero]
      refine hK' _ ?_; clear hK' K'
      refine S_as rfl ?_
      refine S_nil (hK20 _ _ (V_keep [0, 4, 5, 9, 10] (by simp only [proj, lk, reduceIte, Nat.reduceEqDiff]; rfl) ?_)); clear hK20
      refine V_sr T.mix (by kernel_rfl) (fun K21 hK21 => ?_)
      refine S_mv rfl ?_
      refine S_bin rfl rfl rfl ?_
      refine S_nil (hK21 _ _ (V_keep [0, 4, 5, 9, 10, 57] (by simp only [proj, lk, reduceIte, Nat.reduceEqDiff]; rfl) ?_)); clear hK21
      refine V_condp rfl (fun c53 => ?_) (fun c53 => ?_)
      · skip
        refine V_sr T.mix (by kernel_rfl) (fun K22 hK22 => ?_)
        refine S_mv rfl ?_
        refine S_call T.hb108 rfl ?_
        refine FC.mono (distbase_spec h c (by omega)) ?_
        rintro v' h' ⟨rfl, rfl⟩
        refine S_mv rfl ?_
        refine S_ex rfl rfl ?_
        refine S_ex rfl rfl ?_
        refine S_as rfl ?_
        refine S_as rfl ?_
        refine S_nil (hK22 _ _ (V_keep [0, 4, 5, 9, 10, 12] (by simp only [proj, lk, reduceIte, Nat.reduceEqDiff]; rfl) ?_)); clear hK22
        refine V_sr T.mix (by kernel_rfl) (fun K23 hK23 => ?_)
        refine S_mv rfl ?_
        refine S_mv rfl ?_
        refine S_mv rfl ?_
        have hdm := dM_le c
        refine S_addN (3 + dM c) rfl rfl (by omega) (by omega) ?_
        have h9 := Nat.mul_le_mul (hcn (265 + c)) (show 3 + dM c ≤ 5 by omega)
        refine S_mul rfl rfl (by rw [← Int.natCast_mul]; omega) (by rw [← Int.natCast_mul]; omega) ?_
        rw [← Int.natCast_mul]
        refine S_addN (fx + cn (265 + c) * (3 + dM c)) rfl rfl (by omega) (by omega) ?_
        refine S_as rfl ?_
        refine S_nil (hK23 _ _ (V_keep [0, 4, 5, 9, 10, 12] (by simp only [proj, lk, reduceIte, Nat.reduceEqDiff]; rfl) ?_)); clear hK23
        refine V_reg T.mix (by kernel_rfl) ?_
        refine S_mv rfl ?_
        refine S_mv rfl ?_
        refine S_mv rfl ?_
        refine S_nc rfl ?_
        first | refine S_fa0 T.f75_5 rfl ?_ | refine S_fa T.f75_5 rfl ?_
        refine S_ldK T.ag56 rfl (fun K' hK' => ?_)
        simp (disch := omega) only [p0, p1, p2, p3, p4, p5, p6, p7, acn, apl, oP_some, Nat.add_zero]
        refine hK' _ ?_; clear hK' K'
        refine S_mv rfl ?_
        refine S_addN (265 + c) rfl rfl (by omega) (by omega) ?_
        first | refine S_ixn T.el56 rfl rfl (by omega) ?_ | refine S_ix1 T.el56 rfl rfl (by omega) (by omega) ?_ | refine S_ix T.el56 rfl rfl (by omega) (by omega) ?_
        refine S_ldK T.ag3 rfl (fun K' hK' => ?_)
        simp (disch := omega) only [p0, p1, p2, p3, p4, p5, p6, p7, acn, apl, oP_some, Nat.add_zero]
        refine hK' _ ?_; clear hK' K'
        refine S_mv rfl ?_
        have hp9 := hpl (265 + c) (by omega)
        refine S_addN (pl (265 + c) + dM c) rfl rfl (by omega) (by omega) ?_
        have h8 := Nat.mul_le_mul (hcn (265 + c)) (show pl (265 + c) + dM c ≤ 12 by omega)
        refine S_mul rfl rfl (by rw [← Int.natCast_mul]; omega) (by rw [← Int.natCast_mul]; omega) ?_
        rw [← Int.natCast_mul]
        refine S_addN (dy + cn (265 + c) * (pl (265 + c) + dM c)) rfl rfl (by omega) (by omega) ?_
        refine S_as rfl ?_
        refine S_nilk [0, 4, 5, 9] (by simp only [proj, lk, reduceIte, Nat.reduceEqDiff]; rfl) ?_
        refine hK19 _ _ ?_; clear hK19
        refine V_reg T.mix (by kernel_rfl) ?_
        refine S_mv rfl ?_
        first | refine S_add rfl rfl (by omega) (by omega) ?_ | refine S_bin rfl rfl rfl ?_
        refine S_as rfl ?_
        refine S_nilk [0, 4, 5, 9] (by simp only [proj, lk, reduceIte, Nat.reduceEqDiff]; rfl) ?_
        exact hK16 _ _ ⟨_, by omega, c + 1, _, _, by omega, by rw [hfx, show 265 + (c + 1) = 265 + c + 1 by omega, Huf.sm, mo_1, fix_at (by omega), if_neg (by omega), if_neg (by omega)], by rw [hdy, show 265 + (c + 1) = 265 + c + 1 by omega, Huf.sm, mo_1, ra_at (by omega)], rfl, rfl, rfl⟩
      · skip
        refine V_skipk [0, 4, 5, 9] (by simp only [proj, lk, reduceIte, Nat.reduceEqDiff]; rfl) ?_
        refine hK19 _ _ ?_; clear hK19
        refine V_reg T.mix (by kernel_rfl) ?_
        refine S_mv rfl ?_
        first | refine S_add rfl rfl (by omega) (by omega) ?_ | refine S_bin rfl rfl rfl ?_
        refine S_as rfl ?_
        refine S_nilk [0, 4, 5, 9] (by simp only [proj, lk, reduceIte, Nat.reduceEqDiff]; rfl) ?_
        exact hK16 _ _ ⟨_, by omega, c + 1, fx, dy, by omega, by rw [hfx, show 265 + (c + 1) = 265 + c + 1 by omega, Huf.sm, show cn (265 + c) = 0 by omega, Nat.zero_mul]; rfl, by rw [hdy, show 265 + (c + 1) = 265 + c + 1 by omega, Huf.sm, show cn (265 + c) = 0 by omega, Nat.zero_mul]; rfl, rfl, rfl, rfl⟩
    · skip
      refine V_exitk [4, 5] rfl (by simp only [proj, lk, reduceIte, Nat.reduceEqDiff]; rfl) ?_
      refine hK14 _ _ ?_; clear hK14
      refine V_sr T.mix (by kernel_rfl) (fun K24 hK24 => ?_)
      refine S_mv rfl ?_
      refine S_mv rfl ?_
      refine S_as rfl ?_
      refine S_as rfl ?_
      refine S_nil (hK24 _ _ (V_keep [2, 3] (by simp only [proj, lk, reduceIte, Nat.reduceEqDiff]; rfl) ?_)); clear hK24
      refine V_ret ?_
      refine hR _ _ (ret2 rfl rfl rfl ?_)
      have hc8 : c = 8 := by omega
      subst hc8
      exact ⟨by rw [hfx, hdy]; rfl, rfl⟩
set_option maxHeartbeats 800000 in
theorem choose_spec (h : Heap) (W : WA) (cn pl co wi : Nat → Nat) (pb : PB h W cn pl co wi) (s : TS) (rt : BitW.RT h W.T W.tb s) (dPT : ∀ z, PT W.P z → z ≠ W.T ∧ z ≠ W.tb) (hcn : ∀ i, cn i ≤ 600) (hpl : ∀ i, i < 273 → pl i ≤ 10) (n : Nat) (hn : n ≤ 256) :
    FC Tryz.prog 95 (#[.pointer (some ⟨W.P, 0, none⟩), .int .i64 (n : Int)] : Array Value) h fun rv h' => rv = .int .i64 ((chs (8 * (3 + n)) (3 + bdC fixL cn) (3 + ib (itG none (ra 273 pl)) + bdC (ra 273 pl) cn) : Nat) : Int) ∧ BitW.RT h' W.T W.tb s ∧ Ext (fun z => z = W.T ∨ z = W.tb) h h' := by
  have hib := (itG_ok 273 (ra 273 pl) none (by rw [ra_len]; exact Nat.le_refl _) (fun x hx => by simp only [ra, List.mem_map, List.mem_range] at hx; obtain ⟨j, hj, e⟩ := hx; rw [← e]; exact hpl j hj)).2
  rw [ra_len] at hib
  have bFX : bdC fixL cn ≤ 6600 * 273 := bFX_ hcn 273 (Nat.le_refl _)
  have bDY : bdC (ra 273 pl) cn ≤ 7200 * 273 := bDY_ hcn hpl 273 (Nat.le_refl _)
  refine FC_of [(0, .pointer (some ⟨W.P, 0, none⟩)), (1, .int .i64 (n : Int))] Tryz.func95 rfl Tryz.ntmps95 (by simp) rfl (fun R hR => ?_)
  refine V_sr T.mix (by kernel_rfl) (fun K1 hK1 => ?_)
  refine S_as rfl ?_
  refine S_nil (hK1 _ _ (V_keep [0, 1] (by simp only [proj, lk, reduceIte, Nat.reduceEqDiff]; rfl) ?_)); clear hK1
  refine V_sr T.mix (by kernel_rfl) (fun K2 hK2 => ?_)
  refine S_mv rfl ?_
  first | refine S_add rfl rfl (by omega) (by omega) ?_ | refine S_bin rfl rfl rfl ?_
  first | refine S_mul rfl rfl (by omega) (by omega) ?_ | refine S_bin rfl rfl rfl ?_
  refine S_as rfl ?_
  refine S_nil (hK2 _ _ (V_keep [0, 5] (by simp only [proj, lk, reduceIte, Nat.reduceEqDiff]; rfl) ?_)); clear hK2
  refine V_sr T.mix (by kernel_rfl) (fun K3 hK3 => ?_)
  refine S_mv rfl ?_
  refine S_call T.hb126 rfl ?_
  refine FC.mono (bodies_spec h W cn pl co wi pb hcn hpl) ?_
  rintro v' h' ⟨rfl, rfl⟩
  refine S_mv rfl ?_
  refine S_ex rfl rfl ?_
  refine S_ex rfl rfl ?_
  refine S_as rfl ?_
  refine S_as rfl ?_
  refine S_nil (hK3 _ _ (V_keep [0, 5, 6, 7] (by simp only [proj, lk, reduceIte, Nat.reduceEqDiff]; rfl) ?_)); clear hK3
  refine V_sr T.mix (by kernel_rfl) (fun K4 hK4 => ?_)
  refine S_mv rfl ?_
  refine S_call T.hb127 rfl ?_
  have hls := list_spec h W pb.x s rt (dPT _ ⟨by omega, by omega⟩) pl pb.p hpl (dPT _ ⟨by omega, by omega⟩) false
  rw [show (decide (false = true)) = false from rfl] at hls
  refine FC.mono hls ?_
  rintro v' h1 ⟨rfl, rt1, hE1⟩
  have rt2 : BitW.RT h1 W.T W.tb s := rt1.eq (by unfold wl; rw [if_neg (by simp)])
  refine S_as rfl ?_
  refine S_nil (hK4 _ _ (V_keep [5, 6, 7, 8] (by simp only [proj, lk, reduceIte, Nat.reduceEqDiff]; rfl) ?_)); clear hK4
  refine V_sr T.mix (by kernel_rfl) (fun K5 hK5 => ?_)
  refine S_mv rfl ?_
  first | refine S_add rfl rfl (by omega) (by omega) ?_ | refine S_bin rfl rfl rfl ?_
  refine S_as rfl ?_
  refine S_nil (hK5 _ _ (V_keep [5, 6, 7, 8] (by simp only [proj, lk, reduceIte, Nat.reduceEqDiff]; rfl) ?_)); clear hK5
  refine V_sr T.mix (by kernel_rfl) (fun K6 hK6 => ?_)
  refine S_mv rfl ?_
  first | refine S_add rfl rfl (by omega) (by omega) ?_ | refine S_bin rfl rfl rfl ?_
  refine S_mv rfl ?_
  first | refine S_add rfl rfl (by omega) (by omega) ?_ | refine S_bin rfl rfl rfl ?_
  refine S_as rfl ?_
  refine S_nil (hK6 _ _ (V_keep [5, 6, 7] (by simp only [proj, lk, reduceIte, Nat.reduceEqDiff]; rfl) ?_)); clear hK6
  refine V_seq (fun K7 hK7 => ?_)
  refine V_sr T.mix (by kernel_rfl) (fun K8 hK8 => ?_)
  refine S_mv rfl ?_
  refine S_mv rfl ?_
  refine S_bin rfl rfl rfl ?_
  refine S_mv rfl ?_
  refine S_dec (fun g69 => ?_) (fun g69 => ?_)
  · skip
    refine S_gt rfl ?_
    refine S_mv rfl ?_
    refine S_gt rfl ?_
    refine S_mv rfl ?_
    refine S_gt rfl ?_
    refine S_bin rfl rfl rfl ?_
    refine S_pt rfl rfl ?_
    refine S_nil (hK8 _ _ (V_keep [6, 7, 32] (by simp only [proj, lk, reduceIte, Nat.reduceEqDiff]; rfl) ?_)); clear hK8
    refine V_condp rfl (fun c69 => ?_) (fun c69 => ?_)
    · skip
      refine V_sr T.mix (by kernel_rfl) (fun K9 hK9 => ?_)
      refine S_as rfl ?_
      refine S_nil (hK9 _ _ (V_keep [4] (by simp only [proj, lk, reduceIte, Nat.reduceEqDiff]; rfl) ?_)); clear hK9
      refine V_ret ?_
      refine hR _ _ (ret1 rfl rfl ?_)
      exact ⟨by congr 1; unfold chs; (repeat' split) <;> first | rfl | omega, rt2, hE1⟩
    · skip
      refine V_skipk [6, 7] (by simp only [proj, lk, reduceIte, Nat.reduceEqDiff]; rfl) ?_
      refine hK7 _ _ ?_; clear hK7
      refine V_seq (fun K10 hK10 => ?_)
      refine V_sr T.mix (by kernel_rfl) (fun K11 hK11 => ?_)
      refine S_mv rfl ?_
      refine S_mv rfl ?_
      refine S_bin rfl rfl rfl ?_
      refine S_nil (hK11 _ _ (V_keep [35] (by simp only [proj, lk, reduceIte, Nat.reduceEqDiff]; rfl) ?_)); clear hK11
      refine V_condp rfl (fun c72 => ?_) (fun c72 => ?_)
      · skip
        refine V_sr T.mix (by kernel_rfl) (fun K12 hK12 => ?_)
        refine S_as rfl ?_
        refine S_nil (hK12 _ _ (V_keep [4] (by simp only [proj, lk, reduceIte, Nat.reduceEqDiff]; rfl) ?_)); clear hK12
        refine V_ret ?_
        refine hR _ _ (ret1 rfl rfl ?_)
        exact ⟨by congr 1; unfold chs; (repeat' split) <;> first | rfl | omega, rt2, hE1⟩
      · skip
        refine V_skipk [] (by simp only [proj, lk, reduceIte, Nat.reduceEqDiff]; rfl) ?_
        refine hK10 _ _ ?_; clear hK10
        refine V_sr T.mix (by kernel_rfl) (fun K13 hK13 => ?_)
        refine S_as rfl ?_
        refine S_nil (hK13 _ _ (V_keep [4] (by simp only [proj, lk, reduceIte, Nat.reduceEqDiff]; rfl) ?_)); clear hK13
        refine V_ret ?_
        refine hR _ _ (ret1 rfl rfl ?_)
        exact ⟨by congr 1; unfold chs; (repeat' split) <;> first | rfl | omega, rt2, hE1⟩
  · skip
    refine S_gf rfl ?_
    refine S_gf rfl ?_
    refine S_gf rfl ?_
    refine S_pf rfl rfl ?_
    refine S_nil (hK8 _ _ (V_keep [6, 7, 32] (by simp only [proj, lk, reduceIte, Nat.reduceEqDiff]; rfl) ?_)); clear hK8
    refine V_condf rfl ?_
    refine V_skipk [6, 7] (by simp only [proj, lk, reduceIte, Nat.reduceEqDiff]; rfl) ?_
    refine hK7 _ _ ?_; clear hK7
    refine V_seq (fun K14 hK14 => ?_)
    refine V_sr T.mix (by kernel_rfl) (fun K15 hK15 => ?_)
    refine S_mv rfl ?_
    refine S_mv rfl ?_
    refine S_bin rfl rfl rfl ?_
    refine S_nil (hK15 _ _ (V_keep [35] (by simp only [proj, lk, reduceIte, Nat.reduceEqDiff]; rfl) ?_)); clear hK15
    refine V_condp rfl (fun c72a => ?_) (fun c72a => ?_)
    · skip
      refine V_sr T.mix (by kernel_rfl) (fun K16 hK16 => ?_)
      refine S_as rfl ?_
      refine S_nil (hK16 _ _ (V_keep [4] (by simp only [proj, lk, reduceIte, Nat.reduceEqDiff]; rfl) ?_)); clear hK16
      refine V_ret ?_
      refine hR _ _ (ret1 rfl rfl ?_)
      exact ⟨by congr 1; unfold chs; (repeat' split) <;> first | rfl | omega, rt2, hE1⟩
    · skip
      refine V_skipk [] (by simp only [proj, lk, reduceIte, Nat.reduceEqDiff]; rfl) ?_
      refine hK14 _ _ ?_; clear hK14
      refine V_sr T.mix (by kernel_rfl) (fun K17 hK17 => ?_)
      refine S_as rfl ?_
      refine S_nil (hK17 _ _ (V_keep [4] (by simp only [proj, lk, reduceIte, Nat.reduceEqDiff]; rfl) ?_)); clear hK17
      refine V_ret ?_
      refine hR _ _ (ret1 rfl rfl ?_)
      exact ⟨by congr 1; unfold chs; (repeat' split) <;> first | rfl | omega, rt2, hE1⟩
end Go.Proofs.Qxb6500404aGreat
