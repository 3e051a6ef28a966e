import Derived.Test.Qxb6500401aGreatNb
set_option linter.unusedVariables false
set_option linter.unusedSimpArgs false
namespace Go.Proofs.Qxb6500401aGreat
open Go.Eng Go.Trl Go.Chk Go.Wat Go.Cnf

/-- a bag of rows -/
def BG (h : Heap) (a : Option Addr) (cap : Nat) (L : Sto) : Prop := ∃ vs, OwnR 0 h a (List.length L) cap vs 49 1 ∧ ∀ i, i < List.length L → ∃ ai ci, vs[i]? = some (.slice ai (L.getD i []).length ci) ∧ IL h ai ci (L.getD i []) ∧ ∀ z, blkA ai = some z → blkA a ≠ some z
theorem BG.nil (h : Heap) : BG h none 0 [] := ⟨[], OwnR.nil _ _ _ _, fun i hi => by simp at hi⟩
theorem BG.ext {h h' : Heap} {a : Option Addr} {cap : Nat} {L : Sto} (b : BG h a cap L) (he : Ext (fun _ => False) h h') : BG h' a cap L := by
  obtain ⟨vs, h1, h2⟩ := b
  refine ⟨vs, h1.ext he (fun _ _ f => f), fun i hi => ?_⟩
  obtain ⟨ai, ci, q1, q2, q3⟩ := h2 i hi
  exact ⟨ai, ci, q1, q2.ext he (fun _ _ f => f), q3⟩
theorem BG.get {h : Heap} {a : Option Addr} {cap : Nat} {L : Sto} (b : BG h a cap L) (hl : 0 < List.length L) : ∃ bb, a = some ⟨bb, 0, none⟩ ∧ bb < h.size ∧ (∀ j, j < List.length L → okPut h ⟨bb, j, none⟩ = true) ∧ ∀ i, i < List.length L → ∃ ai ci, cellH h ⟨bb, i, none⟩ = some (.slice ai (L.getD i []).length ci) ∧ IL h ai ci (L.getD i []) ∧ ∀ z, blkA ai = some z → z ≠ bb := by
  obtain ⟨vs, h1, h2⟩ := b
  have hln := h1.len
  obtain ⟨bb, e, _, e2, e3, e4⟩ := OwnR.some h1 hl
  refine ⟨bb, e, e2, fun j hj => e4 j (by omega), fun i hi => ?_⟩
  obtain ⟨ai, ci, q1, q2, q3⟩ := h2 i hi
  refine ⟨ai, ci, ?_, q2, fun z hz f => q3 z hz (by rw [e, f]; rfl)⟩
  rw [e3 i (by omega), q1]
theorem BG.cap {h : Heap} {a : Option Addr} {cap : Nat} {L : Sto} (b : BG h a cap L) : List.length L ≤ cap := by obtain ⟨vs, h1, _⟩ := b; exact h1.len.2
theorem BG.own {h : Heap} {a : Option Addr} {cap : Nat} {L : Sto} (b : BG h a cap L) : ∃ vs, OwnR 0 h a (List.length L) cap vs 49 1 := by obtain ⟨vs, h1, _⟩ := b; exact ⟨vs, h1⟩
/-- a bag grows by a row -/
theorem BG.snoc {h h' : Heap} {a a' : Option Addr} {cap cap' : Nat} {L : Sto} {vs : List Value} {c : List Int} {ac : Option Addr} {cc : Nat} (b : BG h a cap L) (hvs : OwnR 0 h a (List.length L) cap vs 49 1) (ho : OwnR 0 h' a' (List.length L + 1) cap' (vs ++ [.slice ac c.length cc]) 49 1) (he : Ext (fun z => blkA a = some z) h h') (hb : ∀ z, blkA a' = some z → blkA a = some z ∨ h.size ≤ z) (hc : IL h ac cc c) (hcl : ∀ z, blkA ac = some z → blkA a ≠ some z) : BG h' a' cap' (L ++ [c]) := by
  obtain ⟨vs2, h1, h2⟩ := b
  have e : ∀ i, i < List.length L → vs2[i]? = vs[i]? := fun i hi => by
    rcases h1 with ⟨_, _, q, _⟩ | ⟨b1, cs1, q1, _, q2, _, _, q4, q5⟩
    · omega
    · rcases hvs with ⟨_, _, q, _⟩ | ⟨b2, cs2, r1, _, r2, _, _, r4, r5⟩
      · omega
      · rw [q1] at r1; cases r1
        have := (q2.uniq r2).1; subst this
        rw [← q5 i (by omega), ← r5 i (by omega)]
  have hln := hvs.len
  have far : ∀ (ai : Option Addr) (ci : Nat) (r : List Int), IL h ai ci r → (∀ z, blkA ai = some z → blkA a ≠ some z) → IL h' ai ci r ∧ ∀ z, blkA ai = some z → blkA a' ≠ some z := fun ai ci r hi hn => ⟨hi.ext he (fun z hz f => hn z hz f), fun z hz f => by
    rcases hb z f with q | q
    · exact hn z hz q
    · have := hi.lt hz; omega⟩
  refine ⟨vs ++ [.slice ac c.length cc], by rw [List.length_append]; exact ho, fun i hi => ?_⟩
  rw [List.length_append] at hi; simp at hi
  by_cases q : i < List.length L
  · obtain ⟨ai, ci, q1, q2, q3⟩ := h2 i q
    obtain ⟨f1, f2⟩ := far ai ci _ q2 q3
    refine ⟨ai, ci, ?_, ?_, f2⟩
    · rw [List.getElem?_append_left (by omega), ← e i q, q1]; simp [List.getElem?_append_left q]
    · simpa [List.getElem?_append_left q] using f1
  · have hie : i = List.length L := by omega
    obtain ⟨f1, f2⟩ := far ac cc c hc hcl
    refine ⟨ac, cc, ?_, ?_, f2⟩
    · rw [List.getElem?_append_right (by omega), show i - vs.length = 0 by omega]; simp [hie]
    · simpa [hie] using f1
theorem set_perm : ∀ (l : Sto) (j : Nat) (x : List Int), j < List.length l → (l.set j x).Perm (x :: l.eraseIdx j)
  | [], j, x, h => by simp at h
  | y :: l, 0, x, h => by simp
  | y :: l, j + 1, x, h => by
    have ih := set_perm l j x (by simpa using h)
    rw [List.set_cons_succ, List.eraseIdx_cons_succ]
    exact (List.Perm.cons y ih).trans (List.Perm.swap _ _ _)
theorem get_perm : ∀ (l : Sto) (j : Nat), j < List.length l → (l.getD j [] :: l.eraseIdx j).Perm l
  | [], j, h => by simp at h
  | y :: l, 0, h => by simp
  | y :: l, j + 1, h => by
    have ih := get_perm l j (by simpa using h)
    rw [List.eraseIdx_cons_succ, List.getD_cons_succ]
    exact (List.Perm.swap _ _ _).trans (List.Perm.cons y ih)
/-- the row j goes: the last takes its place -/
theorem take_perm {L : Sto} {j : Nat} (hj : j < List.length L) : L.Perm ((L.set j (L.getD (List.length L - 1) [])).take (List.length L - 1) ++ [L.getD j []]) := by
  obtain ⟨n, hn⟩ : ∃ n, List.length L = n + 1 := ⟨List.length L - 1, by omega⟩
  have hd : L = L.take n ++ [L.getD n []] := by
    have h1 := List.take_append_drop n L
    have h2 : L.drop n = [L.getD n []] := by
      rw [List.drop_eq_getElem_cons (by omega)]
      rw [List.drop_eq_nil_of_le (by omega)]
      simp [show n < List.length L by omega]
    rw [h2] at h1; exact h1.symm
  rw [hn, Nat.add_sub_cancel]
  by_cases e : j = n
  · subst e
    rw [List.take_set_of_le (Nat.le_refl _)]
    exact List.Perm.of_eq hd
  · have hjn : j < (L.take n).length := by rw [List.length_take]; omega
    rw [List.take_set]
    have p1 : ((L.take n).set j (L.getD n [])).Perm (L.getD n [] :: (L.take n).eraseIdx j) := set_perm _ _ _ hjn
    have p2 : ((L.take n).getD j [] :: (L.take n).eraseIdx j).Perm (L.take n) := get_perm _ _ hjn
    have e3 : (L.take n).getD j [] = L.getD j [] := by rw [List.getD_eq_getElem?_getD, List.getD_eq_getElem?_getD, List.getElem?_take, if_pos (show j < n by omega)]
    rw [e3] at p2
    have p3 : L.Perm (L.take n ++ [L.getD n []]) := List.Perm.of_eq hd
    refine p3.trans ?_
    refine (p2.symm.append_right _).trans ?_
    refine List.Perm.trans ?_ (p1.symm.append_right _)
    rw [List.cons_append, List.cons_append]
    generalize (L.take n).eraseIdx j = M
    generalize L.getD n [] = x
    generalize L.getD j [] = y
    refine (List.perm_append_comm (l₁ := y :: M) (l₂ := [x])).trans ?_
    show (x :: y :: M).Perm (x :: (M ++ [y]))
    exact List.Perm.cons _ (List.perm_append_comm (l₁ := [y]) (l₂ := M))
/-- the heap's side of it -/
theorem BG.cut {h : Heap} {bb cap j : Nat} {L : Sto} {v : Value} (b : BG h (some ⟨bb, 0, none⟩) cap L) (hj : j < List.length L) (hv : cellH h ⟨bb, List.length L - 1, none⟩ = some v) : BG (putH h ⟨bb, j, none⟩ v) (some ⟨bb, 0, none⟩) cap ((L.set j (L.getD (List.length L - 1) [])).take (List.length L - 1)) := by
  obtain ⟨vs, h1, h2⟩ := b
  have hE : Ext (fun z => z = bb) h (putH h ⟨bb, j, none⟩ v) := Ext.put _ _ rfl
  rcases h1 with ⟨q, _⟩ | ⟨b2, cs, q1, q2, q3, q4, q5, q6, q7⟩
  · cases q
  · cases q1
    have hlen : ((L.set j (L.getD (List.length L - 1) [])).take (List.length L - 1)).length = List.length L - 1 := by rw [List.length_take, List.length_set]; omega
    have hvl : vs[List.length L - 1]? = some v := by
      rw [← q7 _ (by omega), ← q3.cell]; exact hv
    refine ⟨(vs.set j v).take (List.length L - 1), .inr ⟨bb, _, rfl, Nat.zero_le _, q3.put j v, by rw [Array.size_setIfInBounds]; exact q4, by rw [hlen]; omega, by rw [hlen, List.length_take, List.length_set]; omega, fun i hi => ?_⟩, fun i hi => ?_⟩
    · rw [List.length_take, List.length_set] at hi
      rw [List.getElem?_take, if_pos (by omega), List.getElem?_set, Array.getElem?_setIfInBounds]
      by_cases e : j = i
      · subst e; rw [if_pos rfl, if_pos rfl, if_pos (by omega), if_pos (by omega)]
      · rw [if_neg e, if_neg e]; exact q7 i (by omega)
    · rw [hlen] at hi
      have hgd : ((L.set j (L.getD (List.length L - 1) [])).take (List.length L - 1)).getD i [] = if j = i then L.getD (List.length L - 1) [] else L.getD i [] := by
        rw [List.getD_eq_getElem?_getD, List.getElem?_take, if_pos hi, List.getElem?_set]
        by_cases e : j = i
        · rw [if_pos e, if_pos e, if_pos (by omega)]; rfl
        · rw [if_neg e, if_neg e]; rfl
      have hnx : ∀ (ai : Option Addr) (ci : Nat) (r : List Int), IL h ai ci r → (∀ z, blkA ai = some z → blkA (some (⟨bb, 0, none⟩ : Addr)) ≠ some z) → IL (putH h ⟨bb, j, none⟩ v) ai ci r := fun ai ci r hi2 hn => hi2.ext hE (fun z hz f => hn z hz (by rw [f]; rfl))
      rw [hgd, List.getElem?_take, if_pos hi, List.getElem?_set]
      by_cases e : j = i
      · rw [if_pos e, if_pos e, if_pos (by omega)]
        obtain ⟨ai, ci, r1, r2, r3⟩ := h2 (List.length L - 1) (by omega)
        rw [hvl] at r1
        exact ⟨ai, ci, r1, hnx _ _ _ r2 r3, r3⟩
      · rw [if_neg e, if_neg e]
        obtain ⟨ai, ci, r1, r2, r3⟩ := h2 i (by omega)
        exact ⟨ai, ci, r1, hnx _ _ _ r2 r3, r3⟩

def rowsF (cl : Nat → Option (List Int)) (i : Nat) : Sto := (List.range' i (52 - i)).filterMap cl
theorem rowsF_zero (cl : Nat → Option (List Int)) : rowsF cl 0 = rowsS cl 52 := by unfold rowsF rowsS; rw [List.range_eq_range']
theorem rowsF_step (cl : Nat → Option (List Int)) {i : Nat} (hi : i < 52) : rowsF cl i = (cl i).toList ++ rowsF cl (i + 1) := by
  unfold rowsF
  rw [show 52 - i = (52 - (i + 1)) + 1 by omega, List.range'_succ]
  cases e : cl i with
  | none => rw [List.filterMap_cons_none e]; rfl
  | some c => rw [List.filterMap_cons_some e]; rfl
theorem rowsF_end (cl : Nat → Option (List Int)) : rowsF cl 52 = [] := rfl
theorem rdrop1 {rows : List Rw} {i : Nat} (hi : i < rows.length) : rows.drop i = rows.getD i (false, []) :: rows.drop (i + 1) := by
  rw [List.drop_eq_getElem_cons hi]; simp [hi]
theorem adds_take {rows : List Rw} {i : Nat} (hi : i < rows.length) : adds (rows.take (i + 1)) = adds (rows.take i) + if (rows.getD i (false, [])).1 = true then 0 else 1 := by
  rw [rtake_snoc hi]
  generalize rows.getD i (false, []) = r
  obtain ⟨d, c⟩ := r
  cases d
  · rw [adds_add]; rfl
  · rw [adds_del]; rfl
theorem perm_cancel {A C : Sto} {c : List Int} (h : (A ++ [c]).Perm (C ++ [c])) : A.Perm C := (List.perm_append_right_iff [c]).1 h
theorem flat_len_rows : ∀ rows : List Rw, rows.length ≤ (flatR rows).length
  | [] => by simp
  | r :: rs => by
    have := flat_len_rows rs
    rw [show flatR (r :: rs) = oneR r ++ flatR rs from rfl, List.length_append, oneR_len]; simp; omega
theorem BG.ofLV {h h' : Heap} {a a' : Option Addr} {cap' lo hi : Nat} {L : Sto} {vs : List Value} (hr : ∀ i, i < List.length L → ∃ ai ci, vs[i]? = some (.slice ai (L.getD i []).length ci) ∧ ChkW.IL h ai ci (L.getD i []) ∧ ∀ z, blkA ai = some z → lo ≤ z ∧ z < hi ∧ blkA a ≠ some z) (hh : hi ≤ h.size) (ho : OwnR 0 h' a' (List.length L) cap' vs 49 1) (he : Ext (fun _ => False) h h') (hb : ∀ z, blkA a' = some z → h.size ≤ z) : BG h' a' cap' L :=
  ⟨vs, ho, fun i hi => by
    obtain ⟨ai, ci, q1, q2, q3⟩ := hr i hi
    exact ⟨ai, ci, q1, IL.ext (l := L.getD i []) q2 he (fun _ _ f => f), fun z hz f => by have := q3 z hz; have := hb z f; omega⟩⟩
set_option maxHeartbeats 800000 in
theorem take_spec_ (h : Heap) (a : Option Addr) (cap : Nat) (L : Sto) (bg : BG h a cap L) (hL : ∀ r ∈ L, r.length ≤ 12) (hLl : List.length L ≤ 100) (ac : Option Addr) (cc : Nat) (c : List Int) (hc : IL h ac cc c) (hcl : c.length ≤ 12) (hmem : c ∈ L) :
    FC Tryz.prog 82 (#[.slice a (List.length L) cap, .slice ac c.length cc] : Array Value) h fun rv h' => ∃ L' : Sto, rv = .tuple #[.slice a (List.length L') cap, .bool true] ∧ BG h' a cap L' ∧ L.Perm (L' ++ [c]) ∧ Ext (fun z => blkA a = some z) h h' := by
  have hcap := bg.cap
  obtain ⟨hcell, hlast⟩ : True ∧ True := ⟨trivial, trivial⟩
  refine FC_of [(0, .slice a (List.length L) cap), (1, .slice ac c.length cc)] Tryz.func82 rfl Tryz.ntmps82 (by simp) rfl (fun R hR => ?_)
  refine V_sr T.mix (by kernel_rfl) (fun K1 hK1 => ?_)
  refine S_as rfl ?_
  refine S_as rfl ?_
  refine S_nil (hK1 _ _ (V_keep [0, 1] (by simp only [proj, lk, reduceIte, Nat.reduceEqDiff]; rfl) ?_)); clear hK1
  refine V_seq (fun K2 hK2 => ?_)
  refine V_sr T.mix (by kernel_rfl) (fun K3 hK3 => ?_)
  refine S_as rfl ?_
  refine S_nil (hK3 _ _ (V_keep [0, 1, 6] (by simp only [proj, lk, reduceIte, Nat.reduceEqDiff]; rfl) ?_)); clear hK3
  refine V_block ?_
  refine V_loop (fun m l h' => ∃ (j : Nat), (j ≤ List.length L) ∧ (∀ i, i < j → L.getD i [] ≠ c) ∧ m = List.length L - j ∧ l = [(0, .slice a (List.length L) cap), (1, .slice ac c.length cc), (6, .int .i64 (j : Int))] ∧ h = h') _ ⟨0, by omega, fun i hi => by omega, rfl, rfl, rfl⟩ ?_
  rintro m l h' ⟨j, hj, hno, rfl, rfl, rfl⟩ K4 hK4
  refine V_seq (fun K5 hK5 => ?_)
  refine V_sr T.mix (by kernel_rfl) (fun K6 hK6 => ?_)
  refine S_mv rfl ?_
  refine S_mv rfl ?_
  refine S_lenl T.el38 rfl ?_
  refine S_bin rfl rfl rfl ?_
  refine S_nil (hK6 _ _ (V_keep [0, 1, 6, 11] (by simp only [proj, lk, reduceIte, Nat.reduceEqDiff]; rfl) ?_)); clear hK6
  refine V_condp rfl (fun c215 => ?_) (fun c215 => ?_)
  · skip
    obtain ⟨bb, rfl, hbl, bok, hgt⟩ := bg.get (by omega)
    obtain ⟨ai, ci, hcell, hIc, hbi⟩ := hgt j (by omega)
    obtain ⟨al, cl, hlast, hIl, _⟩ := hgt (List.length L - 1) (by omega)
    have hrl := hL (L.getD j []) (by rw [List.getD_eq_getElem?_getD, List.getElem?_eq_getElem (by omega)]; exact List.getElem_mem (by omega))
    refine V_skipk [0, 1, 6] (by simp only [proj, lk, reduceIte, Nat.reduceEqDiff]; rfl) ?_
    refine hK5 _ _ ?_; clear hK5
    refine V_seq (fun K7 hK7 => ?_)
    refine V_block ?_
    refine V_sr T.mix (by kernel_rfl) (fun K8 hK8 => ?_)
    refine S_mv rfl ?_
    refine S_mv rfl ?_
    first | refine S_ixn T.el38 rfl rfl (by omega) ?_ | refine S_ix1 T.el38 rfl rfl (by omega) (by omega) ?_ | refine S_ix T.el38 rfl rfl (by omega) (by omega) ?_
    refine S_ldK T.ag49 rfl (fun K' hK' => ?_)
    simp (disch := omega) only [hcell, hlast, oP_some, Nat.add_zero]
    refine hK' _ ?_; clear hK' K'
    refine S_mv rfl ?_
    refine S_call T.hb36 rfl ?_
    refine FC.mono (sameints_spec h ai ac ci cc (L.getD j []) c hIc hc (by omega) (by omega)) ?_
    rintro v' h' ⟨rfl, rfl⟩
    refine S_as rfl ?_
    refine S_nil (hK8 _ _ (V_keep [0, 1, 6, 7] (by simp only [proj, lk, reduceIte, Nat.reduceEqDiff]; rfl) ?_)); clear hK8
    refine V_sr T.mix (by kernel_rfl) (fun K9 hK9 => ?_)
    refine S_mv rfl ?_
    refine S_nil (hK9 _ _ (V_keep [0, 1, 6, 20] (by simp only [proj, lk, reduceIte, Nat.reduceEqDiff]; rfl) ?_)); clear hK9
    refine V_condb rfl (fun c217 => ?_) (fun c217 => ?_)
    · skip
      refine V_sr T.mix (by kernel_rfl) (fun K10 hK10 => ?_)
      refine S_mv rfl ?_
      refine S_mv rfl ?_
      refine S_mv rfl ?_
      refine S_mv rfl ?_
      refine S_lenl T.el38 rfl ?_
      refine S_subN (List.length L - 1) rfl rfl (by omega) (by omega) ?_
      first | refine S_ixn T.el38 rfl rfl (by omega) ?_ | refine S_ix1 T.el38 rfl rfl (by omega) (by omega) ?_ | refine S_ix T.el38 rfl rfl (by omega) (by omega) ?_
      refine S_ldK T.ag49 rfl (fun K' hK' => ?_)
      simp (disch := omega) only [hcell, hlast, oP_some, Nat.add_zero]
      refine hK' _ ?_; clear hK' K'
      first | refine S_ixn T.el38 rfl rfl (by omega) ?_ | refine S_ix1 T.el38 rfl rfl (by omega) (by omega) ?_ | refine S_ix T.el38 rfl rfl (by omega) (by omega) ?_
      refine S_st T.sz49 rfl rfl rfl rfl (by simp (disch := omega) only [bok]) ?_
      generalize hh : putH _ _ _ = h2
      have hbg2 : BG h2 (some ⟨bb, 0, none⟩) cap ((L.set j (L.getD (List.length L - 1) [])).take (List.length L - 1)) := by rw [← hh]; exact bg.cut (by omega) hlast
      have hE2 : Ext (fun z => blkA (some (⟨bb, 0, none⟩ : Addr)) = some z) h h2 := by rw [← hh]; exact Ext.put _ _ rfl
      clear hh
      refine S_nil (hK10 _ _ (V_keep [0] (by simp only [proj, lk, reduceIte, Nat.reduceEqDiff]; rfl) ?_)); clear hK10
      refine V_sr T.mix (by kernel_rfl) (fun K11 hK11 => ?_)
      refine S_mv rfl ?_
      refine S_mv rfl ?_
      refine S_lenl T.el38 rfl ?_
      refine S_subN (List.length L - 1) rfl rfl (by omega) (by omega) ?_
      refine S_sl rfl rfl rfl (sliceV_hi T.el38 (by omega) (by omega)) ?_
      rw [Int.toNat_natCast]
      refine S_as rfl ?_
      refine S_as rfl ?_
      refine S_nil (hK11 _ _ (V_keep [4, 5] (by simp only [proj, lk, reduceIte, Nat.reduceEqDiff]; rfl) ?_)); clear hK11
      refine V_ret ?_
      refine hR _ _ (ret2 rfl rfl rfl ?_)
      have hpm := take_perm (L := L) (j := j) (by omega)
      rw [show L.getD j [] = c by simpa using c217] at hpm
      refine ⟨_, ?_, hbg2, hpm, hE2⟩
      rw [List.length_take, List.length_set, Nat.min_eq_left (by omega)]
    · skip
      refine V_skipk [0, 1, 6] (by simp only [proj, lk, reduceIte, Nat.reduceEqDiff]; rfl) ?_
      refine hK7 _ _ ?_; clear hK7
      refine V_reg T.mix (by kernel_rfl) ?_
      refine S_mv rfl ?_
      first | refine S_add rfl rfl (by omega) (by omega) ?_ | refine S_bin rfl rfl rfl ?_
      refine S_as rfl ?_
      refine S_nilk [0, 1, 6] (by simp only [proj, lk, reduceIte, Nat.reduceEqDiff]; rfl) ?_
      exact hK4 _ _ ⟨_, by omega, j + 1, by omega, fun i hi => by by_cases e : i = j; (subst e; simpa using c217); (exact hno i (by omega)), rfl, rfl, rfl⟩
  · skip
    exfalso; obtain ⟨i, hi, e⟩ := List.getElem_of_mem hmem; exact hno i (by omega) (by simp [hi, e])
set_option maxHeartbeats 3200000 in
theorem logis_spec (h : Heap) (P X C K : Nat) (W : WC) (cl : Nat → Option (List Int)) (s : TS) (p : Nat) (wx : WX h C X W cl s p) (ca : Option Addr) (cc lo hi_ : Nat) (cs : Sto) (hlv : ChkW.LV lo hi_ h ca cc cs) (hcs : ∀ c ∈ cs, Nrm c) (h40 : cs.length ≤ 40) (rows : List Rw) (hN : NrmR rows) (hfl : (flatR rows).length ≤ 262144) (hply : Ply rows cs (rowsS cl 52 ++ [[]])) (f : Nat) (hadd : adds rows = f) (e q rs : Int) :
    FC Tryz.prog 45 (#[.agg #[.pointer (some ⟨P, 0, none⟩), .pointer (some ⟨X, 0, none⟩), .pointer (some ⟨C, 0, none⟩), .pointer (some ⟨K, 0, none⟩)], .slice ca (List.length cs) cc, .agg #[.int .i64 e, .int .i64 q, .bool false, .slice none 0 0, .string (textOf (printB (flatR rows))), .int .i64 (f : Int), .int .i64 rs]] : Array Value) h fun rv h' => rv = .bool true ∧ Ext (fun _ => False) h h' := by
  have hcl := wx_nl wx
  have hrnd := round (rows_flat hN) hfl
  have hrl := flat_len_rows rows
  obtain ⟨q0, q2, qok, hrc, hlc, hcell0⟩ : True ∧ True ∧ True ∧ True ∧ True ∧ True := ⟨trivial, trivial, trivial, trivial, trivial, trivial⟩
  refine FC_of [(0, .agg #[.pointer (some ⟨P, 0, none⟩), .pointer (some ⟨X, 0, none⟩), .pointer (some ⟨C, 0, none⟩), .pointer (some ⟨K, 0, none⟩)]), (1, .slice ca (List.length cs) cc), (2, .agg #[.int .i64 e, .int .i64 q, .bool false, .slice none 0 0, .string (textOf (printB (flatR rows))), .int .i64 (f : Int), .int .i64 rs])] Tryz.func45 rfl Tryz.ntmps45 (by simp) rfl (fun R hR => ?_)
  refine V_sr T.mix (by kernel_rfl) (fun K1 hK1 => ?_)
  refine S_boxA rfl ?_
  generalize hh : Array.push h _ = h1
  have hbh1 : B h1 h.size #[.pointer (some ⟨P, 0, none⟩), .pointer (some ⟨X, 0, none⟩), .pointer (some ⟨C, 0, none⟩), .pointer (some ⟨K, 0, none⟩)] 34 := by rw [← hh]; exact B.new _ _ _
  have hEh1 : Ext (fun _ => False) h h1 := by rw [← hh]; exact Ext.push _ _ _
  have hsh1 : h1.size = h.size + 1 := by rw [← hh]; simp
  clear hh
  have hs1 := hEh1.1
  refine S_boxA rfl ?_
  generalize hh : Array.push h1 _ = h2
  have hah2 : B h2 h1.size #[.int .i64 e, .int .i64 q, .bool false, .slice none 0 0, .string (textOf (printB (flatR rows))), .int .i64 (f : Int), .int .i64 rs] 82 := by rw [← hh]; exact B.new _ _ _
  have hEh2 : Ext (fun _ => False) h1 h2 := by rw [← hh]; exact Ext.push _ _ _
  have hsh2 : h2.size = h1.size + 1 := by rw [← hh]; simp
  clear hh
  try clear b0 b1 b2 b3 b4
  obtain ⟨b0, b1, b2, b3, b4⟩ := bq4 (hbh1.ext hEh2 (fun f => f))
  obtain ⟨a0, a1, a2, a3, a4, a5, a6⟩ := aq7 (hah2)
  have hs2 := hEh2.1
  refine S_as rfl ?_
  refine S_nil (hK1 _ _ (V_keep [1, 3, 5] (by simp only [proj, lk, reduceIte, Nat.reduceEqDiff]; rfl) ?_)); clear hK1
  refine V_sr T.mix (by kernel_rfl) (fun K2 hK2 => ?_)
  first | refine S_fa0 T.f82_4 rfl ?_ | refine S_fa T.f82_4 rfl ?_
  refine S_ldK T.ag9 rfl (fun K' hK' => ?_)
  simp (disch := omega) only [b0, b1, b2, b3, a4, a5, q0, q2, hrc, hlc, hcell0, oP_some, Nat.add_zero]
  refine hK' _ ?_; clear hK' K'
  refine S_call T.hb70 rfl ?_
  have hfs := flat_spec h2 (textOf (printB (flatR rows)))
  rw [hrnd] at hfs
  refine FC.mono hfs ?_
  rintro v' h3 ⟨fl, rfl, hI3, hflb, hE3⟩
  have hs3 := hE3.1
  refine S_allocA T.z115 ?_
  generalize hh : Array.push h3 _ = h4
  have hP4 : B h4 h3.size #[.int .i64 0, .int .i64 0, .slice none 0 0] 115 := by rw [← hh]; exact B.new _ _ _
  have hEh4 : Ext (fun _ => False) h3 h4 := by rw [← hh]; exact Ext.push _ _ _
  have hsh4 : h4.size = h3.size + 1 := by rw [← hh]; simp
  clear hh
  try clear q0 q1 q2 qok
  obtain ⟨q0, q1, q2, qok⟩ := pq3 (hP4)
  refine S_stl T.sz115 rfl rfl rfl rfl (fun j hj => by simp (disch := omega) only [qok]) ?_
  generalize hh : putsH _ _ _ _ = h5
  have hP5 : B h5 (h3.size) #[.int .i64 (((0 : Nat)) : Int), .int .i64 (((0 : Nat)) : Int), .slice fl (flatR rows).length (flatR rows).length] 115 := by rw [← hh]; exact B.puts_all (hP4) (cs' := #[.int .i64 (((0 : Nat)) : Int), .int .i64 (((0 : Nat)) : Int), .slice fl (flatR rows).length (flatR rows).length]) rfl
  have hEh5 : Ext (fun k => k = h3.size) h4 h5 := by rw [← hh]; exact Ext.puts (S := fun k => k = h3.size) rfl _ _ _
  clear hh
  try clear q0 q1 q2 qok
  obtain ⟨q0, q1, q2, qok⟩ := pq3 (hP5)
  have hE35 : Ext (fun _ => False) h3 h5 := hEh4.step hEh5 (fun z hz e => by omega)
  have hI5 := hI3.ext hE35 (fun _ _ f => f)
  have hs5 := hE35.1
  refine S_nil (hK2 _ _ (V_keep [1, 3, 5, 7] (by simp only [proj, lk, reduceIte, Nat.reduceEqDiff]; rfl) ?_)); clear hK2
  refine V_seq (fun K3 hK3 => ?_)
  refine V_sr T.mix (by kernel_rfl) (fun K4 hK4 => ?_)
  first | refine S_fa0 T.f115_0 rfl ?_ | refine S_fa T.f115_0 rfl ?_
  refine S_ldK T.ag54 rfl (fun K' hK' => ?_)
  simp (disch := omega) only [b0, b1, b2, b3, a4, a5, q0, q2, hrc, hlc, hcell0, oP_some, Nat.add_zero]
  refine hK' _ ?_; clear hK' K'
  refine S_bin rfl rfl rfl ?_
  refine S_nil (hK4 _ _ (V_keep [1, 3, 5, 7, 21] (by simp only [proj, lk, reduceIte, Nat.reduceEqDiff]; rfl) ?_)); clear hK4
  refine V_condp rfl (fun c229 => ?_) (fun c229 => ?_)
  · skip
    exfalso; exact c229 rfl
  · skip
    refine V_skipk [1, 3, 5, 7] (by simp only [proj, lk, reduceIte, Nat.reduceEqDiff]; rfl) ?_
    refine hK3 _ _ ?_; clear hK3
    refine V_sr T.mix (by kernel_rfl) (fun K5 hK5 => ?_)
    first | refine S_fa0 T.f115_2 rfl ?_ | refine S_fa T.f115_2 rfl ?_
    refine S_ldK T.ag49 rfl (fun K' hK' => ?_)
    simp (disch := omega) only [b0, b1, b2, b3, a4, a5, q0, q2, hrc, hlc, hcell0, oP_some, Nat.add_zero]
    refine hK' _ ?_; clear hK' K'
    refine S_call T.hb77 rfl ?_
    have hrs6 := ChkW.rows_spec h5 fl _ (flatR rows) hI5 (by omega)
    rw [rowsOf_flat hN] at hrs6
    refine FC.mono hrs6 ?_
    rintro v' h6 ⟨oa, oc, rfl, hrv6, hE6⟩
    have hs6 := hE6.1
    have hE16 : Ext (fun _ => False) h1 h6 := ((hEh2.trans hE3).trans hE35).trans hE6
    have hE26 : Ext (fun _ => False) h2 h6 := (hE3.trans hE35).trans hE6
    have hE06 : Ext (fun _ => False) h h6 := hEh1.trans hE16
    have wx6 := wx.ext hE06 (fun f => f) (fun f => f)
    have hlv6 := hlv.ext hE06 (fun _ _ _ f => f)
    obtain ⟨vs, hov, hbh6, hhi6, hrw6⟩ := hlv6
    have hone : ∀ v ∈ vs, v.oneCell' = true := fun v hv => by
      obtain ⟨i, hi, e⟩ := List.getElem_of_mem hv
      have h9 := (OwnR.len hov).1
      obtain ⟨ai, ci, z1, _⟩ := hrw6 i (by omega)
      rw [List.getElem?_eq_getElem hi, e] at z1
      injection z1 with z1; rw [z1]; rfl
    refine S_as rfl ?_
    refine S_nil (hK5 _ _ (V_keep [1, 3, 5, 8] (by simp only [proj, lk, reduceIte, Nat.reduceEqDiff]; rfl) ?_)); clear hK5
    refine V_sr T.mix (by kernel_rfl) (fun K6 hK6 => ?_)
    refine S_as rfl ?_
    refine S_nil (hK6 _ _ (V_keep [1, 3, 5, 8, 9] (by simp only [proj, lk, reduceIte, Nat.reduceEqDiff]; rfl) ?_)); clear hK6
    refine V_sr T.mix (by kernel_rfl) (fun K7 hK7 => ?_)
    refine S_mv rfl ?_
    refine S_mv rfl ?_
    refine S_appx (lo := 0) T.ei38 T.ni38 T.us38 rfl rfl rfl (OwnR.nil _ _ _ _) (Nat.zero_le _) (OwnR.cells hov) (OwnR.len hov).1 (by omega) (by decide) (by decide) (List.all_eq_true.2 hone) (fun a7 c7 h7 ho7 hE7x hb7x => ?_)
    have hE7 : Ext (fun _ => False) h6 h7 := hE7x.mono (fun z e => by simp [blkA] at e)
    have hb7 : ∀ z, blkA a7 = some z → h6.size ≤ z := fun z e => by rcases hb7x with q | q; (rw [q] at e; simp [blkA] at e); (rw [q] at e; cases e; exact Nat.le_refl _)
    rw [Nat.zero_add, List.nil_append] at ho7
    rw [Nat.zero_add]
    have hbg7 : BG h7 a7 c7 cs := BG.ofLV hrw6 hhi6 ho7 hE7 hb7
    refine S_as rfl ?_
    refine S_nil (hK7 _ _ (V_keep [3, 5, 8, 9] (by simp only [proj, lk, reduceIte, Nat.reduceEqDiff]; rfl) ?_)); clear hK7
    refine V_sr T.mix (by kernel_rfl) (fun K8 hK8 => ?_)
    refine S_as rfl ?_
    refine S_nil (hK8 _ _ (V_keep [3, 5, 8, 9, 10] (by simp only [proj, lk, reduceIte, Nat.reduceEqDiff]; rfl) ?_)); clear hK8
    refine V_sr T.mix (by kernel_rfl) (fun K9 hK9 => ?_)
    refine S_as rfl ?_
    refine S_nil (hK9 _ _ (V_keep [3, 5, 8, 9, 10] (by simp only [proj, lk, reduceIte, Nat.reduceEqDiff]; rfl) ?_)); clear hK9
    refine V_seq (fun K10 hK10 => ?_)
    refine V_sr T.mix (by kernel_rfl) (fun K11 hK11 => ?_)
    refine S_as rfl ?_
    refine S_nil (hK11 _ _ (V_keep [3, 5, 8, 9, 10, 12] (by simp only [proj, lk, reduceIte, Nat.reduceEqDiff]; rfl) ?_)); clear hK11
    refine V_block ?_
    refine V_loop (fun m l h' => ∃ (i : Nat) (hk : Heap) (ak : Option Addr) (ck : Nat) (Bg : Sto) (ad : Nat), (i ≤ rows.length) ∧ (BG hk ak ck Bg) ∧ (List.length Bg ≤ 64) ∧ (∀ r ∈ Bg, Nrm r) ∧ (Ply (rows.drop i) Bg (rowsS cl 52 ++ [[]])) ∧ (ad = adds (rows.take i)) ∧ (ad ≤ i) ∧ (∀ z, blkA ak = some z → h6.size ≤ z) ∧ (Ext (fun _ => False) h6 hk) ∧ m = rows.length - i ∧ l = [(3, .pointer (some ⟨h.size, 0, none⟩)), (5, .pointer (some ⟨h1.size, 0, none⟩)), (8, .slice oa rows.length oc), (9, .slice ak (List.length Bg) ck), (10, .int .i64 (ad : Int)), (12, .int .i64 (i : Int))] ∧ hk = h') _ ⟨0, h7, a7, c7, cs, 0, by omega, hbg7, by omega, hcs, by simpa using hply, by simp [adds], by omega, hb7, hE7, rfl, rfl, rfl⟩ ?_
    rintro m l h' ⟨i, hk, ak, ck, Bg, ad, hi, bg, hbl, hbn, ply, had, had2, hbb, hEk, rfl, rfl, rfl⟩ K12 hK12
    try clear b0 b1 b2 b3 b4
    obtain ⟨b0, b1, b2, b3, b4⟩ := bq4 ((hbh1.ext hE16 (fun f => f)).ext hEk (fun f => f))
    try clear a0 a1 a2 a3 a4 a5 a6
    obtain ⟨a0, a1, a2, a3, a4, a5, a6⟩ := aq7 ((hah2.ext hE26 (fun f => f)).ext hEk (fun f => f))
    have hsk := hEk.1
    refine V_seq (fun K13 hK13 => ?_)
    refine V_sr T.mix (by kernel_rfl) (fun K14 hK14 => ?_)
    refine S_mv rfl ?_
    refine S_mv rfl ?_
    refine S_lenl T.el132 rfl ?_
    refine S_bin rfl rfl rfl ?_
    refine S_nil (hK14 _ _ (V_keep [3, 5, 8, 9, 10, 12, 31] (by simp only [proj, lk, reduceIte, Nat.reduceEqDiff]; rfl) ?_)); clear hK14
    refine V_condp rfl (fun c237 => ?_) (fun c237 => ?_)
    · skip
      obtain ⟨rb, rfl, hrb1, hrb2, hrg⟩ := (hrv6.ext hEk (fun z h1 h2 f => f)).get (by omega)
      obtain ⟨hrc, ai, ci, hlc, hIc, hbi0⟩ := hrg i (by omega)
      have hbi : ∀ z, blkA ai = some z → z < h6.size := fun z e => by have h9 := hbi0 z e; omega
      have hrn := hN _ (rmem (show i < rows.length by omega))
      have hply2 := ply
      rw [rdrop1 (by omega)] at hply2
      obtain ⟨S1, hst, hply3⟩ := hply2
      unfold Stp at hst
      have hat := adds_take (show i < rows.length by omega)
      refine V_skipk [3, 5, 8, 9, 10, 12] (by simp only [proj, lk, reduceIte, Nat.reduceEqDiff]; rfl) ?_
      refine hK13 _ _ ?_; clear hK13
      refine V_seq (fun K15 hK15 => ?_)
      refine V_block ?_
      refine V_sr T.mix (by kernel_rfl) (fun K16 hK16 => ?_)
      refine S_mv rfl ?_
      refine S_mv rfl ?_
      refine S_ix (b := rb) (o := 0) (len := rows.length) (cap := oc) T.el132 rfl rfl (by omega) (by omega) ?_
      rw [Nat.zero_add, Int.toNat_natCast]
      first | refine S_fa0 T.f135_0 rfl ?_ | refine S_fa T.f135_0 rfl ?_
      refine S_ldK T.ag4 rfl (fun K' hK' => ?_)
      simp (disch := omega) only [b0, b1, b2, b3, a4, a5, q0, q2, hrc, hlc, hcell0, oP_some, Nat.add_zero]
      refine hK' _ ?_; clear hK' K'
      refine S_nil (hK16 _ _ (V_keep [3, 5, 8, 9, 10, 12, 38] (by simp only [proj, lk, reduceIte, Nat.reduceEqDiff]; rfl) ?_)); clear hK16
      refine V_condb rfl (fun c238 => ?_) (fun c238 => ?_)
      · skip
        have hdel : (rows.getD i (false, [])).1 = true := by simpa using c238
        rw [if_pos hdel] at hst hat
        have hmem : (rows.getD i (false, [])).2 ∈ Bg := hst.mem_iff.2 (by simp)
        refine V_sr T.mix (by kernel_rfl) (fun K17 hK17 => ?_)
        refine S_mv rfl ?_
        refine S_mv rfl ?_
        refine S_mv rfl ?_
        refine S_ix (b := rb) (o := 0) (len := rows.length) (cap := oc) T.el132 rfl rfl (by omega) (by omega) ?_
        rw [Nat.zero_add, Int.toNat_natCast]
        first | refine S_fa0 T.f135_1 rfl ?_ | refine S_fa T.f135_1 rfl ?_
        refine S_ldK T.ag49 rfl (fun K' hK' => ?_)
        simp (disch := omega) only [b0, b1, b2, b3, a4, a5, q0, q2, hrc, hlc, hcell0, oP_some, Nat.add_zero]
        refine hK' _ ?_; clear hK' K'
        refine S_call T.hb82 rfl ?_
        refine FC.mono (take_spec_ hk ak ck Bg bg (fun r hr => (hbn r hr).len) (by omega) ai ci (rows.getD i (false, [])).2 hIc hrn.len hmem) ?_
        rintro v' h8 ⟨L8, rfl, hbg8, hpm8, hE8⟩
        refine S_mv rfl ?_
        refine S_ex rfl rfl ?_
        refine S_ex rfl rfl ?_
        refine S_as rfl ?_
        refine S_as rfl ?_
        refine S_nil (hK17 _ _ (V_keep [3, 5, 8, 9, 10, 11, 12] (by simp only [proj, lk, reduceIte, Nat.reduceEqDiff]; rfl) ?_)); clear hK17
        refine V_sr T.mix (by kernel_rfl) (fun K18 hK18 => ?_)
        refine S_mv rfl ?_
        refine S_notb rfl ?_
        refine S_nil (hK18 _ _ (V_keep [3, 5, 8, 9, 10, 12, 50] (by simp only [proj, lk, reduceIte, Nat.reduceEqDiff]; rfl) ?_)); clear hK18
        refine V_condb rfl (fun c240 => ?_) (fun c240 => ?_)
        · skip
          exfalso; simp at c240
        · skip
          refine V_skipk [3, 5, 8, 9, 10, 12] (by simp only [proj, lk, reduceIte, Nat.reduceEqDiff]; rfl) ?_
          refine hK15 _ _ ?_; clear hK15
          refine V_reg T.mix (by kernel_rfl) ?_
          refine S_mv rfl ?_
          first | refine S_add rfl rfl (by omega) (by omega) ?_ | refine S_bin rfl rfl rfl ?_
          refine S_as rfl ?_
          refine S_nilk [3, 5, 8, 9, 10, 12] (by simp only [proj, lk, reduceIte, Nat.reduceEqDiff]; rfl) ?_
          exact hK12 _ _ ⟨_, by omega, i + 1, h8, ak, ck, L8, ad, by omega, hbg8, by have h9 := hpm8.length_eq; simp at h9; omega, fun r hr => hbn r (hpm8.mem_iff.2 (by simp [hr])), hply3.perm_l (perm_cancel ((hst.symm).trans hpm8)), by rw [hat, had]; rfl, by omega, hbb, hEk.step hE8 (fun b hb e => by have h9 := hbb b e; omega), rfl, rfl, rfl⟩
      · skip
        have hdel : ¬ (rows.getD i (false, [])).1 = true := by simpa using c238
        rw [if_neg hdel] at hst hat
        refine V_sr T.mix (by kernel_rfl) (fun K19 hK19 => ?_)
        refine S_mv rfl ?_
        refine S_mv rfl ?_
        refine S_mv rfl ?_
        refine S_ix (b := rb) (o := 0) (len := rows.length) (cap := oc) T.el132 rfl rfl (by omega) (by omega) ?_
        rw [Nat.zero_add, Int.toNat_natCast]
        first | refine S_fa0 T.f135_1 rfl ?_ | refine S_fa T.f135_1 rfl ?_
        refine S_ldK T.ag49 rfl (fun K' hK' => ?_)
        simp (disch := omega) only [b0, b1, b2, b3, a4, a5, q0, q2, hrc, hlc, hcell0, oP_some, Nat.add_zero]
        refine hK' _ ?_; clear hK' K'
        refine S_bs T.ei38 rfl (by decide) (by decide) (T.bs38_1_0 _ _ _) ?_
        obtain ⟨vz, hvz⟩ := bg.own
        refine S_appx (lo := 0) T.ei38 T.ni38 T.us38 rfl rfl rfl (OwnR.ext hvz (Ext.push (fun _ => False) _ _) (fun _ _ f => f)) (Nat.zero_le _) (cellsH_new _ _ _) rfl (by omega) (by decide) (by decide) rfl (fun a9 c9 h9 ho9 hE9x hb9x => ?_)
        have hE9 : Ext (fun z => blkA ak = some z) hk h9 := (Ext.push _ _ _).trans hE9x
        have hb9 := new_blk2 (h := hk) hb9x (by simp)
        have hbg9 := bg.snoc hvz ho9 hE9 hb9 hIc (fun z e f => by have h9_ := (hbi z e); have h8_ := hbb z f; omega)
        refine S_as rfl ?_
        refine S_nil (hK19 _ _ (V_keep [3, 5, 8, 9, 10, 12] (by simp only [proj, lk, reduceIte, Nat.reduceEqDiff]; rfl) ?_)); clear hK19
        refine V_reg T.mix (by kernel_rfl) ?_
        refine S_mv rfl ?_
        first | refine S_add rfl rfl (by omega) (by omega) ?_ | refine S_bin rfl rfl rfl ?_
        refine S_as rfl ?_
        refine S_nilk [3, 5, 8, 9, 10, 12] (by simp only [proj, lk, reduceIte, Nat.reduceEqDiff]; rfl) ?_
        refine hK15 _ _ ?_; clear hK15
        refine V_reg T.mix (by kernel_rfl) ?_
        refine S_mv rfl ?_
        first | refine S_add rfl rfl (by omega) (by omega) ?_ | refine S_bin rfl rfl rfl ?_
        refine S_as rfl ?_
        refine S_nilk [3, 5, 8, 9, 10, 12] (by simp only [proj, lk, reduceIte, Nat.reduceEqDiff]; rfl) ?_
        exact hK12 _ _ ⟨_, by omega, i + 1, h9, a9, c9, Bg ++ [(rows.getD i (false, [])).2], ad + 1, by omega, hbg9, (by have h9_ := hst.2.2; rw [List.length_append]; simp; omega), (fun r hr => by rcases List.mem_append.1 hr with q | q; (exact hbn r q); (rw [List.mem_singleton.1 q]; exact hrn)), hply3.perm_l hst.1, (by rw [hat, had]), by omega, (fun z e => by rcases hb9 z e with q | q; (exact hbb z q); (omega)), hEk.step hE9 (fun b hb e => by have h9_ := hbb b e; omega), rfl, (by rw [List.length_append]; rfl), rfl⟩
    · skip
      have hie : i = rows.length := by omega
      rw [hie, List.drop_length] at ply
      rw [hie, List.take_length, hadd] at had
      refine V_exitk [3, 5, 9, 10] rfl (by simp only [proj, lk, reduceIte, Nat.reduceEqDiff]; rfl) ?_
      refine hK10 _ _ ?_; clear hK10
      refine V_seq (fun K20 hK20 => ?_)
      refine V_sr T.mix (by kernel_rfl) (fun K21 hK21 => ?_)
      refine S_mv rfl ?_
      first | refine S_fa0 T.f82_5 rfl ?_ | refine S_fa T.f82_5 rfl ?_
      refine S_ldK T.ag3 rfl (fun K' hK' => ?_)
      simp (disch := omega) only [b0, b1, b2, b3, a4, a5, q0, q2, hrc, hlc, hcell0, oP_some, Nat.add_zero]
      refine hK' _ ?_; clear hK' K'
      refine S_bin rfl rfl rfl ?_
      refine S_nil (hK21 _ _ (V_keep [3, 9, 64] (by simp only [proj, lk, reduceIte, Nat.reduceEqDiff]; rfl) ?_)); clear hK21
      refine V_condp rfl (fun c248 => ?_) (fun c248 => ?_)
      · skip
        exfalso; omega
      · skip
        refine V_skipk [3, 9] (by simp only [proj, lk, reduceIte, Nat.reduceEqDiff]; rfl) ?_
        refine hK20 _ _ ?_; clear hK20
        refine V_seq (fun K22 hK22 => ?_)
        refine V_sr T.mix (by kernel_rfl) (fun K23 hK23 => ?_)
        refine S_as rfl ?_
        refine S_nil (hK23 _ _ (V_keep [3, 9, 13] (by simp only [proj, lk, reduceIte, Nat.reduceEqDiff]; rfl) ?_)); clear hK23
        refine V_block ?_
        refine V_loop (fun m l h' => ∃ (i : Nat) (hk : Heap) (Bg : Sto), (i ≤ 52) ∧ (BG hk ak ck Bg) ∧ (List.length Bg ≤ 64) ∧ (∀ r ∈ Bg, Nrm r) ∧ (Bg.Perm (rowsF cl i ++ [[]])) ∧ (Ext (fun _ => False) h6 hk) ∧ m = 52 - i ∧ l = [(3, .pointer (some ⟨h.size, 0, none⟩)), (9, .slice ak (List.length Bg) ck), (13, .int .i64 (i : Int))] ∧ hk = h') _ ⟨0, hk, Bg, by omega, bg, hbl, hbn, by rw [rowsF_zero]; exact ply, hEk, rfl, rfl, rfl⟩ ?_
        rintro m l h' ⟨i, hk, Bg, hi, bg, hbl, hbn, hpm, hEk, rfl, rfl, rfl⟩ K24 hK24
        try clear b0 b1 b2 b3 b4
        obtain ⟨b0, b1, b2, b3, b4⟩ := bq4 ((hbh1.ext hE16 (fun f => f)).ext hEk (fun f => f))
        have hsk := hEk.1
        have wxk := wx6.ext hEk (fun f => f) (fun f => f)
        refine V_seq (fun K25 hK25 => ?_)
        refine V_sr T.mix (by kernel_rfl) (fun K26 hK26 => ?_)
        refine S_mv rfl ?_
        refine S_bin rfl rfl rfl ?_
        refine S_nil (hK26 _ _ (V_keep [3, 9, 13, 66] (by simp only [proj, lk, reduceIte, Nat.reduceEqDiff]; rfl) ?_)); clear hK26
        refine V_condp rfl (fun c251 => ?_) (fun c251 => ?_)
        · skip
          refine V_skipk [3, 9, 13] (by simp only [proj, lk, reduceIte, Nat.reduceEqDiff]; rfl) ?_
          refine hK25 _ _ ?_; clear hK25
          refine V_seq (fun K27 hK27 => ?_)
          refine V_block ?_
          refine V_sr T.mix (by kernel_rfl) (fun K28 hK28 => ?_)
          first | refine S_fa0 T.f34_2 rfl ?_ | refine S_fa T.f34_2 rfl ?_
          refine S_ldK T.ag31 rfl (fun K' hK' => ?_)
          simp (disch := omega) only [b0, b1, b2, b3, a4, a5, q0, q2, hrc, hlc, hcell0, oP_some, Nat.add_zero]
          refine hK' _ ?_; clear hK' K'
          refine S_mv rfl ?_
          refine S_call T.hb15 rfl ?_
          refine FC.mono (wclause_spec hk C X W cl s p wxk (i : Int)) ?_
          rintro v' h8 ⟨a8, rfl, hI8, _, hb8, hE8⟩
          have hlc8 : liveC cl (i : Int) = cl i := by unfold liveC; rw [if_pos (by omega), Int.toNat_natCast]
          refine S_mv rfl ?_
          refine S_ex rfl rfl ?_
          refine S_ex rfl rfl ?_
          refine S_as rfl ?_
          refine S_as rfl ?_
          refine S_nil (hK28 _ _ (V_keep [3, 9, 13, 14, 15] (by simp only [proj, lk, reduceIte, Nat.reduceEqDiff]; rfl) ?_)); clear hK28
          refine V_sr T.mix (by kernel_rfl) (fun K29 hK29 => ?_)
          refine S_mv rfl ?_
          refine S_bin rfl rfl rfl ?_
          refine S_nil (hK29 _ _ (V_keep [3, 9, 13, 14, 77] (by simp only [proj, lk, reduceIte, Nat.reduceEqDiff]; rfl) ?_)); clear hK29
          refine V_condp rfl (fun c253 => ?_) (fun c253 => ?_)
          · skip
            obtain ⟨cc_, hcc_⟩ : ∃ x, cl i = some x := by
              cases e : cl i with
              | some x => exact ⟨x, rfl⟩
              | none => exfalso; unfold clE at c253; rw [hlc8, e] at c253; simp at c253
            have hcf : clF cl (i : Int) = cc_ := by unfold clF; rw [hlc8, hcc_]; rfl
            rw [rowsF_step cl (show i < 52 by omega), hcc_] at hpm
            have hmem : clF cl (i : Int) ∈ Bg := hpm.mem_iff.2 (by rw [hcf]; simp)
            refine V_sr T.mix (by kernel_rfl) (fun K30 hK30 => ?_)
            refine S_mv rfl ?_
            refine S_mv rfl ?_
            refine S_call T.hb82 rfl ?_
            refine FC.mono (take_spec_ h8 ak ck Bg (bg.ext hE8) (fun r hr => (hbn r hr).len) (by omega) a8 _ (clF cl (i : Int)) hI8 (by have h9 := clF_len hcl i (by omega); omega) hmem) ?_
            rintro v' h9 ⟨L9, rfl, hbg9, hpm9, hE9⟩
            refine S_mv rfl ?_
            refine S_ex rfl rfl ?_
            refine S_ex rfl rfl ?_
            refine S_as rfl ?_
            refine S_as rfl ?_
            refine S_nil (hK30 _ _ (V_keep [3, 9, 11, 13] (by simp only [proj, lk, reduceIte, Nat.reduceEqDiff]; rfl) ?_)); clear hK30
            refine V_sr T.mix (by kernel_rfl) (fun K31 hK31 => ?_)
            refine S_mv rfl ?_
            refine S_notb rfl ?_
            refine S_nil (hK31 _ _ (V_keep [3, 9, 13, 85] (by simp only [proj, lk, reduceIte, Nat.reduceEqDiff]; rfl) ?_)); clear hK31
            refine V_condb rfl (fun c255 => ?_) (fun c255 => ?_)
            · skip
              exfalso; simp at c255
            · skip
              refine V_skipk [3, 9, 13] (by simp only [proj, lk, reduceIte, Nat.reduceEqDiff]; rfl) ?_
              refine hK27 _ _ ?_; clear hK27
              refine V_reg T.mix (by kernel_rfl) ?_
              refine S_mv rfl ?_
              first | refine S_add rfl rfl (by omega) (by omega) ?_ | refine S_bin rfl rfl rfl ?_
              refine S_as rfl ?_
              refine S_nilk [3, 9, 13] (by simp only [proj, lk, reduceIte, Nat.reduceEqDiff]; rfl) ?_
              exact hK24 _ _ ⟨_, by omega, i + 1, h9, L9, by omega, hbg9, by have h9_ := hpm9.length_eq; simp at h9_; omega, fun r hr => hbn r (hpm9.mem_iff.2 (by simp [hr])), by rw [hcf] at hpm9; have h8_ := hpm9.symm.trans hpm; refine perm_cancel (h8_.trans ?_); show (cc_ :: (rowsF cl (i + 1) ++ [[]])).Perm (rowsF cl (i + 1) ++ [[]] ++ [cc_]); exact List.perm_append_comm (l₁ := [cc_]), (hEk.trans hE8).step hE9 (fun b hb e => by have h9_ := hbb b e; omega), rfl, rfl, rfl⟩
          · skip
            have hcn : cl i = none := by
              cases e : cl i with
              | none => rfl
              | some x => exfalso; unfold clE at c253; rw [hlc8, e] at c253; exact c253 rfl
            rw [rowsF_step cl (show i < 52 by omega), hcn] at hpm
            refine V_skipk [3, 9, 13] (by simp only [proj, lk, reduceIte, Nat.reduceEqDiff]; rfl) ?_
            refine hK27 _ _ ?_; clear hK27
            refine V_reg T.mix (by kernel_rfl) ?_
            refine S_mv rfl ?_
            first | refine S_add rfl rfl (by omega) (by omega) ?_ | refine S_bin rfl rfl rfl ?_
            refine S_as rfl ?_
            refine S_nilk [3, 9, 13] (by simp only [proj, lk, reduceIte, Nat.reduceEqDiff]; rfl) ?_
            exact hK24 _ _ ⟨_, by omega, i + 1, h8, Bg, by omega, bg.ext hE8, hbl, hbn, by simpa using hpm, hEk.trans hE8, rfl, rfl, rfl⟩
        · skip
          have hie : i = 52 := by omega
          rw [hie, rowsF_end, List.nil_append] at hpm
          have hB1 : Bg = [[]] := List.perm_singleton.1 hpm
          obtain ⟨bq, rfl, _, _, hgq⟩ := bg.get (by rw [hB1]; simp)
          obtain ⟨ai0, ci0, hcell0, _, _⟩ := hgq 0 (by rw [hB1]; simp)
          refine V_exitk [9] rfl (by simp only [proj, lk, reduceIte, Nat.reduceEqDiff]; rfl) ?_
          refine hK22 _ _ ?_; clear hK22
          refine V_sr T.mix (by kernel_rfl) (fun K32 hK32 => ?_)
          refine S_mv rfl ?_
          refine S_lenl T.el38 rfl ?_
          refine S_bin rfl rfl rfl ?_
          refine S_mv rfl ?_
          refine S_dec (fun g260 => ?_) (fun g260 => ?_)
          · skip
            refine S_gt rfl ?_
            refine S_mv rfl ?_
            refine S_gt rfl ?_
            refine S_ix (b := bq) (o := 0) (len := List.length Bg) (cap := ck) T.el38 rfl rfl (by omega) (by rw [hB1]; simp) ?_
            rw [Nat.zero_add, show Int.toNat 0 = 0 from rfl]
            refine S_gt rfl ?_
            refine S_ldK T.ag49 rfl (fun K' hK' => ?_)
            simp (disch := omega) only [b0, b1, b2, b3, a4, a5, q0, q2, hrc, hlc, hcell0, oP_some, Nat.add_zero]
            refine hK' _ ?_; clear hK' K'
            refine S_gt rfl ?_
            refine S_lenl T.el49 rfl ?_
            refine S_gt rfl ?_
            refine S_bin rfl rfl rfl ?_
            refine S_pt rfl rfl ?_
            refine S_as rfl ?_
            refine S_nil (hK32 _ _ (V_keep [6] (by simp only [proj, lk, reduceIte, Nat.reduceEqDiff]; rfl) ?_)); clear hK32
            refine V_ret ?_
            refine hR _ _ (ret1 rfl rfl ?_)
            subst hB1
            first | (exfalso; simp at g260; done) | (exfalso; simp at c260; done) | exact ⟨by simp, hE06.trans hEk⟩
          · skip
            refine S_gf rfl ?_
            refine S_gf rfl ?_
            refine S_gf rfl ?_
            refine S_gf rfl ?_
            refine S_gf rfl ?_
            refine S_pf rfl rfl ?_
            refine S_as rfl ?_
            refine S_nil (hK32 _ _ (V_keep [6] (by simp only [proj, lk, reduceIte, Nat.reduceEqDiff]; rfl) ?_)); clear hK32
            refine V_ret ?_
            refine hR _ _ (ret1 rfl rfl ?_)
            subst hB1
            first | (exfalso; simp at g260; done) | (exfalso; simp at c260; done) | exact ⟨by simp, hE06.trans hEk⟩
end Go.Proofs.Qxb6500401aGreat
