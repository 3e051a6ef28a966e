import Derived.Test.Qxb6500404aGreatPb
set_option linter.unusedVariables false
set_option linter.unusedSimpArgs false
namespace Go.Proofs.Qxb6500404aGreat
open Go.Eng Go.Bits Go.Blk HufW

/-! ### the format's definitions for the encoder -/
def fl3 (I : List (Nat × Nat × Nat)) : List Int := I.flatMap fun q => [(q.1 : Int), (q.2.1 : Int), (q.2.2 : Int)]
theorem fl3_snoc (I : List (Nat × Nat × Nat)) (q : Nat × Nat × Nat) : fl3 (I ++ [q]) = fl3 I ++ [(q.1 : Int), (q.2.1 : Int), (q.2.2 : Int)] := by simp [fl3]
theorem fl3_len : ∀ I : List (Nat × Nat × Nat), (fl3 I).length = 3 * I.length
  | [] => rfl
  | q :: I => by
    have := fl3_len I
    show ([(q.1 : Int), (q.2.1 : Int), (q.2.2 : Int)] ++ fl3 I).length = _
    rw [List.length_append, this, List.length_cons]; simp only [List.length_cons, List.length_nil]; omega
theorem fl3_at : ∀ (I : List (Nat × Nat × Nat)) (j : Nat), j < I.length → ∃ q, q ∈ I ∧ I.take (j + 1) = I.take j ++ [q] ∧ (fl3 I).getD (3 * j) 0 = (q.1 : Int) ∧ (fl3 I).getD (3 * j + 1) 0 = (q.2.1 : Int) ∧ (fl3 I).getD (3 * j + 2) 0 = (q.2.2 : Int)
  | [], j, h => by simp at h
  | q :: I, 0, h => ⟨q, by simp, rfl, rfl, rfl, rfl⟩
  | q :: I, j + 1, h => by
    obtain ⟨r, h0, h1, h2, h3, h4⟩ := fl3_at I j (by simpa using h)
    refine ⟨r, List.mem_cons_of_mem _ h0, by rw [List.take_succ_cons, h1]; rfl, ?_, ?_, ?_⟩
    · rw [show 3 * (j + 1) = 3 * j + 3 by omega]; exact h2
    · rw [show 3 * (j + 1) + 1 = 3 * j + 1 + 3 by omega]; exact h3
    · rw [show 3 * (j + 1) + 2 = 3 * j + 2 + 3 by omega]; exact h4
theorem ib_take (I : List (Nat × Nat × Nat)) (j : Nat) : ib (I.take j) ≤ ib I := by
  have h := ib_app (I.take j) (I.drop j)
  rw [List.take_append_drop] at h; omega
theorem ib_len : ∀ I : List (Nat × Nat × Nat), 4 * I.length ≤ ib I
  | [] => Nat.zero_le _
  | q :: I => by have := ib_len I; rw [ib, List.length_cons]; omega
theorem ib_snoc (I : List (Nat × Nat × Nat)) (q : Nat × Nat × Nat) : ib (I ++ [q]) = ib I + (4 + q.2.2) := by rw [ib_app, ib_one]
theorem rn_is {x : Nat} : ∀ (t : List Nat) (k : Nat), k ≤ t.length → (∀ j, j < k → t.getD j 0 = x) → (k = t.length ∨ t.getD k 0 ≠ x) → rn x t = k
  | [], k, h1, _, _ => by simp at h1; rw [h1]; rfl
  | y :: t, 0, _, _, h3 => by
    rw [rn, if_neg]
    intro e
    rcases h3 with q | q
    · simp at q
    · exact q (by rw [← e]; rfl)
  | y :: t, k + 1, h1, h2, h3 => by
    have h20 : y = x := h2 0 (by omega)
    rw [rn, if_pos h20, rn_is t k (by simpa using h1) (fun j hj => h2 (j + 1) (by omega)) (by simpa using h3)]
theorem dropD (L : List Nat) (i j : Nat) : (L.drop i).getD j 0 = L.getD (i + j) 0 := by rw [List.getD_eq_getElem?_getD, List.getElem?_drop, List.getD_eq_getElem?_getD]
theorem drop_cons {L : List Nat} {i : Nat} (h : i < L.length) : L.drop i = L.getD i 0 :: L.drop (i + 1) := by
  rw [List.drop_eq_getElem_cons h, List.getD_eq_getElem?_getD, List.getElem?_eq_getElem h]; rfl
def pvA (L : List Nat) (i : Nat) : Option Nat := if i = 0 then none else some (L.getD (i - 1) 0)
theorem run_rn {L : List Nat} {i r : Nat} (hi : i < L.length) (h1 : 1 ≤ r) (h2 : i + r ≤ L.length) (h3 : ∀ j, j < r → L.getD (i + j) 0 = L.getD i 0) (h4 : ¬ (i + r < L.length ∧ L.getD (i + r) 0 = L.getD i 0)) : rn (L.getD i 0) (L.drop (i + 1)) + 1 = r := by
  rw [rn_is (L.drop (i + 1)) (r - 1) (by rw [List.length_drop]; omega) (fun j hj => by rw [dropD, show i + 1 + j = i + (j + 1) by omega]; exact h3 (j + 1) (by omega)) ?_]
  · omega
  · by_cases q : i + r < L.length
    · right; rw [dropD, show i + 1 + (r - 1) = i + r by omega]; exact fun e => h4 ⟨q, e⟩
    · left; rw [List.length_drop]; omega
section items
variable {L : List Nat} {i r : Nat} (h3 : ∀ j, j < r → L.getD (i + j) 0 = L.getD i 0)
theorem it_zero (hi : i < L.length) (hr : rn (L.getD i 0) (L.drop (i + 1)) + 1 = r) (h0 : L.getD i 0 = 0) (hr3 : 3 ≤ r) : itG (pvA L i) (L.drop i) = (11, min r 130 - 3, 7) :: itG (some 0) (L.drop (i + min r 130)) := by
  rw [drop_cons hi, itG_cons, if_pos ⟨h0, by omega⟩, hr, List.drop_drop, show i + 1 + (min r 130 - 1) = i + min r 130 by omega]
theorem it_rep (hi : i < L.length) (hr : rn (L.getD i 0) (L.drop (i + 1)) + 1 = r) (h0 : ¬ (L.getD i 0 = 0 ∧ 3 ≤ r)) (h1 : 0 < i) (h2 : L.getD i 0 = L.getD (i - 1) 0) (hr3 : 3 ≤ r) : itG (pvA L i) (L.drop i) = (12, min r 6 - 3, 2) :: itG (some (L.getD i 0)) (L.drop (i + min r 6)) := by
  rw [drop_cons hi, itG_cons, if_neg (by rw [hr]; exact h0), if_pos ⟨by unfold pvA; rw [if_neg (by omega), h2], by omega⟩, hr, List.drop_drop, show i + 1 + (min r 6 - 1) = i + min r 6 by omega]
theorem it_one (hi : i < L.length) (hr : rn (L.getD i 0) (L.drop (i + 1)) + 1 = r) (h0 : ¬ (L.getD i 0 = 0 ∧ 3 ≤ r)) (h1 : ¬ ((0 < i ∧ L.getD i 0 = L.getD (i - 1) 0) ∧ 3 ≤ r)) : itG (pvA L i) (L.drop i) = (L.getD i 0, 0, 0) :: itG (some (L.getD i 0)) (L.drop (i + 1)) := by
  rw [drop_cons hi, itG_cons, if_neg (by rw [hr]; exact h0), if_neg]
  rintro ⟨e1, e2⟩
  unfold pvA at e1
  by_cases q : i = 0
  · rw [if_pos q] at e1; cases e1
  · rw [if_neg q] at e1
    exact h1 ⟨⟨by omega, (Option.some.inj e1).symm⟩, by omega⟩
end items
theorem pvA_at {L : List Nat} {i : Nat} (h : 0 < i) : pvA L i = some (L.getD (i - 1) 0) := by unfold pvA; rw [if_neg (by omega)]
theorem li_app (a b : List Nat) : li (a ++ b) = li a ++ li b := by simp [li]
def biF (kd n : Nat) (cn : Nat → Nat) (L : List Nat) : Nat := if kd = 0 then 24 + 8 * n else 3 + (if kd = 2 then ib (itG none L) else 0) + bdC L cn
theorem IL.app3 {h : Heap} {a : Option Addr} {cap : Nat} {I : List (Nat × Nat × Nat)} {q : Nat × Nat × Nat} (o : OwnR 0 h a ((fl3 I).length + 3) cap (ints (fl3 I) ++ [.int .i64 (q.1 : Int), .int .i64 (q.2.1 : Int), .int .i64 (q.2.2 : Int)]) 3 1) : IL h a cap (fl3 (I ++ [q])) := by
  unfold IL; rw [fl3_snoc, ints_app, List.length_append]; exact o
theorem bd_bnd {L : List Nat} {cn : Nat → Nat} (hL : ∀ i, i < 273 → L.getD i 0 ≤ 10) (hcn : ∀ i, cn i ≤ 600) : ∀ i, i ≤ 273 → Huf.sm (fun s => cn s * (L.getD s 0 + mo s)) i ≤ 7200 * i := fun i hi => sm_bnd fun j hj => by
  have h1 := hcn j
  have h2 := hL j (by omega)
  have h3 := mo_le j
  exact Nat.le_trans (Nat.mul_le_mul h1 (show L.getD j 0 + mo j ≤ 12 by omega)) (by decide)

theorem OL.sub {h : Heap} {b o cap : Nat} {xs : List Int} (ol : OL h (some ⟨b, o, none⟩) cap xs) (i k c2 : Nat) (hk : i + k ≤ xs.length) : OL h (some ⟨b, o + i, none⟩) c2 ((xs.drop i).take k) := by
  rcases ol with ⟨e, _⟩ | ⟨b2, o2, cs, e, hb, hs, hc⟩
  · cases e
  · cases e
    have hl : ((xs.drop i).take k).length = k := by rw [List.length_take, List.length_drop]; omega
    refine .inr ⟨b, o + i, cs, rfl, hb, by rw [hl]; omega, fun j hj => ?_⟩
    rw [hl] at hj
    rw [show o + i + j = o + (i + j) by omega, hc (i + j) (by omega)]
    rw [List.getD_eq_getElem?_getD, List.getD_eq_getElem?_getD, List.getElem?_take, if_pos hj, List.getElem?_drop]
theorem OL.A {h : Heap} {b o cap : Nat} {L : List Nat} (ol : OL h (some ⟨b, o, none⟩) cap (li L)) (hL : L.length = 273) (c2 : Nat) : OL h (some ⟨b, o, none⟩) c2 (lA L) := by
  have := OL.sub ol 0 265 c2 (by rw [li_len]; omega)
  rw [List.drop_zero, Nat.add_zero, show (li L).take 265 = lA L by simp [li, lA, List.map_take]] at this
  exact this
theorem OL.B {h : Heap} {b o cap : Nat} {L : List Nat} (ol : OL h (some ⟨b, o, none⟩) cap (li L)) (hL : L.length = 273) (c2 : Nat) : OL h (some ⟨b, o + 265, none⟩) c2 (lB L) := by
  have := OL.sub ol 265 8 c2 (by rw [li_len]; omega)
  rw [List.take_of_length_le (by rw [List.length_drop, li_len]; omega), show (li L).drop 265 = lB L by simp [li, lB, List.map_drop]] at this
  exact this
theorem em_sto (u : ByteArray) (T : List Lz.Tok) (L : List Nat) : wr ⟨0, 0, 0⟩ (emP 0 u T L) = wr (padS (putS (putS ⟨0, 0, 0⟩ 1 1) ((0 : Nat) : Int) 2)) ((u.size, 16) :: stp u 0 u.size) := by
  have e1 : putS ⟨0, 0, 0⟩ 1 1 = ⟨1, 1, 0⟩ := put_is (v := 1) (k := 1) OK.zero (by decide) (by decide) (by decide)
  have hok : OK ⟨1, 1, 0⟩ := by rw [← e1]; exact OK.zero.put _ _
  have e2 : putS ⟨1, 1, 0⟩ ((0 : Nat) : Int) 2 = ⟨1, 3, 0⟩ := put_is (v := 0) (k := 2) hok (by decide) (by decide) (by decide)
  have hok2 : OK ⟨1, 3, 0⟩ := by rw [← e2]; exact hok.put _ _
  rw [e1, e2, pad_put hok2 rfl]
  unfold emP
  rw [if_pos rfl]
  show wr (putS (putS (putS ⟨0, 0, 0⟩ 1 1) ((0 : Nat) : Int) 2) 0 5) _ = _
  rw [e1, e2]
theorem em_cod {kd : Nat} (h : kd ≠ 0) (u : ByteArray) (T : List Lz.Tok) (L : List Nat) : wr ⟨0, 0, 0⟩ (emP kd u T L) = wr (putS (putS ⟨0, 0, 0⟩ 1 1) (kd : Int) 2) ((if kd = 2 then ips (itG none L) else []) ++ bp (Huf.cf (lA L)) (Huf.cf (lB L)) T) := by
  unfold emP
  rw [if_neg h]; rfl
theorem wr_if2 (s : TS) (kd : Nat) (a : List (Nat × Nat)) : wr s (if kd = 2 then a else []) = if kd = 2 then wr s a else s := by split <;> rfl
set_option maxHeartbeats 1600000 in
theorem counts_spec (h : Heap) (nb : Nat) (Q : List Lz.Tok) (hT : LzW.TokB h nb Q) (tk : ∀ t, t ∈ Q → Tk t) (hTl : Q.length ≤ 256) :
    FC Tryz.prog 70 (#[.slice (some ⟨nb, 0, none⟩) Q.length Q.length] : Array Value) h fun rv h' => rv = .slice (some ⟨h.size, 0, none⟩) 273 273 ∧ B h' h.size (ia 273 (cnT Q)) 3 ∧ Ext (fun _ => False) h h' := by
  have t0 : (0 : Nat) = 0 := rfl
  have t1 := t0
  have t2 := t0
  have acn := t0
  have hoc := t0
  have hnl := B.lt hT
  refine FC_of [(0, .slice (some ⟨nb, 0, none⟩) Q.length Q.length)] Tryz.func70 rfl Tryz.ntmps70 (by simp) rfl (fun R hR => ?_)
  refine V_sr T.mix (by kernel_rfl) (fun K1 hK1 => ?_)
  refine S_as rfl ?_
  refine S_nil (hK1 _ _ (V_keep [0] (by simp only [proj, lk, reduceIte, Nat.reduceEqDiff]; rfl) ?_)); clear hK1
  refine V_sr T.mix (by kernel_rfl) (fun K2 hK2 => ?_)
  refine S_mk T.ei56 rfl rfl (by omega) (by omega) (by omega) (by omega) ?_
  rw [show ((273 : Int)).toNat = 273 from rfl, Nat.mul_one, mkZ_one]
  generalize hh : Array.push h _ = g1
  have bl0 : B g1 h.size (ia 273 (fun _ => 0)) 3 := by rw [← hh]; exact B.new _ _ _
  have hEg : Ext (fun _ => False) h g1 := by rw [← hh]; exact Ext.push _ _ _
  clear hh
  try clear acn hoc
  have acn := ia_at bl0
  have hoc := ia_ok bl0
  refine S_as rfl ?_
  refine S_nil (hK2 _ _ (V_keep [0, 3] (by simp only [proj, lk, reduceIte, Nat.reduceEqDiff]; rfl) ?_)); clear hK2
  refine V_sr T.mix (by kernel_rfl) (fun K3 hK3 => ?_)
  refine S_mv rfl ?_
  first | refine S_ixn T.el56 rfl rfl (by omega) ?_ | refine S_ix1 T.el56 rfl rfl (by omega) (by omega) ?_ | refine S_ix T.el56 rfl rfl (by omega) (by omega) ?_
  refine S_st T.sz3 rfl rfl rfl rfl (by simp (disch := omega) only [hoc]) ?_
  generalize hh : putH _ _ _ = h2
  have bch2 : B h2 h.size (ia 273 (Huf.ups (fun _ => 0) (256) (1))) 3 := by rw [← hh]; exact ia_put bl0 _ _
  have hEh2 : Ext (fun z => z = h.size) g1 h2 := by rw [← hh]; exact Ext.put _ _ rfl
  clear hh
  refine S_nil (hK3 _ _ (V_keep [0, 3] (by simp only [proj, lk, reduceIte, Nat.reduceEqDiff]; rfl) ?_)); clear hK3
  refine V_seq (fun K4 hK4 => ?_)
  refine V_sr T.mix (by kernel_rfl) (fun K5 hK5 => ?_)
  refine S_as rfl ?_
  refine S_nil (hK5 _ _ (V_keep [0, 3, 4] (by simp only [proj, lk, reduceIte, Nat.reduceEqDiff]; rfl) ?_)); clear hK5
  refine V_block ?_
  refine V_loop (fun m l h' => ∃ (k : Nat) (hk : Heap), (k ≤ Q.length) ∧ (B hk h.size (ia 273 (cnT (Q.take k))) 3) ∧ (Ext (fun _ => False) h hk) ∧ m = Q.length - k ∧ l = [(0, .slice (some ⟨nb, 0, none⟩) Q.length Q.length), (3, .slice (some ⟨h.size, 0, none⟩) 273 273), (4, .int .i64 (k : Int))] ∧ hk = h') _ ⟨0, h2, Nat.zero_le _, (ia_cong bch2 (fun j hj => by unfold Huf.ups; show _ = cnT [] j; rw [cnT])), hEg.step hEh2 (fun b hb e => by omega), rfl, rfl, rfl⟩ ?_
  rintro m l h' ⟨k, hk, hk_, bk, hEk, rfl, rfl, rfl⟩ K6 hK6
  try clear acn hoc
  have acn := ia_at bk
  have hoc := ia_ok bk
  have hcl := cnT_le (Q.take k)
  have htl : (Q.take k).length ≤ 256 := by rw [List.length_take]; omega
  refine V_seq (fun K7 hK7 => ?_)
  refine V_sr T.mix (by kernel_rfl) (fun K8 hK8 => ?_)
  refine S_mv rfl ?_
  refine S_mv rfl ?_
  refine S_lenl T.el71 rfl ?_
  refine S_bin rfl rfl rfl ?_
  refine S_nil (hK8 _ _ (V_keep [0, 3, 4, 12] (by simp only [proj, lk, reduceIte, Nat.reduceEqDiff]; rfl) ?_)); clear hK8
  refine V_condp rfl (fun c15 => ?_) (fun c15 => ?_)
  · skip
    clear t0 t1 t2
    have hnb1 : nb ≠ h.size := by omega
    have hTk : LzW.TokB hk nb Q := B.ext hT hEk (fun f => f)
    obtain ⟨t, tm, tks, t0, t1, t2⟩ := tok_at hTk (k := k) (by omega)
    have htk := tk t tm
    have hc0 := hcl 0
    refine V_skipk [0, 3, 4] (by simp only [proj, lk, reduceIte, Nat.reduceEqDiff]; rfl) ?_
    refine hK7 _ _ ?_; clear hK7
    refine V_seq (fun K9 hK9 => ?_)
    refine V_block ?_
    refine V_sr T.mix (by kernel_rfl) (fun K10 hK10 => ?_)
    refine S_mv rfl ?_
    refine S_mv rfl ?_
    first | refine S_ixmn T.el71 rfl rfl (by omega) ?_ | refine S_ixm T.el71 rfl rfl (by omega) (by omega) ?_ | refine S_ix T.el71 rfl rfl (by omega) (by omega) ?_
    first | refine S_fa0 T.f174_0 rfl ?_ | refine S_fa T.f174_0 rfl ?_
    refine S_ldK T.ag3 rfl (fun K' hK' => ?_)
    simp (disch := omega) only [acn, t0, t1, t2, oP_some, Nat.add_zero]
    refine hK' _ ?_; clear hK' K'
    refine S_bin rfl rfl rfl ?_
    refine S_nil (hK10 _ _ (V_keep [0, 3, 4, 20] (by simp only [proj, lk, reduceIte, Nat.reduceEqDiff]; rfl) ?_)); clear hK10
    refine V_condp rfl (fun c16 => ?_) (fun c16 => ?_)
    · skip
      obtain ⟨b, hb, rfl⟩ : ∃ b : Nat, b < 256 ∧ t = ⟨0, 0, (b : Int)⟩ := by rcases htk with q | ⟨n, d, h1, h2, h3, h4, e⟩; (exact q); (rw [e] at c16; simp only [] at c16; omega)
      have hcb := hcl b
      refine V_reg T.mix (by kernel_rfl) ?_
      refine S_mv rfl ?_
      refine S_mv rfl ?_
      refine S_mv rfl ?_
      first | refine S_ixmn T.el71 rfl rfl (by omega) ?_ | refine S_ixm T.el71 rfl rfl (by omega) (by omega) ?_ | refine S_ix T.el71 rfl rfl (by omega) (by omega) ?_
      first | refine S_fa0 T.f174_2 rfl ?_ | refine S_fa T.f174_2 rfl ?_
      refine S_ldK T.ag3 rfl (fun K' hK' => ?_)
      simp (disch := omega) only [acn, t0, t1, t2, oP_some, Nat.add_zero]
      refine hK' _ ?_; clear hK' K'
      first | refine S_ixn T.el56 rfl rfl (by omega) ?_ | refine S_ix1 T.el56 rfl rfl (by omega) (by omega) ?_ | refine S_ix T.el56 rfl rfl (by omega) (by omega) ?_
      refine S_ldK T.ag3 rfl (fun K' hK' => ?_)
      simp (disch := omega) only [acn, t0, t1, t2, oP_some, Nat.add_zero]
      refine hK' _ ?_; clear hK' K'
      refine S_addN (cnT (Q.take k) b + 1) rfl rfl (by omega) (by omega) ?_
      first | refine S_ixn T.el56 rfl rfl (by omega) ?_ | refine S_ix1 T.el56 rfl rfl (by omega) (by omega) ?_ | refine S_ix T.el56 rfl rfl (by omega) (by omega) ?_
      refine S_st T.sz3 rfl rfl rfl rfl (by simp (disch := omega) only [hoc]) ?_
      generalize hh : putH _ _ _ = h3
      have bch3 : B h3 h.size (ia 273 (Huf.ups (cnT (Q.take k)) (b) (cnT (Q.take k) b + 1))) 3 := by rw [← hh]; exact ia_put bk _ _
      have hEh3 : Ext (fun z => z = h.size) hk h3 := by rw [← hh]; exact Ext.put _ _ rfl
      clear hh
      refine S_nilk [0, 3, 4] (by simp only [proj, lk, reduceIte, Nat.reduceEqDiff]; rfl) ?_
      refine hK9 _ _ ?_; clear hK9
      refine V_reg T.mix (by kernel_rfl) ?_
      refine S_mv rfl ?_
      first | refine S_add rfl rfl (by omega) (by omega) ?_ | refine S_bin rfl rfl rfl ?_
      refine S_as rfl ?_
      refine S_nilk [0, 3, 4] (by simp only [proj, lk, reduceIte, Nat.reduceEqDiff]; rfl) ?_
      exact hK6 _ _ ⟨_, by omega, k + 1, h3, by omega, ia_cong bch3 (fun j hj => by rw [ups_one, cn_snoc' tks, cn1_lit]), hEk.step hEh3 (fun b hb e => by omega), rfl, rfl, rfl⟩
    · skip
      obtain ⟨n, d, hn1, hn2, hd1, hd2, rfl⟩ : ∃ n d : Nat, 3 ≤ n ∧ n ≤ 10 ∧ 1 ≤ d ∧ d ≤ 16 ∧ t = ⟨(n : Int), (d : Int), 0⟩ := by rcases htk with ⟨b, hb, e⟩ | q; (exfalso; exact c16 (by rw [e])); (exact q)
      have hcb := hcl (n + 254)
      have hcd := hcl (265 + dC d)
      refine V_sr T.mix (by kernel_rfl) (fun K11 hK11 => ?_)
      refine S_mv rfl ?_
      refine S_mv rfl ?_
      refine S_mv rfl ?_
      first | refine S_ixmn T.el71 rfl rfl (by omega) ?_ | refine S_ixm T.el71 rfl rfl (by omega) (by omega) ?_ | refine S_ix T.el71 rfl rfl (by omega) (by omega) ?_
      first | refine S_fa0 T.f174_0 rfl ?_ | refine S_fa T.f174_0 rfl ?_
      refine S_ldK T.ag3 rfl (fun K' hK' => ?_)
      simp (disch := omega) only [acn, t0, t1, t2, oP_some, Nat.add_zero]
      refine hK' _ ?_; clear hK' K'
      refine S_addN (257 + n) rfl rfl (by omega) (by omega) ?_
      refine S_subN (n + 254) rfl rfl (by omega) (by omega) ?_
      first | refine S_ixn T.el56 rfl rfl (by omega) ?_ | refine S_ix1 T.el56 rfl rfl (by omega) (by omega) ?_ | refine S_ix T.el56 rfl rfl (by omega) (by omega) ?_
      refine S_ldK T.ag3 rfl (fun K' hK' => ?_)
      simp (disch := omega) only [acn, t0, t1, t2, oP_some, Nat.add_zero]
      refine hK' _ ?_; clear hK' K'
      refine S_addN (cnT (Q.take k) (n + 254) + 1) rfl rfl (by omega) (by omega) ?_
      first | refine S_ixn T.el56 rfl rfl (by omega) ?_ | refine S_ix1 T.el56 rfl rfl (by omega) (by omega) ?_ | refine S_ix T.el56 rfl rfl (by omega) (by omega) ?_
      refine S_st T.sz3 rfl rfl rfl rfl (by simp (disch := omega) only [hoc]) ?_
      generalize hh : putH _ _ _ = h3
      have bch3 : B h3 h.size (ia 273 (Huf.ups (cnT (Q.take k)) (n + 254) (cnT (Q.take k) (n + 254) + 1))) 3 := by rw [← hh]; exact ia_put bk _ _
      have hEh3 : Ext (fun z => z = h.size) hk h3 := by rw [← hh]; exact Ext.put _ _ rfl
      clear hh
      try clear acn hoc
      have acn := ia_at bch3
      have hoc := ia_ok bch3
      rw [← cell_ext hEh3 (B.lt hTk) hnb1] at t1
      refine S_nil (hK11 _ _ (V_keep [0, 3, 4] (by simp only [proj, lk, reduceIte, Nat.reduceEqDiff]; rfl) ?_)); clear hK11
      refine V_sr T.mix (by kernel_rfl) (fun K12 hK12 => ?_)
      refine S_mv rfl ?_
      refine S_mv rfl ?_
      first | refine S_ixmn T.el71 rfl rfl (by omega) ?_ | refine S_ixm T.el71 rfl rfl (by omega) (by omega) ?_ | refine S_ix T.el71 rfl rfl (by omega) (by omega) ?_
      first | refine S_fa0 T.f174_1 rfl ?_ | refine S_fa T.f174_1 rfl ?_
      refine S_ldK T.ag3 rfl (fun K' hK' => ?_)
      simp (disch := omega) only [acn, t0, t1, t2, oP_some, Nat.add_zero]
      refine hK' _ ?_; clear hK' K'
      refine S_call T.hb101 rfl ?_
      refine FC.mono (distcode_spec h3 d (by omega) (by omega)) ?_
      rintro v' h' ⟨rfl, rfl⟩
      obtain ⟨dc1, _⟩ := dC_is (d := d) (by omega) (by omega)
      refine S_as rfl ?_
      refine S_nil (hK12 _ _ (V_keep [0, 3, 4, 5] (by simp only [proj, lk, reduceIte, Nat.reduceEqDiff]; rfl) ?_)); clear hK12
      refine V_reg T.mix (by kernel_rfl) ?_
      refine S_mv rfl ?_
      refine S_mv rfl ?_
      refine S_addN (265 + dC d) rfl rfl (by omega) (by omega) ?_
      first | refine S_ixn T.el56 rfl rfl (by omega) ?_ | refine S_ix1 T.el56 rfl rfl (by omega) (by omega) ?_ | refine S_ix T.el56 rfl rfl (by omega) (by omega) ?_
      refine S_ldK T.ag3 rfl (fun K' hK' => ?_)
      simp (disch := omega) only [acn, t0, t1, t2, oP_some, Nat.add_zero]
      refine hK' _ ?_; clear hK' K'
      have hub : Huf.ups (cnT (Q.take k)) (n + 254) (cnT (Q.take k) (n + 254) + 1) (265 + dC d) ≤ 600 := by unfold Huf.ups; split <;> omega
      refine S_addN (Huf.ups (cnT (Q.take k)) (n + 254) (cnT (Q.take k) (n + 254) + 1) (265 + dC d) + 1) rfl rfl (by omega) (by omega) ?_
      first | refine S_ixn T.el56 rfl rfl (by omega) ?_ | refine S_ix1 T.el56 rfl rfl (by omega) (by omega) ?_ | refine S_ix T.el56 rfl rfl (by omega) (by omega) ?_
      refine S_st T.sz3 rfl rfl rfl rfl (by simp (disch := omega) only [hoc]) ?_
      generalize hh : putH _ _ _ = h4
      have bch4 : B h4 h.size (ia 273 (Huf.ups (Huf.ups (cnT (Q.take k)) (n + 254) (cnT (Q.take k) (n + 254) + 1)) (265 + dC d) (Huf.ups (cnT (Q.take k)) (n + 254) (cnT (Q.take k) (n + 254) + 1) (265 + dC d) + 1))) 3 := by rw [← hh]; exact ia_put bch3 _ _
      have hEh4 : Ext (fun z => z = h.size) h3 h4 := by rw [← hh]; exact Ext.put _ _ rfl
      clear hh
      refine S_nilk [0, 3, 4] (by simp only [proj, lk, reduceIte, Nat.reduceEqDiff]; rfl) ?_
      refine hK9 _ _ ?_; clear hK9
      refine V_reg T.mix (by kernel_rfl) ?_
      refine S_mv rfl ?_
      first | refine S_add rfl rfl (by omega) (by omega) ?_ | refine S_bin rfl rfl rfl ?_
      refine S_as rfl ?_
      refine S_nilk [0, 3, 4] (by simp only [proj, lk, reduceIte, Nat.reduceEqDiff]; rfl) ?_
      exact hK6 _ _ ⟨_, by omega, k + 1, h4, by omega, ia_cong bch4 (fun j hj => by rw [ups_one, ups_one, cn_snoc' tks, cn1_dup _ _ (by omega)]; simp only []; omega), (hEk.step hEh3 (fun b hb e => by omega)).step hEh4 (fun b hb e => by omega), rfl, rfl, rfl⟩
  · skip
    refine V_exitk [3] rfl (by simp only [proj, lk, reduceIte, Nat.reduceEqDiff]; rfl) ?_
    refine hK4 _ _ ?_; clear hK4
    refine V_sr T.mix (by kernel_rfl) (fun K13 hK13 => ?_)
    refine S_mv rfl ?_
    refine S_as rfl ?_
    refine S_nil (hK13 _ _ (V_keep [2] (by simp only [proj, lk, reduceIte, Nat.reduceEqDiff]; rfl) ?_)); clear hK13
    refine V_ret ?_
    refine hR _ _ (ret1 rfl rfl ?_)
    have hkT : k = Q.length := by omega
    rw [hkT, List.take_length] at bk
    exact ⟨rfl, bk, hEk⟩
set_option maxHeartbeats 1600000 in
theorem items_spec (h : Heap) (L : List Nat) (hL : L.length = 273) (la : Option Addr) (lc : Nat) (ol : OL h la lc (li L)) :
    FC Tryz.prog 107 (#[.slice la 273 lc] : Array Value) h fun rv h' => ∃ a' c', rv = .slice a' (fl3 (itG none L)).length c' ∧ IL h' a' c' (fl3 (itG none L)) ∧ (∀ b, blkA a' = some b → h.size ≤ b) ∧ Ext (fun _ => False) h h' := by
  obtain ⟨lb, lo, rfl, hlbl, hlat⟩ := ol.get (by rw [li_len]; omega)
  have hla : ∀ j, j < 273 → cellH h ⟨lb, lo + j, none⟩ = some (.int .i64 ((L.getD j 0 : Nat) : Int)) := fun j hj => by rw [hlat j (by rw [li_len]; omega), li_at]
  have hla2 : (0 : Nat) = 0 := rfl
  refine FC_of [(0, .slice (some ⟨lb, lo, none⟩) 273 lc)] Tryz.func107 rfl Tryz.ntmps107 (by simp) rfl (fun R hR => ?_)
  refine V_sr T.mix (by kernel_rfl) (fun K1 hK1 => ?_)
  refine S_as rfl ?_
  refine S_nil (hK1 _ _ (V_keep [0] (by simp only [proj, lk, reduceIte, Nat.reduceEqDiff]; rfl) ?_)); clear hK1
  refine V_sr T.mix (by kernel_rfl) (fun K2 hK2 => ?_)
  refine S_as rfl ?_
  refine S_nil (hK2 _ _ (V_keep [0, 3] (by simp only [proj, lk, reduceIte, Nat.reduceEqDiff]; rfl) ?_)); clear hK2
  refine V_sr T.mix (by kernel_rfl) (fun K3 hK3 => ?_)
  refine S_as rfl ?_
  refine S_nil (hK3 _ _ (V_keep [0, 3, 4] (by simp only [proj, lk, reduceIte, Nat.reduceEqDiff]; rfl) ?_)); clear hK3
  refine V_seq (fun K4 hK4 => ?_)
  refine V_block ?_
  refine V_loop (fun m l h' => ∃ (i : Nat) (I : List (Nat × Nat × Nat)) (hk : Heap) (oak : Option Addr) (ock : Nat), (i ≤ 273) ∧ (I.length ≤ i) ∧ (I ++ itG (pvA L i) (L.drop i) = itG none L) ∧ (IL hk oak ock (fl3 I)) ∧ (∀ b, blkA oak = some b → h.size ≤ b) ∧ (Ext (fun _ => False) h hk) ∧ m = 273 - i ∧ l = [(0, .slice (some ⟨lb, lo, none⟩) 273 lc), (3, .slice oak (fl3 I).length ock), (4, .int .i64 (i : Int))] ∧ hk = h') _ ⟨0, [], h, none, 0, Nat.zero_le _, Nat.zero_le _, rfl, IL.nil _, fun b e => (by cases e), Ext.refl _ _, rfl, rfl, rfl⟩ ?_
  rintro m l h' ⟨i, I, hk, oak, ock, hi, hIl, hI, hOk, hfr, hEk, rfl, rfl, rfl⟩ K5 hK5
  try clear hla2
  have hla2 : ∀ j, j < 273 → cellH hk ⟨lb, lo + j, none⟩ = some (.int .i64 ((L.getD j 0 : Nat) : Int)) := fun j hj => by rw [cell_ext hEk hlbl (fun f => f)]; exact hla j hj
  have hzk := hEk.1
  have hl3 := fl3_len I
  refine V_seq (fun K6 hK6 => ?_)
  refine V_sr T.mix (by kernel_rfl) (fun K7 hK7 => ?_)
  refine S_mv rfl ?_
  refine S_mv rfl ?_
  refine S_lenl T.el56 rfl ?_
  refine S_bin rfl rfl rfl ?_
  refine S_nil (hK7 _ _ (V_keep [0, 3, 4, 9] (by simp only [proj, lk, reduceIte, Nat.reduceEqDiff]; rfl) ?_)); clear hK7
  refine V_condp rfl (fun c32 => ?_) (fun c32 => ?_)
  · skip
    refine V_skipk [0, 3, 4] (by simp only [proj, lk, reduceIte, Nat.reduceEqDiff]; rfl) ?_
    refine hK6 _ _ ?_; clear hK6
    refine V_block ?_
    refine V_sr T.mix (by kernel_rfl) (fun K8 hK8 => ?_)
    refine S_as rfl ?_
    refine S_nil (hK8 _ _ (V_keep [0, 3, 4, 5] (by simp only [proj, lk, reduceIte, Nat.reduceEqDiff]; rfl) ?_)); clear hK8
    refine V_seq (fun K9 hK9 => ?_)
    refine V_block ?_
    refine V_loop (fun m l h' => ∃ (r : Nat), (1 ≤ r) ∧ (i + r ≤ 273) ∧ (∀ j, j < r → L.getD (i + j) 0 = L.getD i 0) ∧ m = 273 - (i + r) ∧ l = [(0, .slice (some ⟨lb, lo, none⟩) 273 lc), (3, .slice oak (fl3 I).length ock), (4, .int .i64 (i : Int)), (5, .int .i64 (r : Int))] ∧ hk = h') _ ⟨1, by omega, by omega, fun j hj => by rw [show j = 0 by omega, Nat.add_zero], rfl, rfl, rfl⟩ ?_
    rintro m l h' ⟨r, hr1, hr2, h3r, rfl, rfl, rfl⟩ K10 hK10
    refine V_seq (fun K11 hK11 => ?_)
    refine V_sr T.mix (by kernel_rfl) (fun K12 hK12 => ?_)
    refine S_cut (K' := fun l h' => ∃ b : Bool, (b = true ↔ (i + r < 273 ∧ L.getD (i + r) 0 = L.getD i 0)) ∧ l = [(0, .slice (some ⟨lb, lo, none⟩) 273 lc), (3, .slice oak (fl3 I).length ock), (4, .int .i64 (i : Int)), (5, .int .i64 (r : Int)), (28, .bool b)] ∧ hk = h') ?_ ?_
    · skip
      refine S_mv rfl ?_
      refine S_mv rfl ?_
      refine S_addN (i + r) rfl rfl (by omega) (by omega) ?_
      refine S_mv rfl ?_
      refine S_lenl T.el56 rfl ?_
      refine S_bin rfl rfl rfl ?_
      refine S_mv rfl ?_
      refine S_dec (fun g34 => ?_) (fun g34 => ?_)
      · skip
        refine S_gt rfl ?_
        refine S_mv rfl ?_
        refine S_gt rfl ?_
        refine S_mv rfl ?_
        refine S_gt rfl ?_
        refine S_mv rfl ?_
        refine S_gt rfl ?_
        refine S_addN (i + r) rfl rfl (by omega) (by omega) ?_
        refine S_gt rfl ?_
        first | refine S_ixn T.el56 rfl rfl (by omega) ?_ | refine S_ix1 T.el56 rfl rfl (by omega) (by omega) ?_ | refine S_ix T.el56 rfl rfl (by omega) (by omega) ?_
        refine S_gt rfl ?_
        refine S_ldK T.ag3 rfl (fun K' hK' => ?_)
        simp (disch := omega) only [hla2, Nat.mul_one, Int.toNat_natCast, oP_some, Nat.add_zero]
        refine hK' _ ?_; clear hK' K'
        refine S_gt rfl ?_
        refine S_mv rfl ?_
        refine S_gt rfl ?_
        refine S_mv rfl ?_
        refine S_gt rfl ?_
        first | refine S_ixn T.el56 rfl rfl (by omega) ?_ | refine S_ix1 T.el56 rfl rfl (by omega) (by omega) ?_ | refine S_ix T.el56 rfl rfl (by omega) (by omega) ?_
        refine S_gt rfl ?_
        refine S_ldK T.ag3 rfl (fun K' hK' => ?_)
        simp (disch := omega) only [hla2, Nat.mul_one, Int.toNat_natCast, oP_some, Nat.add_zero]
        refine hK' _ ?_; clear hK' K'
        refine S_gt rfl ?_
        refine S_bin rfl rfl rfl ?_
        refine S_pt rfl rfl ?_
        exact S_nilk [0, 3, 4, 5, 28] (by simp only [proj, lk, reduceIte, Nat.reduceEqDiff]; rfl) ⟨_, (by first | (simp only [decide_eq_true_eq]; omega) | (simp only [Bool.false_eq_true, false_iff]; omega) | (simp; omega)), rfl, rfl⟩
      · skip
        refine S_gf rfl ?_
        refine S_gf rfl ?_
        refine S_gf rfl ?_
        refine S_gf rfl ?_
        refine S_gf rfl ?_
        refine S_gf rfl ?_
        refine S_gf rfl ?_
        refine S_gf rfl ?_
        refine S_gf rfl ?_
        refine S_gf rfl ?_
        refine S_gf rfl ?_
        refine S_pf rfl rfl ?_
        exact S_nilk [0, 3, 4, 5, 28] (by simp only [proj, lk, reduceIte, Nat.reduceEqDiff]; rfl) ⟨_, (by first | (simp only [decide_eq_true_eq]; omega) | (simp only [Bool.false_eq_true, false_iff]; omega) | (simp; omega)), rfl, rfl⟩
    rintro l h' ⟨b, hb34, rfl, rfl⟩
    refine hK12 _ _ ?_; clear hK12
    refine V_condb rfl (fun c34 => ?_) (fun c34 => ?_)
    · replace c34 := hb34.1 c34
      refine V_skipk [0, 3, 4, 5] (by simp only [proj, lk, reduceIte, Nat.reduceEqDiff]; rfl) ?_
      refine hK11 _ _ ?_; clear hK11
      refine V_block ?_
      refine V_reg T.mix (by kernel_rfl) ?_
      refine S_mv rfl ?_
      refine S_addN (r + 1) rfl rfl (by omega) (by omega) ?_
      refine S_as rfl ?_
      refine S_nilk [0, 3, 4, 5] (by simp only [proj, lk, reduceIte, Nat.reduceEqDiff]; rfl) ?_
      exact hK10 _ _ ⟨_, by omega, r + 1, by omega, by omega, fun j hj => by by_cases e : j = r; (rw [e]; exact c34.2); (exact h3r j (by omega)), rfl, rfl, rfl⟩
    · replace c34 : ¬ _ := fun hp => Bool.false_ne_true (c34.symm.trans (hb34.2 hp))
      have hrr := run_rn (L := L) (i := i) (r := r) (by omega) hr1 (by omega) h3r (by rw [hL]; exact c34)
      refine V_exitk [0, 3, 4, 5] rfl (by simp only [proj, lk, reduceIte, Nat.reduceEqDiff]; rfl) ?_
      refine hK9 _ _ ?_; clear hK9
      refine V_sr T.mix (by kernel_rfl) (fun K14 hK14 => ?_)
      refine S_cut (K' := fun l h' => ∃ b : Bool, (b = true ↔ (L.getD i 0 = 0 ∧ 3 ≤ r)) ∧ l = [(0, .slice (some ⟨lb, lo, none⟩) 273 lc), (3, .slice oak (fl3 I).length ock), (4, .int .i64 (i : Int)), (5, .int .i64 (r : Int)), (39, .bool b)] ∧ hk = h') ?_ ?_
      · skip
        refine S_mv rfl ?_
        refine S_mv rfl ?_
        first | refine S_ixn T.el56 rfl rfl (by omega) ?_ | refine S_ix1 T.el56 rfl rfl (by omega) (by omega) ?_ | refine S_ix T.el56 rfl rfl (by omega) (by omega) ?_
        refine S_ldK T.ag3 rfl (fun K' hK' => ?_)
        simp (disch := omega) only [hla2, Nat.mul_one, Int.toNat_natCast, oP_some, Nat.add_zero]
        refine hK' _ ?_; clear hK' K'
        refine S_bin rfl rfl rfl ?_
        refine S_mv rfl ?_
        refine S_dec (fun g37 => ?_) (fun g37 => ?_)
        · skip
          refine S_gt rfl ?_
          refine S_mv rfl ?_
          refine S_gt rfl ?_
          refine S_bin rfl rfl rfl ?_
          refine S_pt rfl rfl ?_
          exact S_nilk [0, 3, 4, 5, 39] (by simp only [proj, lk, reduceIte, Nat.reduceEqDiff]; rfl) ⟨_, (by first | (simp only [decide_eq_true_eq]; omega) | (simp only [Bool.false_eq_true, false_iff]; omega) | (simp; omega)), rfl, rfl⟩
        · skip
          refine S_gf rfl ?_
          refine S_gf rfl ?_
          refine S_pf rfl rfl ?_
          exact S_nilk [0, 3, 4, 5, 39] (by simp only [proj, lk, reduceIte, Nat.reduceEqDiff]; rfl) ⟨_, (by first | (simp only [decide_eq_true_eq]; omega) | (simp only [Bool.false_eq_true, false_iff]; omega) | (simp; omega)), rfl, rfl⟩
      rintro l h' ⟨b, hb37, rfl, rfl⟩
      refine hK14 _ _ ?_; clear hK14
      refine V_condb rfl (fun c37 => ?_) (fun c37 => ?_)
      · replace c37 := hb37.1 c37
        refine V_seqJ (fun l h' => (True) ∧ l = [(0, .slice (some ⟨lb, lo, none⟩) 273 lc), (3, .slice oak (fl3 I).length ock), (4, .int .i64 (i : Int)), (5, .int .i64 ((min r 130 : Nat) : Int))] ∧ hk = h') ?_ ?_
        · skip
          refine V_sr T.mix (by kernel_rfl) (fun K17 hK17 => ?_)
          refine S_mv rfl ?_
          refine S_bin rfl rfl rfl ?_
          refine S_nil (hK17 _ _ (V_keep [0, 3, 4, 5, 41] (by simp only [proj, lk, reduceIte, Nat.reduceEqDiff]; rfl) ?_)); clear hK17
          refine V_condp rfl (fun c38 => ?_) (fun c38 => ?_)
          · skip
            refine V_reg T.mix (by kernel_rfl) ?_
            refine S_as rfl ?_
            refine S_nilk [0, 3, 4, 5] (by simp only [proj, lk, reduceIte, Nat.reduceEqDiff]; rfl) ?_
            rw [show (130 : Int) = ((min r 130 : Nat) : Int) by omega]
            exact ⟨trivial, rfl, rfl⟩
          · skip
            refine V_skipk [0, 3, 4, 5] (by simp only [proj, lk, reduceIte, Nat.reduceEqDiff]; rfl) ?_
            rw [show (r : Int) = ((min r 130 : Nat) : Int) by omega]
            exact ⟨trivial, rfl, rfl⟩
        rintro l h' ⟨htt, rfl, rfl⟩
        refine V_sr T.mix (by kernel_rfl) (fun K18 hK18 => ?_)
        refine S_mv rfl ?_
        refine S_mv rfl ?_
        refine S_subN (min r 130 - 3) rfl rfl (by omega) (by omega) ?_
        refine S_bs T.ei56 rfl (by decide) (by decide) (T.bs56_3_0_1_2 _ _ _) ?_
        refine S_appx (lo := 0) T.ei56 T.ni56 T.us56 rfl rfl rfl (OwnR.ext hOk (Ext.push (fun _ => False) _ _) (fun _ _ f => f)) (Nat.zero_le _) (cellsH_new _ _ _) rfl (by omega) (by decide) (by decide) rfl (fun oa3 oc3 h3 ho3 hE3 hb3 => ?_)
        have hI3 : IL h3 oa3 oc3 (fl3 (I ++ [(11, min r 130 - 3, 7)])) := IL.app3 ho3
        have hF3 : Ext (fun _ => False) h h3 := hEk.step ((Ext.push _ _ _).trans hE3) (fun b hb e => by have h9 := hfr b e; omega)
        have hfr3 : ∀ b, blkA oa3 = some b → h.size ≤ b := fun b e => by rcases hb3 with q | q; (exact hfr b (q ▸ e)); (rw [q] at e; cases e; simp; omega)
        rw [show (fl3 I).length + 3 = (fl3 (I ++ [(11, min r 130 - 3, 7)])).length by rw [fl3_len, fl3_len, List.length_append]; simp only [List.length_cons, List.length_nil]; omega]
        refine S_as rfl ?_
        refine S_nil (hK18 _ _ (V_keep [0, 3, 4, 5] (by simp only [proj, lk, reduceIte, Nat.reduceEqDiff]; rfl) ?_)); clear hK18
        refine V_reg T.mix (by kernel_rfl) ?_
        refine S_mv rfl ?_
        refine S_mv rfl ?_
        refine S_addN (i + min r 130) rfl rfl (by omega) (by omega) ?_
        refine S_as rfl ?_
        refine S_nilk [0, 3, 4] (by simp only [proj, lk, reduceIte, Nat.reduceEqDiff]; rfl) ?_
        rw [it_zero (by omega) hrr (by omega) (by omega)] at hI
        exact hK5 _ _ ⟨_, by omega, i + min r 130, I ++ [(11, min r 130 - 3, 7)], h3, oa3, oc3, by omega, by rw [List.length_append]; simp only [List.length_cons, List.length_nil]; omega, by rw [List.append_assoc, pvA_at (by omega), show L.getD (i + min r 130 - 1) 0 = 0 by rw [show i + min r 130 - 1 = i + (min r 130 - 1) by omega, h3r _ (by omega)]; omega]; exact hI, hI3, hfr3, hF3, rfl, rfl, rfl⟩
      · replace c37 : ¬ _ := fun hp => Bool.false_ne_true (c37.symm.trans (hb37.2 hp))
        refine V_sr T.mix (by kernel_rfl) (fun K19 hK19 => ?_)
        refine S_cut (K' := fun l h' => ∃ b : Bool, (b = true ↔ ((0 < i ∧ L.getD i 0 = L.getD (i - 1) 0) ∧ 3 ≤ r)) ∧ l = [(0, .slice (some ⟨lb, lo, none⟩) 273 lc), (3, .slice oak (fl3 I).length ock), (4, .int .i64 (i : Int)), (5, .int .i64 (r : Int)), (67, .bool b)] ∧ hk = h') ?_ ?_
        · skip
          refine S_mv rfl ?_
          refine S_bin rfl rfl rfl ?_
          refine S_mv rfl ?_
          refine S_dec (fun g43 => ?_) (fun g43 => ?_)
          · skip
            refine S_gt rfl ?_
            refine S_mv rfl ?_
            refine S_gt rfl ?_
            refine S_mv rfl ?_
            refine S_gt rfl ?_
            first | refine S_ixn T.el56 rfl rfl (by omega) ?_ | refine S_ix1 T.el56 rfl rfl (by omega) (by omega) ?_ | refine S_ix T.el56 rfl rfl (by omega) (by omega) ?_
            refine S_gt rfl ?_
            refine S_ldK T.ag3 rfl (fun K' hK' => ?_)
            simp (disch := omega) only [hla2, Nat.mul_one, Int.toNat_natCast, oP_some, Nat.add_zero]
            refine hK' _ ?_; clear hK' K'
            refine S_gt rfl ?_
            refine S_mv rfl ?_
            refine S_gt rfl ?_
            refine S_mv rfl ?_
            refine S_gt rfl ?_
            refine S_subN (i - 1) rfl rfl (by omega) (by omega) ?_
            refine S_gt rfl ?_
            first | refine S_ixn T.el56 rfl rfl (by omega) ?_ | refine S_ix1 T.el56 rfl rfl (by omega) (by omega) ?_ | refine S_ix T.el56 rfl rfl (by omega) (by omega) ?_
            refine S_gt rfl ?_
            refine S_ldK T.ag3 rfl (fun K' hK' => ?_)
            simp (disch := omega) only [hla2, Nat.mul_one, Int.toNat_natCast, oP_some, Nat.add_zero]
            refine hK' _ ?_; clear hK' K'
            refine S_gt rfl ?_
            refine S_bin rfl rfl rfl ?_
            refine S_pt rfl rfl ?_
            refine S_mv rfl ?_
            refine S_dec (fun g43a => ?_) (fun g43a => ?_)
            · skip
              refine S_gt rfl ?_
              refine S_mv rfl ?_
              refine S_gt rfl ?_
              refine S_bin rfl rfl rfl ?_
              refine S_pt rfl rfl ?_
              exact S_nilk [0, 3, 4, 5, 67] (by simp only [proj, lk, reduceIte, Nat.reduceEqDiff]; rfl) ⟨_, (by first | (simp only [decide_eq_true_eq]; omega) | (simp only [Bool.false_eq_true, false_iff]; omega) | (simp; omega)), rfl, rfl⟩
            · skip
              refine S_gf rfl ?_
              refine S_gf rfl ?_
              refine S_pf rfl rfl ?_
              exact S_nilk [0, 3, 4, 5, 67] (by simp only [proj, lk, reduceIte, Nat.reduceEqDiff]; rfl) ⟨_, (by first | (simp only [decide_eq_true_eq]; omega) | (simp only [Bool.false_eq_true, false_iff]; omega) | (simp; omega)), rfl, rfl⟩
          · skip
            refine S_gf rfl ?_
            refine S_gf rfl ?_
            refine S_gf rfl ?_
            refine S_gf rfl ?_
            refine S_gf rfl ?_
            refine S_gf rfl ?_
            refine S_gf rfl ?_
            refine S_gf rfl ?_
            refine S_gf rfl ?_
            refine S_gf rfl ?_
            refine S_pf rfl rfl ?_
            refine S_mv rfl ?_
            refine S_gf rfl ?_
            refine S_gf rfl ?_
            refine S_pf rfl rfl ?_
            exact S_nilk [0, 3, 4, 5, 67] (by simp only [proj, lk, reduceIte, Nat.reduceEqDiff]; rfl) ⟨_, (by first | (simp only [decide_eq_true_eq]; omega) | (simp only [Bool.false_eq_true, false_iff]; omega) | (simp; omega)), rfl, rfl⟩
        rintro l h' ⟨b, hb43, rfl, rfl⟩
        refine hK19 _ _ ?_; clear hK19
        refine V_condb rfl (fun c43 => ?_) (fun c43 => ?_)
        · replace c43 := hb43.1 c43
          refine V_seqJ (fun l h' => (True) ∧ l = [(0, .slice (some ⟨lb, lo, none⟩) 273 lc), (3, .slice oak (fl3 I).length ock), (4, .int .i64 (i : Int)), (5, .int .i64 ((min r 6 : Nat) : Int))] ∧ hk = h') ?_ ?_
          · skip
            refine V_sr T.mix (by kernel_rfl) (fun K22 hK22 => ?_)
            refine S_mv rfl ?_
            refine S_bin rfl rfl rfl ?_
            refine S_nil (hK22 _ _ (V_keep [0, 3, 4, 5, 69] (by simp only [proj, lk, reduceIte, Nat.reduceEqDiff]; rfl) ?_)); clear hK22
            refine V_condp rfl (fun c44 => ?_) (fun c44 => ?_)
            · skip
              refine V_reg T.mix (by kernel_rfl) ?_
              refine S_as rfl ?_
              refine S_nilk [0, 3, 4, 5] (by simp only [proj, lk, reduceIte, Nat.reduceEqDiff]; rfl) ?_
              rw [show (6 : Int) = ((min r 6 : Nat) : Int) by omega]
              exact ⟨trivial, rfl, rfl⟩
            · skip
              refine V_skipk [0, 3, 4, 5] (by simp only [proj, lk, reduceIte, Nat.reduceEqDiff]; rfl) ?_
              rw [show (r : Int) = ((min r 6 : Nat) : Int) by omega]
              exact ⟨trivial, rfl, rfl⟩
          rintro l h' ⟨htt, rfl, rfl⟩
          refine V_sr T.mix (by kernel_rfl) (fun K23 hK23 => ?_)
          refine S_mv rfl ?_
          refine S_mv rfl ?_
          refine S_subN (min r 6 - 3) rfl rfl (by omega) (by omega) ?_
          refine S_bs T.ei56 rfl (by decide) (by decide) (T.bs56_3_0_1_2 _ _ _) ?_
          refine S_appx (lo := 0) T.ei56 T.ni56 T.us56 rfl rfl rfl (OwnR.ext hOk (Ext.push (fun _ => False) _ _) (fun _ _ f => f)) (Nat.zero_le _) (cellsH_new _ _ _) rfl (by omega) (by decide) (by decide) rfl (fun oa3 oc3 h3 ho3 hE3 hb3 => ?_)
          have hI3 : IL h3 oa3 oc3 (fl3 (I ++ [(12, min r 6 - 3, 2)])) := IL.app3 ho3
          have hF3 : Ext (fun _ => False) h h3 := hEk.step ((Ext.push _ _ _).trans hE3) (fun b hb e => by have h9 := hfr b e; omega)
          have hfr3 : ∀ b, blkA oa3 = some b → h.size ≤ b := fun b e => by rcases hb3 with q | q; (exact hfr b (q ▸ e)); (rw [q] at e; cases e; simp; omega)
          rw [show (fl3 I).length + 3 = (fl3 (I ++ [(12, min r 6 - 3, 2)])).length by rw [fl3_len, fl3_len, List.length_append]; simp only [List.length_cons, List.length_nil]; omega]
          refine S_as rfl ?_
          refine S_nil (hK23 _ _ (V_keep [0, 3, 4, 5] (by simp only [proj, lk, reduceIte, Nat.reduceEqDiff]; rfl) ?_)); clear hK23
          refine V_reg T.mix (by kernel_rfl) ?_
          refine S_mv rfl ?_
          refine S_mv rfl ?_
          refine S_addN (i + min r 6) rfl rfl (by omega) (by omega) ?_
          refine S_as rfl ?_
          refine S_nilk [0, 3, 4] (by simp only [proj, lk, reduceIte, Nat.reduceEqDiff]; rfl) ?_
          rw [it_rep (by omega) hrr (by omega) (by omega) (by omega) (by omega)] at hI
          exact hK5 _ _ ⟨_, by omega, i + min r 6, I ++ [(12, min r 6 - 3, 2)], h3, oa3, oc3, by omega, by rw [List.length_append]; simp only [List.length_cons, List.length_nil]; omega, by rw [List.append_assoc, pvA_at (by omega), show L.getD (i + min r 6 - 1) 0 = L.getD i 0 by rw [show i + min r 6 - 1 = i + (min r 6 - 1) by omega, h3r _ (by omega)]]; exact hI, hI3, hfr3, hF3, rfl, rfl, rfl⟩
        · replace c43 : ¬ _ := fun hp => Bool.false_ne_true (c43.symm.trans (hb43.2 hp))
          refine V_sr T.mix (by kernel_rfl) (fun K24 hK24 => ?_)
          refine S_mv rfl ?_
          refine S_mv rfl ?_
          refine S_mv rfl ?_
          first | refine S_ixn T.el56 rfl rfl (by omega) ?_ | refine S_ix1 T.el56 rfl rfl (by omega) (by omega) ?_ | refine S_ix T.el56 rfl rfl (by omega) (by omega) ?_
          refine S_ldK T.ag3 rfl (fun K' hK' => ?_)
          simp (disch := omega) only [hla2, Nat.mul_one, Int.toNat_natCast, oP_some, Nat.add_zero]
          refine hK' _ ?_; clear hK' K'
          refine S_bs T.ei56 rfl (by decide) (by decide) (T.bs56_3_0_1_2 _ _ _) ?_
          refine S_appx (lo := 0) T.ei56 T.ni56 T.us56 rfl rfl rfl (OwnR.ext hOk (Ext.push (fun _ => False) _ _) (fun _ _ f => f)) (Nat.zero_le _) (cellsH_new _ _ _) rfl (by omega) (by decide) (by decide) rfl (fun oa3 oc3 h3 ho3 hE3 hb3 => ?_)
          have hI3 : IL h3 oa3 oc3 (fl3 (I ++ [(L.getD i 0, 0, 0)])) := IL.app3 ho3
          have hF3 : Ext (fun _ => False) h h3 := hEk.step ((Ext.push _ _ _).trans hE3) (fun b hb e => by have h9 := hfr b e; omega)
          have hfr3 : ∀ b, blkA oa3 = some b → h.size ≤ b := fun b e => by rcases hb3 with q | q; (exact hfr b (q ▸ e)); (rw [q] at e; cases e; simp; omega)
          rw [show (fl3 I).length + 3 = (fl3 (I ++ [(L.getD i 0, 0, 0)])).length by rw [fl3_len, fl3_len, List.length_append]; simp only [List.length_cons, List.length_nil]; omega]
          refine S_as rfl ?_
          refine S_nil (hK24 _ _ (V_keep [0, 3, 4] (by simp only [proj, lk, reduceIte, Nat.reduceEqDiff]; rfl) ?_)); clear hK24
          refine V_reg T.mix (by kernel_rfl) ?_
          refine S_mv rfl ?_
          refine S_addN (i + 1) rfl rfl (by omega) (by omega) ?_
          refine S_as rfl ?_
          refine S_nilk [0, 3, 4] (by simp only [proj, lk, reduceIte, Nat.reduceEqDiff]; rfl) ?_
          rw [it_one (by omega) hrr (by omega) (by omega)] at hI
          exact hK5 _ _ ⟨_, by omega, i + 1, I ++ [(L.getD i 0, 0, 0)], h3, oa3, oc3, by omega, by rw [List.length_append]; simp only [List.length_cons, List.length_nil]; omega, by rw [List.append_assoc, pvA_at (by omega), show L.getD (i + 1 - 1) 0 = L.getD i 0 from rfl]; exact hI, hI3, hfr3, hF3, rfl, rfl, rfl⟩
  · skip
    refine V_exitk [3] rfl (by simp only [proj, lk, reduceIte, Nat.reduceEqDiff]; rfl) ?_
    refine hK4 _ _ ?_; clear hK4
    refine V_sr T.mix (by kernel_rfl) (fun K25 hK25 => ?_)
    refine S_mv rfl ?_
    refine S_as rfl ?_
    refine S_nil (hK25 _ _ (V_keep [2] (by simp only [proj, lk, reduceIte, Nat.reduceEqDiff]; rfl) ?_)); clear hK25
    refine V_ret ?_
    refine hR _ _ (ret1 rfl rfl ?_)
    have hi3 : L.drop i = [] := List.drop_of_length_le (by omega)
    rw [hi3, itG_nil, List.append_nil] at hI
    rw [← hI]
    exact ⟨oak, ock, rfl, hOk, hfr, hEk⟩
set_option maxHeartbeats 1600000 in
theorem bits_spec (h : Heap) (kd : Nat) (n : Nat) (hn : n ≤ 256) (cb : Nat) (cn : Nat → Nat) (bc : B h cb (ia 273 cn) 3) (hcn : ∀ i, cn i ≤ 600) (L : List Nat) (hL : L.length = 273) (la : Option Addr) (lc : Nat) (ol : OL h la lc (li L)) (hx : ∀ i, i < 273 → L.getD i 0 ≤ 10) :
    FC Tryz.prog 73 (#[.int .i64 (kd : Int), .int .i64 (n : Int), .slice (some ⟨cb, 0, none⟩) 273 273, .slice la 273 lc] : Array Value) h fun rv h' => rv = .int .i64 ((biF kd n cn L : Nat) : Int) ∧ Ext (fun _ => False) h h' := by
  obtain ⟨lb, lo, rfl, hlbl, hlat⟩ := ol.get (by rw [li_len]; omega)
  have hla : ∀ j, j < 273 → cellH h ⟨lb, lo + j, none⟩ = some (.int .i64 ((L.getD j 0 : Nat) : Int)) := fun j hj => by rw [hlat j (by rw [li_len]; omega), li_at]
  have hla2 := hla
  have acn := ia_at bc
  have ait : (0 : Nat) = 0 := rfl
  have hmm : ∀ x, x ∈ L → x ≤ 10 := fun x hh => by obtain ⟨i, hi, e⟩ := List.getElem_of_mem hh; have h9 := hx i (by omega); rw [List.getD_eq_getElem?_getD, List.getElem?_eq_getElem hi, Option.getD_some, e] at h9; exact h9
  have hib := (itG_ok _ L none (Nat.le_refl _) hmm).2
  have hbb := bd_bnd hx hcn
  refine FC_of [(0, .int .i64 (kd : Int)), (1, .int .i64 (n : Int)), (2, .slice (some ⟨cb, 0, none⟩) 273 273), (3, .slice (some ⟨lb, lo, none⟩) 273 lc)] Tryz.func73 rfl Tryz.ntmps73 (by simp) rfl (fun R hR => ?_)
  refine V_sr T.mix (by kernel_rfl) (fun K1 hK1 => ?_)
  refine S_as rfl ?_
  refine S_nil (hK1 _ _ (V_keep [0, 1, 2, 3] (by simp only [proj, lk, reduceIte, Nat.reduceEqDiff]; rfl) ?_)); clear hK1
  refine V_seq (fun K2 hK2 => ?_)
  refine V_sr T.mix (by kernel_rfl) (fun K3 hK3 => ?_)
  refine S_mv rfl ?_
  refine S_bin rfl rfl rfl ?_
  refine S_nil (hK3 _ _ (V_keep [0, 1, 2, 3, 16] (by simp only [proj, lk, reduceIte, Nat.reduceEqDiff]; rfl) ?_)); clear hK3
  refine V_condp rfl (fun c59 => ?_) (fun c59 => ?_)
  · skip
    refine V_sr T.mix (by kernel_rfl) (fun K4 hK4 => ?_)
    refine S_mv rfl ?_
    first | refine S_mul rfl rfl (by omega) (by omega) ?_ | refine S_bin rfl rfl rfl ?_
    first | refine S_add rfl rfl (by omega) (by omega) ?_ | refine S_bin rfl rfl rfl ?_
    refine S_as rfl ?_
    refine S_nil (hK4 _ _ (V_keep [8] (by simp only [proj, lk, reduceIte, Nat.reduceEqDiff]; rfl) ?_)); clear hK4
    refine V_ret ?_
    refine hR _ _ (ret1 rfl rfl ?_)
    have hr : biF kd n cn L = 24 + 8 * n := by unfold biF; rw [if_pos (by omega)]
    rw [hr]
    exact ⟨by first | rfl | (congr 1; omega), Ext.refl _ _⟩
  · skip
    refine V_skipk [0, 2, 3] (by simp only [proj, lk, reduceIte, Nat.reduceEqDiff]; rfl) ?_
    refine hK2 _ _ ?_; clear hK2
    refine V_sr T.mix (by kernel_rfl) (fun K5 hK5 => ?_)
    refine S_as rfl ?_
    refine S_nil (hK5 _ _ (V_keep [0, 2, 3, 9] (by simp only [proj, lk, reduceIte, Nat.reduceEqDiff]; rfl) ?_)); clear hK5
    refine V_seqJ (fun l h' => ∃ (h1 : Heap) (bs : Nat), (bs = 3 + (if kd = 2 then ib (itG none L) else 0)) ∧ (Ext (fun _ => False) h h1) ∧ (bs ≤ 1095) ∧ l = [(2, .slice (some ⟨cb, 0, none⟩) 273 273), (3, .slice (some ⟨lb, lo, none⟩) 273 lc), (9, .int .i64 (bs : Int))] ∧ h1 = h') ?_ ?_
    · skip
      refine V_sr T.mix (by kernel_rfl) (fun K7 hK7 => ?_)
      refine S_mv rfl ?_
      refine S_bin rfl rfl rfl ?_
      refine S_nil (hK7 _ _ (V_keep [2, 3, 9, 21] (by simp only [proj, lk, reduceIte, Nat.reduceEqDiff]; rfl) ?_)); clear hK7
      refine V_condp rfl (fun c63 => ?_) (fun c63 => ?_)
      · skip
        refine V_sr T.mix (by kernel_rfl) (fun K8 hK8 => ?_)
        refine S_mv rfl ?_
        refine S_call T.hb107 rfl ?_
        refine FC.mono (items_spec h L hL _ lc ol) ?_
        obtain ⟨I, hI⟩ : ∃ I, I = itG none L := ⟨_, rfl⟩
        rw [← hI] at hib ⊢
        rintro v' h1 ⟨ia_, ic, rfl, hIl, hfr, hE1⟩
        have hl3 := fl3_len I
        have hl4 := ib_len I
        refine S_as rfl ?_
        refine S_nil (hK8 _ _ (V_keep [2, 3, 9, 10] (by simp only [proj, lk, reduceIte, Nat.reduceEqDiff]; rfl) ?_)); clear hK8
        refine V_sr T.mix (by kernel_rfl) (fun K9 hK9 => ?_)
        refine S_as rfl ?_
        refine S_nil (hK9 _ _ (V_keep [2, 3, 9, 10, 11] (by simp only [proj, lk, reduceIte, Nat.reduceEqDiff]; rfl) ?_)); clear hK9
        refine V_block ?_
        refine V_loop (fun m l h' => ∃ (j : Nat), (j ≤ I.length) ∧ (ib (I.take j) ≤ ib I) ∧ m = I.length - j ∧ l = [(2, .slice (some ⟨cb, 0, none⟩) 273 273), (3, .slice (some ⟨lb, lo, none⟩) 273 lc), (9, .int .i64 ((3 + ib (I.take j) : Nat) : Int)), (10, .slice ia_ (fl3 I).length ic), (11, .int .i64 ((3 * j : Nat) : Int))] ∧ h1 = h') _ ⟨0, Nat.zero_le _, ib_take I 0, rfl, rfl, rfl⟩ ?_
        rintro m l h' ⟨j, hj, hjb, rfl, rfl, rfl⟩ K10 hK10
        try clear ait
        refine V_seq (fun K11 hK11 => ?_)
        refine V_sr T.mix (by kernel_rfl) (fun K12 hK12 => ?_)
        refine S_mv rfl ?_
        refine S_mv rfl ?_
        refine S_lenl T.el56 rfl ?_
        refine S_bin rfl rfl rfl ?_
        refine S_nil (hK12 _ _ (V_keep [2, 3, 9, 10, 11, 27] (by simp only [proj, lk, reduceIte, Nat.reduceEqDiff]; rfl) ?_)); clear hK12
        refine V_condp rfl (fun c65 => ?_) (fun c65 => ?_)
        · skip
          obtain ⟨ibk, rfl, _, hig, _⟩ := hIl.get (by omega)
          obtain ⟨q, qm, qt, q0, q1, q2⟩ := fl3_at I j (by omega)
          have ait : ∀ j, j < (fl3 I).length → cellH h1 ⟨ibk, j, none⟩ = some (.int .i64 ((fl3 I).getD j 0)) := hig
          have hj2 := ib_take I (j + 1)
          have hqs : ib (I.take j) + (4 + q.2.2) ≤ ib I := by rw [← ib_snoc, ← qt]; exact ib_take I (j + 1)
          refine V_skipk [2, 3, 9, 10, 11] (by simp only [proj, lk, reduceIte, Nat.reduceEqDiff]; rfl) ?_
          refine hK11 _ _ ?_; clear hK11
          refine V_seq (fun K13 hK13 => ?_)
          refine V_block ?_
          refine V_reg T.mix (by kernel_rfl) ?_
          refine S_mv rfl ?_
          refine S_addN (3 + ib (I.take j) + 4) rfl rfl (by omega) (by omega) ?_
          refine S_mv rfl ?_
          refine S_mv rfl ?_
          refine S_addN (3 * j + 2) rfl rfl (by omega) (by omega) ?_
          first | refine S_ixn T.el56 rfl rfl (by omega) ?_ | refine S_ix1 T.el56 rfl rfl (by omega) (by omega) ?_ | refine S_ix T.el56 rfl rfl (by omega) (by omega) ?_
          refine S_ldK T.ag3 rfl (fun K' hK' => ?_)
          simp (disch := omega) only [hla2, acn, ait, Nat.mul_one, Int.toNat_natCast, oP_some, Nat.add_zero]
          refine hK' _ ?_; clear hK' K'
          refine S_addN (3 + ib (I.take (j + 1))) rfl rfl (by rw [qt, ib_snoc]; omega) (by omega) ?_
          refine S_as rfl ?_
          refine S_nilk [2, 3, 9, 10, 11] (by simp only [proj, lk, reduceIte, Nat.reduceEqDiff]; rfl) ?_
          refine hK13 _ _ ?_; clear hK13
          refine V_reg T.mix (by kernel_rfl) ?_
          refine S_mv rfl ?_
          refine S_addN (3 * (j + 1)) rfl rfl (by omega) (by omega) ?_
          refine S_as rfl ?_
          refine S_nilk [2, 3, 9, 10, 11] (by simp only [proj, lk, reduceIte, Nat.reduceEqDiff]; rfl) ?_
          exact hK10 _ _ ⟨_, by omega, j + 1, by omega, ib_take I (j + 1), rfl, rfl, rfl⟩
        · skip
          refine V_exitk [2, 3, 9] rfl (by simp only [proj, lk, reduceIte, Nat.reduceEqDiff]; rfl) ?_
          have hj9 : j = I.length := by omega
          rw [hj9, List.take_length]
          rw [hI] at hib ⊢
          exact ⟨h1, _, by rw [if_pos (by omega)], hE1, by omega, rfl, rfl⟩
      · skip
        refine V_skipk [2, 3, 9] (by simp only [proj, lk, reduceIte, Nat.reduceEqDiff]; rfl) ?_
        exact ⟨h, 3, by rw [if_neg (by omega)], Ext.refl _ _, by omega, rfl, rfl⟩
    rintro l h' ⟨h1, bs, hbs, hE1, hbs2, rfl, rfl⟩
    try clear hla2 acn
    have hla2 : ∀ j, j < 273 → cellH h1 ⟨lb, lo + j, none⟩ = some (.int .i64 ((L.getD j 0 : Nat) : Int)) := fun j hj => by rw [cell_ext hE1 hlbl (fun f => f)]; exact hla j hj
    have acn := ia_at (bc.ext hE1 (fun f => f))
    refine V_seq (fun K14 hK14 => ?_)
    refine V_sr T.mix (by kernel_rfl) (fun K15 hK15 => ?_)
    refine S_as rfl ?_
    refine S_nil (hK15 _ _ (V_keep [2, 3, 9, 12] (by simp only [proj, lk, reduceIte, Nat.reduceEqDiff]; rfl) ?_)); clear hK15
    refine V_block ?_
    refine V_loop (fun m l h' => ∃ (s sm : Nat), (s ≤ 273) ∧ (sm = Huf.sm (fun s => cn s * (L.getD s 0 + mo s)) s) ∧ m = 273 - s ∧ l = [(2, .slice (some ⟨cb, 0, none⟩) 273 273), (3, .slice (some ⟨lb, lo, none⟩) 273 lc), (9, .int .i64 ((bs + sm : Nat) : Int)), (12, .int .i64 (s : Int))] ∧ h1 = h') _ ⟨0, 0, Nat.zero_le _, rfl, rfl, rfl, rfl⟩ ?_
    rintro m l h' ⟨s, sm, hs, hsm, rfl, rfl, rfl⟩ K16 hK16
    have hb1 := hbb s hs
    refine V_seq (fun K17 hK17 => ?_)
    refine V_sr T.mix (by kernel_rfl) (fun K18 hK18 => ?_)
    refine S_mv rfl ?_
    refine S_mv rfl ?_
    refine S_lenl T.el56 rfl ?_
    refine S_bin rfl rfl rfl ?_
    refine S_nil (hK18 _ _ (V_keep [2, 3, 9, 12, 41] (by simp only [proj, lk, reduceIte, Nat.reduceEqDiff]; rfl) ?_)); clear hK18
    refine V_condp rfl (fun c69 => ?_) (fun c69 => ?_)
    · skip
      refine V_skipk [2, 3, 9, 12] (by simp only [proj, lk, reduceIte, Nat.reduceEqDiff]; rfl) ?_
      refine hK17 _ _ ?_; clear hK17
      refine V_seq (fun K19 hK19 => ?_)
      refine V_block ?_
      refine V_sr T.mix (by kernel_rfl) (fun K20 hK20 => ?_)
      refine S_mv rfl ?_
      refine S_mv rfl ?_
      refine S_mv rfl ?_
      first | refine S_ixn T.el56 rfl rfl (by omega) ?_ | refine S_ix1 T.el56 rfl rfl (by omega) (by omega) ?_ | refine S_ix T.el56 rfl rfl (by omega) (by omega) ?_
      refine S_ldK T.ag3 rfl (fun K' hK' => ?_)
      simp (disch := omega) only [hla2, acn, ait, Nat.mul_one, Int.toNat_natCast, oP_some, Nat.add_zero]
      refine hK' _ ?_; clear hK' K'
      refine S_mv rfl ?_
      refine S_mv rfl ?_
      first | refine S_ixn T.el56 rfl rfl (by omega) ?_ | refine S_ix1 T.el56 rfl rfl (by omega) (by omega) ?_ | refine S_ix T.el56 rfl rfl (by omega) (by omega) ?_
      refine S_ldK T.ag3 rfl (fun K' hK' => ?_)
      simp (disch := omega) only [hla2, acn, ait, Nat.mul_one, Int.toNat_natCast, oP_some, Nat.add_zero]
      refine hK' _ ?_; clear hK' K'
      have h9 := Nat.mul_le_mul (hcn s) (hx s (by omega))
      refine S_mul rfl rfl (by rw [← Int.natCast_mul]; omega) (by rw [← Int.natCast_mul]; omega) ?_
      rw [← Int.natCast_mul]
      refine S_addN (bs + sm + cn s * L.getD s 0) rfl rfl (by omega) (by omega) ?_
      refine S_as rfl ?_
      refine S_nil (hK20 _ _ (V_keep [2, 3, 9, 12] (by simp only [proj, lk, reduceIte, Nat.reduceEqDiff]; rfl) ?_)); clear hK20
      refine V_sr T.mix (by kernel_rfl) (fun K21 hK21 => ?_)
      refine S_mv rfl ?_
      refine S_bin rfl rfl rfl ?_
      refine S_nil (hK21 _ _ (V_keep [2, 3, 9, 12, 56] (by simp only [proj, lk, reduceIte, Nat.reduceEqDiff]; rfl) ?_)); clear hK21
      refine V_condp rfl (fun c71 => ?_) (fun c71 => ?_)
      · skip
        refine V_sr T.mix (by kernel_rfl) (fun K22 hK22 => ?_)
        refine S_mv rfl ?_
        refine S_subN (s - 265) rfl rfl (by omega) (by omega) ?_
        refine S_call T.hb108 rfl ?_
        refine FC.mono (distbase_spec h1 (s - 265) (by omega)) ?_
        rintro v' h' ⟨rfl, rfl⟩
        refine S_mv rfl ?_
        refine S_ex rfl rfl ?_
        refine S_ex rfl rfl ?_
        refine S_as rfl ?_
        refine S_as rfl ?_
        refine S_nil (hK22 _ _ (V_keep [2, 3, 9, 12, 14] (by simp only [proj, lk, reduceIte, Nat.reduceEqDiff]; rfl) ?_)); clear hK22
        refine V_reg T.mix (by kernel_rfl) ?_
        refine S_mv rfl ?_
        refine S_mv rfl ?_
        refine S_mv rfl ?_
        first | refine S_ixn T.el56 rfl rfl (by omega) ?_ | refine S_ix1 T.el56 rfl rfl (by omega) (by omega) ?_ | refine S_ix T.el56 rfl rfl (by omega) (by omega) ?_
        refine S_ldK T.ag3 rfl (fun K' hK' => ?_)
        simp (disch := omega) only [hla2, acn, ait, Nat.mul_one, Int.toNat_natCast, oP_some, Nat.add_zero]
        refine hK' _ ?_; clear hK' K'
        refine S_mv rfl ?_
        have hdm := dM_le (s - 265)
        have h8 := Nat.mul_le_mul (hcn s) hdm
        refine S_mul rfl rfl (by rw [← Int.natCast_mul]; omega) (by rw [← Int.natCast_mul]; omega) ?_
        rw [← Int.natCast_mul]
        refine S_addN (bs + sm + cn s * L.getD s 0 + cn s * dM (s - 265)) rfl rfl (by omega) (by omega) ?_
        refine S_as rfl ?_
        refine S_nilk [2, 3, 9, 12] (by simp only [proj, lk, reduceIte, Nat.reduceEqDiff]; rfl) ?_
        refine hK19 _ _ ?_; clear hK19
        refine V_reg T.mix (by kernel_rfl) ?_
        refine S_mv rfl ?_
        first | refine S_add rfl rfl (by omega) (by omega) ?_ | refine S_bin rfl rfl rfl ?_
        refine S_as rfl ?_
        refine S_nilk [2, 3, 9, 12] (by simp only [proj, lk, reduceIte, Nat.reduceEqDiff]; rfl) ?_
        have hmo : mo s = dM (s - 265) := by unfold mo; rw [if_neg (by omega)]
        exact hK16 _ _ ⟨_, by omega, s + 1, sm + cn s * (L.getD s 0 + mo s), by omega, by rw [hsm, Huf.sm], rfl, by rw [hmo, Nat.mul_add, ← Nat.add_assoc, ← Nat.add_assoc]; rfl, rfl⟩
      · skip
        refine V_skipk [2, 3, 9, 12] (by simp only [proj, lk, reduceIte, Nat.reduceEqDiff]; rfl) ?_
        refine hK19 _ _ ?_; clear hK19
        refine V_reg T.mix (by kernel_rfl) ?_
        refine S_mv rfl ?_
        first | refine S_add rfl rfl (by omega) (by omega) ?_ | refine S_bin rfl rfl rfl ?_
        refine S_as rfl ?_
        refine S_nilk [2, 3, 9, 12] (by simp only [proj, lk, reduceIte, Nat.reduceEqDiff]; rfl) ?_
        have hmo : mo s = 0 := mo_0 (by omega)
        exact hK16 _ _ ⟨_, by omega, s + 1, sm + cn s * (L.getD s 0 + mo s), by omega, by rw [hsm, Huf.sm], rfl, by rw [hmo, Nat.add_zero, ← Nat.add_assoc]; rfl, rfl⟩
    · skip
      refine V_exitk [9] rfl (by simp only [proj, lk, reduceIte, Nat.reduceEqDiff]; rfl) ?_
      refine hK14 _ _ ?_; clear hK14
      refine V_sr T.mix (by kernel_rfl) (fun K23 hK23 => ?_)
      refine S_mv rfl ?_
      refine S_as rfl ?_
      refine S_nil (hK23 _ _ (V_keep [8] (by simp only [proj, lk, reduceIte, Nat.reduceEqDiff]; rfl) ?_)); clear hK23
      refine V_ret ?_
      refine hR _ _ (ret1 rfl rfl ?_)
      have hs9 : s = 273 := by omega
      subst hs9
      have hr : biF kd n cn L = bs + sm := by unfold biF; rw [if_neg (by omega), hbs, hsm]; rfl
      rw [hr]
      exact ⟨rfl, hE1⟩
set_option maxHeartbeats 400000 in
theorem mchoose_spec (h : Heap) (x y z : Nat) :
    FC Tryz.prog 74 (#[.int .i64 (x : Int), .int .i64 (y : Int), .int .i64 (z : Int)] : Array Value) h fun rv h' => rv = .int .i64 ((chs x y z : Nat) : Int) ∧ h = h' := by
  refine FC_of [(0, .int .i64 (x : Int)), (1, .int .i64 (y : Int)), (2, .int .i64 (z : Int))] Tryz.func74 rfl Tryz.ntmps74 (by simp) rfl (fun R hR => ?_)
  refine V_sr T.mix (by kernel_rfl) (fun K1 hK1 => ?_)
  refine S_as rfl ?_
  refine S_nil (hK1 _ _ (V_keep [0, 1, 2] (by simp only [proj, lk, reduceIte, Nat.reduceEqDiff]; rfl) ?_)); clear hK1
  refine V_seq (fun K2 hK2 => ?_)
  refine V_sr T.mix (by kernel_rfl) (fun K3 hK3 => ?_)
  refine S_mv rfl ?_
  refine S_mv rfl ?_
  refine S_bin rfl rfl rfl ?_
  refine S_mv rfl ?_
  refine S_dec (fun g81 => ?_) (fun g81 => ?_)
  · skip
    refine S_gt rfl ?_
    refine S_mv rfl ?_
    refine S_gt rfl ?_
    refine S_mv rfl ?_
    refine S_gt rfl ?_
    refine S_bin rfl rfl rfl ?_
    refine S_pt rfl rfl ?_
    refine S_nil (hK3 _ _ (V_keep [1, 2, 14] (by simp only [proj, lk, reduceIte, Nat.reduceEqDiff]; rfl) ?_)); clear hK3
    refine V_condp rfl (fun c81 => ?_) (fun c81 => ?_)
    · skip
      refine V_sr T.mix (by kernel_rfl) (fun K4 hK4 => ?_)
      refine S_as rfl ?_
      refine S_nil (hK4 _ _ (V_keep [6] (by simp only [proj, lk, reduceIte, Nat.reduceEqDiff]; rfl) ?_)); clear hK4
      refine V_ret ?_
      refine hR _ _ (ret1 rfl rfl ?_)
      exact ⟨by congr 1; unfold chs; (repeat' split) <;> first | rfl | omega, rfl⟩
    · skip
      refine V_skipk [1, 2] (by simp only [proj, lk, reduceIte, Nat.reduceEqDiff]; rfl) ?_
      refine hK2 _ _ ?_; clear hK2
      refine V_seq (fun K5 hK5 => ?_)
      refine V_sr T.mix (by kernel_rfl) (fun K6 hK6 => ?_)
      refine S_mv rfl ?_
      refine S_mv rfl ?_
      refine S_bin rfl rfl rfl ?_
      refine S_nil (hK6 _ _ (V_keep [17] (by simp only [proj, lk, reduceIte, Nat.reduceEqDiff]; rfl) ?_)); clear hK6
      refine V_condp rfl (fun c84 => ?_) (fun c84 => ?_)
      · skip
        refine V_sr T.mix (by kernel_rfl) (fun K7 hK7 => ?_)
        refine S_as rfl ?_
        refine S_nil (hK7 _ _ (V_keep [6] (by simp only [proj, lk, reduceIte, Nat.reduceEqDiff]; rfl) ?_)); clear hK7
        refine V_ret ?_
        refine hR _ _ (ret1 rfl rfl ?_)
        exact ⟨by congr 1; unfold chs; (repeat' split) <;> first | rfl | omega, rfl⟩
      · skip
        refine V_skipk [] (by simp only [proj, lk, reduceIte, Nat.reduceEqDiff]; rfl) ?_
        refine hK5 _ _ ?_; clear hK5
        refine V_sr T.mix (by kernel_rfl) (fun K8 hK8 => ?_)
        refine S_as rfl ?_
        refine S_nil (hK8 _ _ (V_keep [6] (by simp only [proj, lk, reduceIte, Nat.reduceEqDiff]; rfl) ?_)); clear hK8
        refine V_ret ?_
        refine hR _ _ (ret1 rfl rfl ?_)
        exact ⟨by congr 1; unfold chs; (repeat' split) <;> first | rfl | omega, rfl⟩
  · skip
    refine S_gf rfl ?_
    refine S_gf rfl ?_
    refine S_gf rfl ?_
    refine S_pf rfl rfl ?_
    refine S_nil (hK3 _ _ (V_keep [1, 2, 14] (by simp only [proj, lk, reduceIte, Nat.reduceEqDiff]; rfl) ?_)); clear hK3
    refine V_condf rfl ?_
    refine V_skipk [1, 2] (by simp only [proj, lk, reduceIte, Nat.reduceEqDiff]; rfl) ?_
    refine hK2 _ _ ?_; clear hK2
    refine V_seq (fun K9 hK9 => ?_)
    refine V_sr T.mix (by kernel_rfl) (fun K10 hK10 => ?_)
    refine S_mv rfl ?_
    refine S_mv rfl ?_
    refine S_bin rfl rfl rfl ?_
    refine S_nil (hK10 _ _ (V_keep [17] (by simp only [proj, lk, reduceIte, Nat.reduceEqDiff]; rfl) ?_)); clear hK10
    refine V_condp rfl (fun c84a => ?_) (fun c84a => ?_)
    · skip
      refine V_sr T.mix (by kernel_rfl) (fun K11 hK11 => ?_)
      refine S_as rfl ?_
      refine S_nil (hK11 _ _ (V_keep [6] (by simp only [proj, lk, reduceIte, Nat.reduceEqDiff]; rfl) ?_)); clear hK11
      refine V_ret ?_
      refine hR _ _ (ret1 rfl rfl ?_)
      exact ⟨by congr 1; unfold chs; (repeat' split) <;> first | rfl | omega, rfl⟩
    · skip
      refine V_skipk [] (by simp only [proj, lk, reduceIte, Nat.reduceEqDiff]; rfl) ?_
      refine hK9 _ _ ?_; clear hK9
      refine V_sr T.mix (by kernel_rfl) (fun K12 hK12 => ?_)
      refine S_as rfl ?_
      refine S_nil (hK12 _ _ (V_keep [6] (by simp only [proj, lk, reduceIte, Nat.reduceEqDiff]; rfl) ?_)); clear hK12
      refine V_ret ?_
      refine hR _ _ (ret1 rfl rfl ?_)
      exact ⟨by congr 1; unfold chs; (repeat' split) <;> first | rfl | omega, rfl⟩
set_option maxHeartbeats 400000 in
theorem mputs_spec (h : Heap) (M : Nat) (ta : Option Addr) (tc : Nat) (s : TS) (mt : BitW.MT h M ta tc s) (A : Nat) (la cb : Option Addr) (lf : Nat → Nat) (N : Nat) (k : MK h A la cb lf N) (y : Nat) (hy : y < N) (hy0 : 0 < lf y) :
    FC Tryz.prog 113 (#[.pointer (some ⟨M, 0, none⟩), .pointer (some ⟨A, 0, none⟩), .int .i64 (y : Int)] : Array Value) h fun rv h' => rv = .tuple #[] ∧ ∃ ta' tc', BitW.MT h' M ta' tc' (putS s (Huf.cd lf N y : Int) (lf y : Int)) ∧ BitW.MEx M h h' ta ta' := by
  refine FC_of [(0, .pointer (some ⟨M, 0, none⟩)), (1, .pointer (some ⟨A, 0, none⟩)), (2, .int .i64 (y : Int))] Tryz.func113 rfl Tryz.ntmps113 (by simp) rfl (fun R hR => ?_)
  refine V_sr T.mix (by kernel_rfl) (fun K1 hK1 => ?_)
  refine S_mv rfl ?_
  refine S_mv rfl ?_
  refine S_call T.hb139 rfl ?_
  have hcc := mcode_spec h A la cb lf N k (y : Int)
  rw [codF_ok ⟨by omega, by omega, by rw [Int.toNat_natCast]; exact hy0⟩, Int.toNat_natCast] at hcc
  refine FC.mono (hcc) ?_
  rintro v' h' ⟨rfl, rfl⟩
  unfold tri
  refine S_mv rfl ?_
  refine S_ex rfl rfl ?_
  refine S_ex rfl rfl ?_
  refine S_ex rfl rfl ?_
  refine S_as rfl ?_
  refine S_as rfl ?_
  refine S_as rfl ?_
  refine S_nil (hK1 _ _ (V_keep [0, 6, 7] (by simp only [proj, lk, reduceIte, Nat.reduceEqDiff]; rfl) ?_)); clear hK1
  refine V_reg T.mix (by kernel_rfl) ?_
  refine S_mv rfl ?_
  refine S_mv rfl ?_
  refine S_mv rfl ?_
  refine S_call T.hb109 rfl ?_
  refine FC.mono (BitW.mput_spec h M ta tc s mt (Huf.cd lf N y : Int) (lf y : Int)) ?_
  rintro v' h1 ⟨rfl, ta1, tc1, mt1, mx1⟩
  refine S_nilk [] (by simp only [proj, lk, reduceIte, Nat.reduceEqDiff]; rfl) ?_
  -- end
  refine hR _ _ (ret0 rfl ?_)
  exact ⟨rfl, ta1, tc1, mt1, mx1⟩
end Go.Proofs.Qxb6500404aGreat
