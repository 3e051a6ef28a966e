import Derived.Test.Qxb6500403aGreatXi
set_option linter.unusedVariables false
set_option linter.unusedSimpArgs false
namespace Go.Proofs.Qxb6500403aGreat
open Go.Eng Go.Trl Go.Chk Go.Wat

def liveL (cl : Nat → Option (List Int)) : List (List Int) := (idsF cl 52).map (clF cl)
theorem mem_liveL {h : Heap} {mm : MC} {cl : Nat → Option (List Int)} {G : Nat → Prop} (r : MR h mm cl G) {c : List Int} : c ∈ liveL cl ↔ ∃ i, i < 52 ∧ cl i = some c := by
  unfold liveL; rw [List.mem_map]
  constructor
  · rintro ⟨x, hx, rfl⟩
    obtain ⟨i, rfl, h1, h2⟩ := mem_idsF.1 hx
    obtain ⟨cc, hc⟩ := Option.isSome_iff_exists.1 h2
    exact ⟨i, h1, by unfold clF; rw [liveC_nat h1, hc]; rfl⟩
  · rintro ⟨i, h1, h2⟩
    exact ⟨i, mem_idsF.2 ⟨i, rfl, h1, by rw [h2]; rfl⟩, by unfold clF; rw [liveC_nat h1, h2]; rfl⟩
theorem liveL_len (cl : Nat → Option (List Int)) : (liveL cl).length ≤ 52 := by unfold liveL; rw [List.length_map]; exact idsF_len cl 52
def frV : Option Nat → Int
  | none => -1
  | some f => (f : Int)
theorem frI_step (cl : Nat → Option (List Int)) (k n : Nat) : frI cl k (n + 1) = if (cl k).isSome then frI cl (k + 1) n else some k := rfl
theorem mem_ids {cl : Nat → Option (List Int)} {k : Nat} (hk : k < 52) : (k : Int) ∈ idsF cl 52 ↔ (cl k).isSome = true := by
  rw [mem_idsF]
  constructor
  · rintro ⟨i, h1, _, h2⟩; rw [show k = i by omega]; exact h2
  · intro e; exact ⟨k, rfl, hk, e⟩
theorem mem_live {cl : Nat → Option (List Int)} {id : Int} : id ∈ idsF cl 52 ↔ (liveC cl id).isSome = true := by
  rw [mem_idsF]; unfold liveC
  constructor
  · rintro ⟨i, rfl, h1, h2⟩; rw [if_pos (by omega), Int.toNat_natCast]; exact h2
  · intro e
    split at e
    · rename_i q; exact ⟨id.toNat, by omega, by omega, e⟩
    · cases e
theorem add_cases (cl : Nat → Option (List Int)) (xs : List Int) (le : Bool) : (ccE xs ≠ 0 ∧ addV cl xs le = (0, ccE xs) ∧ addS cl xs le = cl) ∨ (ccE xs = 0 ∧ frI cl (loI le) (nI le) = none ∧ addV cl xs le = (0, 12) ∧ addS cl xs le = cl) ∨ ∃ k, ccE xs = 0 ∧ frI cl (loI le) (nI le) = some k ∧ k < 52 ∧ cl k = none ∧ addV cl xs le = (k, 0) ∧ addS cl xs le = upO cl k (some xs) := by
  by_cases e : ccE xs = 0
  · cases e2 : frI cl (loI le) (nI le) with
    | none => right; left; refine ⟨e, rfl, ?_, ?_⟩ <;> simp [addV, addS, e, e2]
    | some k =>
      right; right
      have := frI_some _ _ e2
      refine ⟨k, e, rfl, ?_, this.2.2.1, ?_, ?_⟩
      · have := this.2.1; rw [loI_n] at this; cases le <;> simp at this <;> omega
      · simp [addV, e, e2]
      · simp [addS, e, e2]
  · left; refine ⟨e, ?_, ?_⟩ <;> simp [addV, addS, e]

theorem rem_cases (cl : Nat → Option (List Int)) (s : TS) (id : Int) : (liveC cl id = none ∧ remV cl s id = 13 ∧ remS cl s id = cl) ∨ ∃ (n : Nat) (c : List Int), id = n ∧ n < 52 ∧ cl n = some c ∧ liveC cl id = some c ∧ ((lockB s n c = true ∧ remV cl s id = 14 ∧ remS cl s id = cl) ∨ (lockB s n c = false ∧ remV cl s id = 0 ∧ remS cl s id = upO cl n none)) := by
  cases e : liveC cl id with
  | none => left; have h1 : remV cl s id = 13 := (by unfold remV; rw [e]); exact ⟨rfl, h1, by unfold remS; rw [if_neg (by omega)]⟩
  | some c =>
    right
    obtain ⟨n, c2, h1, h2, h3, h4⟩ := liveS (cl := cl) (id := id) (by rw [e]; rfl)
    rw [e] at h4; cases h4
    subst h1
    refine ⟨n, c, rfl, h2, h3, rfl, ?_⟩
    cases e2 : lockB s n c with
    | true => left; have h5 : remV cl s (n : Int) = 14 := (by unfold remV; rw [e]; simp [e2]); exact ⟨rfl, h5, by unfold remS; rw [if_neg (by omega)]⟩
    | false => right; have h5 : remV cl s (n : Int) = 0 := (by unfold remV; rw [e]; simp [e2]); exact ⟨rfl, h5, by unfold remS; rw [if_pos h5, Int.toNat_natCast]⟩
theorem any_snoc {c : List Int} {i : Nat} (h : i < c.length) (f : Int → Bool) : (c.take (i + 1)).any f = ((c.take i).any f || f (c.getD i 0)) := by
  rw [getD_snoc _ _ h, List.any_append]; simp
set_option maxHeartbeats 400000 in
theorem on_spec (h : Heap) (A : UA) (u : US) (hD : B h A.U (ucs A u) 48) (mm : MC) (cl : Nat → Option (List Int)) (G F : Nat → Prop) (s : TS) (mv : MV h A.M A.Y mm cl G F s) :
    FC Tryz.prog 80 (#[.pointer (some ⟨A.U, 0, none⟩)] : Array Value) h fun rv h' => ∃ a' c', rv = .slice a' (lits s.L).length c' ∧ OwnR h.size h' a' (lits s.L).length c' (ints (lits s.L)) 3 1 ∧ Ext (fun _ => False) h h' := by
  try clear u0 u1 u2 u3 u4 u5 u6 u7 huok
  obtain ⟨u0, u1, u2, u3, u4, u5, u6, u7, huok⟩ := uq (hD)
  have hl12 := mv.t.ok.len
  have hll := lits_len s.L
  have hcon := con_lits mv.t.ok
  refine FC_of [(0, .pointer (some ⟨A.U, 0, none⟩))] Tryz.func80 rfl Tryz.ntmps80 (by simp) rfl (fun R hR => ?_)
  refine V_sr T.mix (by kernel_rfl) (fun K1 hK1 => ?_)
  refine S_as rfl ?_
  refine S_nil (hK1 _ _ (V_keep [0] (by simp only [proj, lk, reduceIte, Nat.reduceEqDiff]; rfl) ?_)); clear hK1
  refine V_sr T.mix (by kernel_rfl) (fun K2 hK2 => ?_)
  refine S_as rfl ?_
  refine S_nil (hK2 _ _ (V_keep [0, 3] (by simp only [proj, lk, reduceIte, Nat.reduceEqDiff]; rfl) ?_)); clear hK2
  refine V_sr T.mix (by kernel_rfl) (fun K3 hK3 => ?_)
  refine S_mv rfl ?_
  refine S_nc rfl ?_
  first | refine S_fa0 T.f48_2 rfl ?_ | refine S_fa T.f48_2 rfl ?_
  first | refine S_fa0 T.f46_0 rfl ?_ | refine S_fa T.f46_0 rfl ?_
  refine S_ldK T.ag43 rfl (fun K' hK' => ?_)
  simp (disch := omega) only [u0, u1, u2, u3, u4, u5, u6, u7, oP_some, Nat.add_zero]
  refine hK' _ ?_; clear hK' K'
  refine S_call T.hb45 rfl ?_
  refine FC.mono (mlen_spec h A.Y F s mv.t) ?_
  rintro v' h' ⟨rfl, rfl⟩
  refine S_as rfl ?_
  refine S_nil (hK3 _ _ (V_keep [0, 3, 4] (by simp only [proj, lk, reduceIte, Nat.reduceEqDiff]; rfl) ?_)); clear hK3
  refine V_seq (fun K4 hK4 => ?_)
  refine V_sr T.mix (by kernel_rfl) (fun K5 hK5 => ?_)
  refine S_as rfl ?_
  refine S_nil (hK5 _ _ (V_keep [0, 3, 4, 5] (by simp only [proj, lk, reduceIte, Nat.reduceEqDiff]; rfl) ?_)); clear hK5
  refine V_block ?_
  refine V_loop (fun m l h' => ∃ (i : Nat) (hk : Heap) (oa : Option Addr) (oc : Nat), (i ≤ s.L.length) ∧ (OwnR h.size hk oa ((lits s.L).take i).length oc (ints ((lits s.L).take i)) 3 1) ∧ (Ext (fun _ => False) h hk) ∧ m = s.L.length - i ∧ l = [(0, .pointer (some ⟨A.U, 0, none⟩)), (3, .slice oa ((lits s.L).take i).length oc), (4, .int .i64 (s.L.length : Int)), (5, .int .i64 (i : Int))] ∧ hk = h') _ ⟨0, h, none, 0, by omega, OwnR.nil _ _ _ _, Ext.refl _ _, rfl, rfl, rfl⟩ ?_
  rintro m l h' ⟨i, hk, oa, oc, hi, hoo, hEk, rfl, rfl, rfl⟩ K6 hK6
  try clear u0 u1 u2 u3 u4 u5 u6 u7 huok
  obtain ⟨u0, u1, u2, u3, u4, u5, u6, u7, huok⟩ := uq (hD.ext hEk (fun f => f))
  have hsz := hEk.1
  have htl : ((lits s.L).take i).length ≤ 12 := by rw [List.length_take]; omega
  refine V_seq (fun K7 hK7 => ?_)
  refine V_sr T.mix (by kernel_rfl) (fun K8 hK8 => ?_)
  refine S_mv rfl ?_
  refine S_mv rfl ?_
  refine S_bin rfl rfl rfl ?_
  refine S_nil (hK8 _ _ (V_keep [0, 3, 4, 5, 15] (by simp only [proj, lk, reduceIte, Nat.reduceEqDiff]; rfl) ?_)); clear hK8
  refine V_condp rfl (fun c299 => ?_) (fun c299 => ?_)
  · skip
    refine V_skipk [0, 3, 4, 5] (by simp only [proj, lk, reduceIte, Nat.reduceEqDiff]; rfl) ?_
    refine hK7 _ _ ?_; clear hK7
    refine V_seq (fun K9 hK9 => ?_)
    refine V_block ?_
    refine V_sr T.mix (by kernel_rfl) (fun K10 hK10 => ?_)
    refine S_mv rfl ?_
    refine S_nc rfl ?_
    first | refine S_fa0 T.f48_2 rfl ?_ | refine S_fa T.f48_2 rfl ?_
    first | refine S_fa0 T.f46_0 rfl ?_ | refine S_fa T.f46_0 rfl ?_
    refine S_ldK T.ag43 rfl (fun K' hK' => ?_)
    simp (disch := omega) only [u0, u1, u2, u3, u4, u5, u6, u7, oP_some, Nat.add_zero]
    refine hK' _ ?_; clear hK' K'
    refine S_mv rfl ?_
    refine S_call T.hb57 rfl ?_
    refine FC.mono (mat_spec hk A.Y F s (mv.t.ext hEk (fun _ _ f => f)) (i : Int)) ?_
    rintro v' h' ⟨rfl, rfl⟩
    refine S_as rfl ?_
    refine S_nil (hK10 _ _ (V_keep [0, 3, 4, 5, 6] (by simp only [proj, lk, reduceIte, Nat.reduceEqDiff]; rfl) ?_)); clear hK10
    refine V_reg T.mix (by kernel_rfl) ?_
    refine S_mv rfl ?_
    refine S_mv rfl ?_
    refine S_bs T.ei33 rfl (by decide) (by decide) (T.bs33_1_0 _) ?_
    refine S_appx (lo := h.size) T.ei33 T.ni33 T.us33 rfl rfl rfl (OwnR.ext hoo (Ext.push (fun _ => False) _ _) (fun _ _ f => f)) (by simp; omega) (cellsH_new _ _ _) rfl (by omega) (by decide) (by decide) rfl (fun a4 c4 h4 ho4 hE4x hb4x => ?_)
    have hE4 : Ext (fun z => blkA oa = some z) hk h4 := (Ext.push _ _ _).trans hE4x
    have hb4 := new_blk2 (h := hk) hb4x (by simp)
    have hI4 : OwnR h.size h4 a4 (((lits s.L).take i) ++ [atL s.L (i : Int)]).length c4 (ints (((lits s.L).take i) ++ [atL s.L (i : Int)])) 3 1 := by rw [ints_snoc, List.length_append]; exact ho4
    refine S_as rfl ?_
    refine S_nilk [0, 3, 4, 5] (by simp only [proj, lk, reduceIte, Nat.reduceEqDiff]; rfl) ?_
    refine hK9 _ _ ?_; clear hK9
    refine V_reg T.mix (by kernel_rfl) ?_
    refine S_mv rfl ?_
    first | refine S_add rfl rfl (by omega) (by omega) ?_ | refine S_bin rfl rfl rfl ?_
    refine S_as rfl ?_
    refine S_nilk [0, 3, 4, 5] (by simp only [proj, lk, reduceIte, Nat.reduceEqDiff]; rfl) ?_
    exact hK6 _ _ ⟨_, by omega, i + 1, h4, a4, c4, by omega, (by rw [lits_snoc (by omega)]; exact hI4), hEk.step hE4 (fun z hz e => by have h9 := OwnR.blk2 hoo e; omega), rfl, by rw [lits_snoc (by omega)]; simp, rfl⟩
  · skip
    refine V_exitk [3] rfl (by simp only [proj, lk, reduceIte, Nat.reduceEqDiff]; rfl) ?_
    refine hK4 _ _ ?_; clear hK4
    refine V_sr T.mix (by kernel_rfl) (fun K11 hK11 => ?_)
    refine S_mv rfl ?_
    refine S_as rfl ?_
    refine S_nil (hK11 _ _ (V_keep [2] (by simp only [proj, lk, reduceIte, Nat.reduceEqDiff]; rfl) ?_)); clear hK11
    refine V_ret ?_
    refine hR _ _ (ret1 rfl rfl ?_)
    have hie : i = (lits s.L).length := by omega
    rw [hie, List.take_length] at hoo ⊢
    exact ⟨oa, oc, rfl, hoo, hEk⟩
set_option maxHeartbeats 1600000 in
theorem live_spec (h : Heap) (A : UA) (u : US) (hD : B h A.U (ucs A u) 48) (mm : MC) (cl : Nat → Option (List Int)) (G F : Nat → Prop) (s : TS) (mv : MV h A.M A.Y mm cl G F s) :
    FC Tryz.prog 86 (#[.pointer (some ⟨A.U, 0, none⟩)] : Array Value) h fun rv h' => ∃ a' c', rv = .slice a' (liveL cl).length c' ∧ LV h.size h'.size h' a' c' (liveL cl) ∧ Ext (fun _ => False) h h' := by
  try clear u0 u1 u2 u3 u4 u5 u6 u7 huok
  obtain ⟨u0, u1, u2, u3, u4, u5, u6, u7, huok⟩ := uq (hD)
  have hil := idsF_len cl 52
  refine FC_of [(0, .pointer (some ⟨A.U, 0, none⟩))] Tryz.func86 rfl Tryz.ntmps86 (by simp) rfl (fun R hR => ?_)
  refine V_sr T.mix (by kernel_rfl) (fun K1 hK1 => ?_)
  refine S_as rfl ?_
  refine S_nil (hK1 _ _ (V_keep [0] (by simp only [proj, lk, reduceIte, Nat.reduceEqDiff]; rfl) ?_)); clear hK1
  refine V_sr T.mix (by kernel_rfl) (fun K2 hK2 => ?_)
  refine S_as rfl ?_
  refine S_nil (hK2 _ _ (V_keep [0, 3] (by simp only [proj, lk, reduceIte, Nat.reduceEqDiff]; rfl) ?_)); clear hK2
  refine V_sr T.mix (by kernel_rfl) (fun K3 hK3 => ?_)
  refine S_mv rfl ?_
  refine S_nc rfl ?_
  first | refine S_fa0 T.f48_2 rfl ?_ | refine S_fa T.f48_2 rfl ?_
  first | refine S_fa0 T.f46_1 rfl ?_ | refine S_fa T.f46_1 rfl ?_
  refine S_ldK T.ag44 rfl (fun K' hK' => ?_)
  simp (disch := omega) only [u0, u1, u2, u3, u4, u5, u6, u7, oP_some, Nat.add_zero]
  refine hK' _ ?_; clear hK' K'
  refine S_call T.hb58 rfl ?_
  refine FC.mono (mwids_spec h A.M A.Y mm cl G F s mv) ?_
  rintro v' h1 ⟨a1, rfl, hI1, hn1, hb1, hE1⟩
  have hl1 := hE1.1
  refine S_as rfl ?_
  refine S_nil (hK3 _ _ (V_keep [0, 3, 4] (by simp only [proj, lk, reduceIte, Nat.reduceEqDiff]; rfl) ?_)); clear hK3
  refine V_seq (fun K4 hK4 => ?_)
  refine V_sr T.mix (by kernel_rfl) (fun K5 hK5 => ?_)
  refine S_as rfl ?_
  refine S_nil (hK5 _ _ (V_keep [0, 3, 4, 5] (by simp only [proj, lk, reduceIte, Nat.reduceEqDiff]; rfl) ?_)); clear hK5
  refine V_block ?_
  refine V_loop (fun m l h' => ∃ (i : Nat) (hk : Heap) (oa : Option Addr) (oc hi_ : Nat), (i ≤ (idsF cl 52).length) ∧ (LV h1.size hi_ hk oa oc (((idsF cl 52).take i).map (clF cl))) ∧ (Ext (fun _ => False) h hk) ∧ (Ext (fun _ => False) h1 hk) ∧ m = (idsF cl 52).length - i ∧ l = [(0, .pointer (some ⟨A.U, 0, none⟩)), (3, .slice oa (((idsF cl 52).take i).map (clF cl)).length oc), (4, .slice a1 (idsF cl 52).length (idsF cl 52).length), (5, .int .i64 (i : Int))] ∧ hk = h') _ ⟨0, h1, none, 0, h1.size, by omega, LV.nil _ _ _ (Nat.le_refl _), hE1, Ext.refl _ _, rfl, rfl, rfl⟩ ?_
  rintro m l h' ⟨i, hk, oa, oc, hi_, hi, hlv, hEk, hE1k, rfl, rfl, rfl⟩ K6 hK6
  try clear u0 u1 u2 u3 u4 u5 u6 u7 huok
  obtain ⟨u0, u1, u2, u3, u4, u5, u6, u7, huok⟩ := uq (hD.ext hEk (fun f => f))
  have hsz := hEk.1
  have hsz1 := hE1k.1
  have htl : (((idsF cl 52).take i).map (clF cl)).length ≤ 52 := by rw [List.length_map, List.length_take]; omega
  refine V_seq (fun K7 hK7 => ?_)
  refine V_sr T.mix (by kernel_rfl) (fun K8 hK8 => ?_)
  refine S_mv rfl ?_
  refine S_mv rfl ?_
  refine S_lenl T.el33 rfl ?_
  refine S_bin rfl rfl rfl ?_
  refine S_nil (hK8 _ _ (V_keep [0, 3, 4, 5, 17] (by simp only [proj, lk, reduceIte, Nat.reduceEqDiff]; rfl) ?_)); clear hK8
  refine V_condp rfl (fun c310 => ?_) (fun c310 => ?_)
  · skip
    obtain ⟨bb, rfl, _, _, _⟩ := hI1.get (by omega)
    have hIk := hI1.ext hE1k (fun _ _ f => f)
    refine V_skipk [0, 3, 4, 5] (by simp only [proj, lk, reduceIte, Nat.reduceEqDiff]; rfl) ?_
    refine hK7 _ _ ?_; clear hK7
    refine V_seq (fun K9 hK9 => ?_)
    refine V_block ?_
    refine V_sr T.mix (by kernel_rfl) (fun K10 hK10 => ?_)
    refine S_mv rfl ?_
    refine S_nc rfl ?_
    first | refine S_fa0 T.f48_2 rfl ?_ | refine S_fa T.f48_2 rfl ?_
    first | refine S_fa0 T.f46_1 rfl ?_ | refine S_fa T.f46_1 rfl ?_
    refine S_ldK T.ag44 rfl (fun K' hK' => ?_)
    simp (disch := omega) only [u3, hIk.at, oP_some, Nat.add_zero]
    refine hK' _ ?_; clear hK' K'
    refine S_mv rfl ?_
    refine S_mv rfl ?_
    first | refine S_ixn T.el33 rfl rfl (by omega) ?_ | refine S_ix1 T.el33 rfl rfl (by omega) (by omega) ?_ | refine S_ix T.el33 rfl rfl (by omega) (by omega) ?_
    refine S_ldK T.ag3 rfl (fun K' hK' => ?_)
    simp (disch := omega) only [u3, hIk.at, oP_some, Nat.add_zero]
    refine hK' _ ?_; clear hK' K'
    refine S_call T.hb59 rfl ?_
    refine FC.mono (mwclause_spec hk A.M A.Y mm cl G F s (mv.ext hEk (fun f => f) (fun _ _ f => f) (fun _ _ f => f)) ((idsF cl 52).getD i 0)) ?_
    rintro v' h3 ⟨ac, rfl, hIc, hnc, hbc, hE3⟩
    refine S_mv rfl ?_
    refine S_ex rfl rfl ?_
    refine S_ex rfl rfl ?_
    refine S_as rfl ?_
    refine S_as rfl ?_
    refine S_nil (hK10 _ _ (V_keep [0, 3, 4, 5, 6] (by simp only [proj, lk, reduceIte, Nat.reduceEqDiff]; rfl) ?_)); clear hK10
    refine V_reg T.mix (by kernel_rfl) ?_
    refine S_mv rfl ?_
    refine S_mv rfl ?_
    refine S_bs T.ei34 rfl (by decide) (by decide) (T.bs34_1_0 _ _ _) ?_
    have hlv3 := hlv.ext hE3 (fun z _ _ f => f)
    obtain ⟨vs, hvs⟩ := hlv3.own
    have hl3 := hE3.1
    have hlk := hlv.le
    refine S_appx (lo := h1.size) T.ei34 T.ni34 T.us34 rfl rfl rfl (OwnR.ext hvs (Ext.push (fun _ => False) _ _) (fun _ _ f => f)) (by simp; omega) (cellsH_new _ _ _) rfl (by omega) (by decide) (by decide) rfl (fun a4 c4 h4 ho4 hE4x hb4x => ?_)
    have hE4 : Ext (fun z => blkA oa = some z) h3 h4 := (Ext.push _ _ _).trans hE4x
    have hb4 := new_blk2 (h := h3) hb4x (by simp)
    have hlv4 : LV h1.size h4.size h4 a4 c4 ((((idsF cl 52).take i).map (clF cl)) ++ [clF cl ((idsF cl 52).getD i 0)]) := hlv3.snoc hvs ho4 hE4 hb4 hIc (fun z e => ⟨by have h9 := hbc z e; omega, fun q => by have h9 := hbc z e; obtain ⟨_, _, h8, _⟩ := hlv; have h7 := h8 z q; omega⟩)
    refine S_as rfl ?_
    refine S_nilk [0, 3, 4, 5] (by simp only [proj, lk, reduceIte, Nat.reduceEqDiff]; rfl) ?_
    refine hK9 _ _ ?_; clear hK9
    refine V_reg T.mix (by kernel_rfl) ?_
    refine S_mv rfl ?_
    first | refine S_add rfl rfl (by omega) (by omega) ?_ | refine S_bin rfl rfl rfl ?_
    refine S_as rfl ?_
    refine S_nilk [0, 3, 4, 5] (by simp only [proj, lk, reduceIte, Nat.reduceEqDiff]; rfl) ?_
    exact hK6 _ _ ⟨_, by omega, i + 1, h4, a4, c4, h4.size, by omega, (by rw [getD_snoc _ _ (by omega), List.map_append]; exact hlv4), (hEk.trans hE3).step hE4 (fun z hz e => by have h9 := OwnR.blk2 hvs e; omega), (hE1k.trans hE3).step hE4 (fun z hz e => by have h9 := OwnR.blk2 hvs e; omega), rfl, by rw [getD_snoc _ _ (by omega), List.map_append]; simp, rfl⟩
  · skip
    refine V_exitk [3] rfl (by simp only [proj, lk, reduceIte, Nat.reduceEqDiff]; rfl) ?_
    refine hK4 _ _ ?_; clear hK4
    refine V_sr T.mix (by kernel_rfl) (fun K11 hK11 => ?_)
    refine S_mv rfl ?_
    refine S_as rfl ?_
    refine S_nil (hK11 _ _ (V_keep [2] (by simp only [proj, lk, reduceIte, Nat.reduceEqDiff]; rfl) ?_)); clear hK11
    refine V_ret ?_
    refine hR _ _ (ret1 rfl rfl ?_)
    have hie : i = (idsF cl 52).length := by omega
    rw [hie, List.take_length] at hlv ⊢
    exact ⟨oa, oc, rfl, hlv.wid hl1 hlv.le (Nat.le_refl _), hEk⟩
set_option maxHeartbeats 400000 in
theorem sameset_spec (h : Heap) (a c : Option Addr) (ca cb : Nat) (xs ys : List Int) (ho : IL h a ca xs) (hp : IL h c cb ys) (hl : xs.length ≤ 100000) (hlen : xs.length = ys.length) (hm : ∀ x ∈ xs, x ∈ ys) (hg : ∀ x ∈ xs, gd x) (hc : Con (· ∈ ys)) :
    FC Tryz.prog 88 (#[.slice a xs.length ca, .slice c ys.length cb] : Array Value) h fun rv h' => rv = .bool true ∧ h = h' := by
  refine FC_of [(0, .slice a xs.length ca), (1, .slice c ys.length cb)] Tryz.func88 rfl Tryz.ntmps88 (by simp) rfl (fun R hR => ?_)
  refine V_sr T.mix (by kernel_rfl) (fun K1 hK1 => ?_)
  refine S_as rfl ?_
  refine S_nil (hK1 _ _ (V_keep [0, 1] (by simp only [proj, lk, reduceIte, Nat.reduceEqDiff]; rfl) ?_)); clear hK1
  refine V_seq (fun K2 hK2 => ?_)
  refine V_sr T.mix (by kernel_rfl) (fun K3 hK3 => ?_)
  refine S_mv rfl ?_
  refine S_lenl T.el33 rfl ?_
  refine S_mv rfl ?_
  refine S_lenl T.el33 rfl ?_
  refine S_bin rfl rfl rfl ?_
  refine S_nil (hK3 _ _ (V_keep [0, 1, 10] (by simp only [proj, lk, reduceIte, Nat.reduceEqDiff]; rfl) ?_)); clear hK3
  refine V_condp rfl (fun c319 => ?_) (fun c319 => ?_)
  · skip
    exfalso; omega
  · skip
    refine V_skipk [0, 1] (by simp only [proj, lk, reduceIte, Nat.reduceEqDiff]; rfl) ?_
    refine hK2 _ _ ?_; clear hK2
    refine V_seq (fun K4 hK4 => ?_)
    refine V_sr T.mix (by kernel_rfl) (fun K5 hK5 => ?_)
    refine S_as rfl ?_
    refine S_nil (hK5 _ _ (V_keep [0, 1, 5] (by simp only [proj, lk, reduceIte, Nat.reduceEqDiff]; rfl) ?_)); clear hK5
    refine V_block ?_
    refine V_loop (fun m l h' => ∃ (i : Nat), (i ≤ xs.length) ∧ m = xs.length - i ∧ l = [(0, .slice a xs.length ca), (1, .slice c ys.length cb), (5, .int .i64 (i : Int))] ∧ h = h') _ ⟨0, by omega, rfl, rfl, rfl⟩ ?_
    rintro m l h' ⟨i, hi, rfl, rfl, rfl⟩ K6 hK6
    refine V_seq (fun K7 hK7 => ?_)
    refine V_sr T.mix (by kernel_rfl) (fun K8 hK8 => ?_)
    refine S_mv rfl ?_
    refine S_mv rfl ?_
    refine S_lenl T.el33 rfl ?_
    refine S_bin rfl rfl rfl ?_
    refine S_nil (hK8 _ _ (V_keep [0, 1, 5, 14] (by simp only [proj, lk, reduceIte, Nat.reduceEqDiff]; rfl) ?_)); clear hK8
    refine V_condp rfl (fun c322 => ?_) (fun c322 => ?_)
    · skip
      obtain ⟨bb, rfl, _, _, _⟩ := ho.get (by omega)
      refine V_skipk [0, 1, 5] (by simp only [proj, lk, reduceIte, Nat.reduceEqDiff]; rfl) ?_
      refine hK7 _ _ ?_; clear hK7
      refine V_seq (fun K9 hK9 => ?_)
      refine V_block ?_
      refine V_sr T.mix (by kernel_rfl) (fun K10 hK10 => ?_)
      refine S_mv rfl ?_
      refine S_mv rfl ?_
      first | refine S_ixn T.el33 rfl rfl (by omega) ?_ | refine S_ix1 T.el33 rfl rfl (by omega) (by omega) ?_ | refine S_ix T.el33 rfl rfl (by omega) (by omega) ?_
      refine S_ldK T.ag3 rfl (fun K' hK' => ?_)
      simp (disch := omega) only [ho.at, oP_some, Nat.add_zero]
      refine hK' _ ?_; clear hK' K'
      refine S_mv rfl ?_
      refine S_call T.hb108 rfl ?_
      have hgd := hg _ (mem_at (show i < xs.length by omega))
      unfold gd at hgd
      refine FC.mono (val_spec h (xs.getD i 0) (by omega) c cb ys hp (by omega)) ?_
      rintro v' h' ⟨v, rfl, hv, rfl⟩
      refine S_bin rfl rfl rfl ?_
      refine S_nil (hK10 _ _ (V_keep [0, 1, 5, 23] (by simp only [proj, lk, reduceIte, Nat.reduceEqDiff]; rfl) ?_)); clear hK10
      refine V_condp rfl (fun c323 => ?_) (fun c323 => ?_)
      · skip
        have hmi := hm _ (mem_at (show i < xs.length by omega))
        exfalso; rcases hv with q | q | q; (exact c323 q.1); (exact hc _ hmi q.2); (exact q.2.1 hmi)
      · skip
        refine V_skipk [0, 1, 5] (by simp only [proj, lk, reduceIte, Nat.reduceEqDiff]; rfl) ?_
        refine hK9 _ _ ?_; clear hK9
        refine V_reg T.mix (by kernel_rfl) ?_
        refine S_mv rfl ?_
        first | refine S_add rfl rfl (by omega) (by omega) ?_ | refine S_bin rfl rfl rfl ?_
        refine S_as rfl ?_
        refine S_nilk [0, 1, 5] (by simp only [proj, lk, reduceIte, Nat.reduceEqDiff]; rfl) ?_
        exact hK6 _ _ ⟨_, by omega, i + 1, by omega, rfl, rfl, rfl⟩
    · skip
      refine V_exitk [] rfl (by simp only [proj, lk, reduceIte, Nat.reduceEqDiff]; rfl) ?_
      refine hK4 _ _ ?_; clear hK4
      refine V_sr T.mix (by kernel_rfl) (fun K11 hK11 => ?_)
      refine S_as rfl ?_
      refine S_nil (hK11 _ _ (V_keep [4] (by simp only [proj, lk, reduceIte, Nat.reduceEqDiff]; rfl) ?_)); clear hK11
      refine V_ret ?_
      refine hR _ _ (ret1 rfl rfl ?_)
      exact ⟨rfl, rfl⟩
set_option maxHeartbeats 400000 in
theorem is_spec (h : Heap) (A : UA) (u : US) (hD : B h A.U (ucs A u) 48) (mm : MC) (cl : Nat → Option (List Int)) (G F : Nat → Prop) (s : TS) (mv : MV h A.M A.Y mm cl G F s) (id : Nat) (hid : id < 52) (cc : List Int) (hcl : cl id = some cc) (oa : Option Addr) (oc : Nat) (on : List Int) (ho : IL h oa oc on) (hlo : on.length ≤ 1000) (hcon : Con (· ∈ on)) (s0 l0 : Int) (hst0 : ∀ a b, StR cc on a b → a = s0 ∧ b = l0) :
    FC Tryz.prog 83 (#[.pointer (some ⟨A.U, 0, none⟩), .int .i64 (id : Int), .slice oa on.length oc, .int .i64 s0, .int .i64 l0] : Array Value) h fun rv h' => rv = .bool true ∧ Ext (fun _ => False) h h' := by
  try clear u0 u1 u2 u3 u4 u5 u6 u7 huok
  obtain ⟨u0, u1, u2, u3, u4, u5, u6, u7, huok⟩ := uq (hD)
  have hnr := (mv.r.c id hid cc hcl).1
  have hlv : liveC cl (id : Int) = some cc := by rw [liveC_nat hid, hcl]
  have hcF : clF cl (id : Int) = cc := by unfold clF; rw [hlv]; rfl
  have hcE : clE cl (id : Int) = 0 := by unfold clE; rw [hlv]
  refine FC_of [(0, .pointer (some ⟨A.U, 0, none⟩)), (1, .int .i64 (id : Int)), (2, .slice oa on.length oc), (3, .int .i64 s0), (4, .int .i64 l0)] Tryz.func83 rfl Tryz.ntmps83 (by simp) rfl (fun R hR => ?_)
  refine V_sr T.mix (by kernel_rfl) (fun K1 hK1 => ?_)
  refine S_as rfl ?_
  refine S_nil (hK1 _ _ (V_keep [0, 1, 2, 3, 4] (by simp only [proj, lk, reduceIte, Nat.reduceEqDiff]; rfl) ?_)); clear hK1
  refine V_sr T.mix (by kernel_rfl) (fun K2 hK2 => ?_)
  refine S_mv rfl ?_
  refine S_nc rfl ?_
  first | refine S_fa0 T.f48_2 rfl ?_ | refine S_fa T.f48_2 rfl ?_
  first | refine S_fa0 T.f46_1 rfl ?_ | refine S_fa T.f46_1 rfl ?_
  refine S_ldK T.ag44 rfl (fun K' hK' => ?_)
  simp (disch := omega) only [u0, u1, u2, u3, u4, u5, u6, u7, oP_some, Nat.add_zero]
  refine hK' _ ?_; clear hK' K'
  refine S_mv rfl ?_
  refine S_call T.hb59 rfl ?_
  refine FC.mono (mwclause_spec h A.M A.Y mm cl G F s mv (id : Int)) ?_
  rintro v' h1 ⟨ac, rfl, hIc, _, _, hE1⟩
  rw [hcF] at hIc ⊢
  rw [hcE]
  refine S_mv rfl ?_
  refine S_ex rfl rfl ?_
  refine S_ex rfl rfl ?_
  refine S_as rfl ?_
  refine S_as rfl ?_
  refine S_nil (hK2 _ _ (V_keep [2, 3, 4, 11, 12] (by simp only [proj, lk, reduceIte, Nat.reduceEqDiff]; rfl) ?_)); clear hK2
  refine V_seq (fun K3 hK3 => ?_)
  refine V_sr T.mix (by kernel_rfl) (fun K4 hK4 => ?_)
  refine S_mv rfl ?_
  refine S_bin rfl rfl rfl ?_
  refine S_nil (hK4 _ _ (V_keep [2, 3, 4, 11, 26] (by simp only [proj, lk, reduceIte, Nat.reduceEqDiff]; rfl) ?_)); clear hK4
  refine V_condp rfl (fun c333 => ?_) (fun c333 => ?_)
  · skip
    exfalso; exact c333 rfl
  · skip
    refine V_skipk [2, 3, 4, 11] (by simp only [proj, lk, reduceIte, Nat.reduceEqDiff]; rfl) ?_
    refine hK3 _ _ ?_; clear hK3
    refine V_sr T.mix (by kernel_rfl) (fun K5 hK5 => ?_)
    refine S_mv rfl ?_
    refine S_mv rfl ?_
    refine S_call T.hb104 rfl ?_
    refine FC.mono (state_spec h1 ac cc.length cc hIc hnr oa oc on (ho.ext hE1 (fun _ _ f => f)) (by omega) hcon) ?_
    rintro v' h' ⟨sv, uv, rfl, hst, rfl⟩
    obtain ⟨e1, e2⟩ := hst0 sv uv hst
    refine S_mv rfl ?_
    refine S_ex rfl rfl ?_
    refine S_ex rfl rfl ?_
    refine S_as rfl ?_
    refine S_as rfl ?_
    refine S_nil (hK5 _ _ (V_keep [3, 4, 13, 14] (by simp only [proj, lk, reduceIte, Nat.reduceEqDiff]; rfl) ?_)); clear hK5
    refine V_sr T.mix (by kernel_rfl) (fun K6 hK6 => ?_)
    refine S_mv rfl ?_
    refine S_mv rfl ?_
    refine S_bin rfl rfl rfl ?_
    refine S_mv rfl ?_
    refine S_dec (fun g337 => ?_) (fun g337 => ?_)
    · skip
      refine S_gt rfl ?_
      refine S_mv rfl ?_
      refine S_gt rfl ?_
      refine S_mv rfl ?_
      refine S_gt rfl ?_
      refine S_bin rfl rfl rfl ?_
      refine S_pt rfl rfl ?_
      refine S_as rfl ?_
      refine S_nil (hK6 _ _ (V_keep [10] (by simp only [proj, lk, reduceIte, Nat.reduceEqDiff]; rfl) ?_)); clear hK6
      refine V_ret ?_
      refine hR _ _ (ret1 rfl rfl ?_)
      exact ⟨by rw [decide_eq_true e2], hE1⟩
    · skip
      refine S_gf rfl ?_
      refine S_gf rfl ?_
      refine S_gf rfl ?_
      refine S_pf rfl rfl ?_
      refine S_as rfl ?_
      refine S_nil (hK6 _ _ (V_keep [10] (by simp only [proj, lk, reduceIte, Nat.reduceEqDiff]; rfl) ?_)); clear hK6
      refine V_ret ?_
      refine hR _ _ (ret1 rfl rfl ?_)
      exact absurd e1 g337
set_option maxHeartbeats 1600000 in
theorem keptadd_spec (h : Heap) (A : UA) (u : US) (hD : B h A.U (ucs A u) 48) (cl0 : Nat → Option (List Int)) (xs : List Int) (le : Bool) (mm : MC) (G F : Nat → Prop) (s : TS) (mv : MV h A.M A.Y mm (addS cl0 xs le) G F s) (ba : Option Addr) (hIb : IL h ba (idsF cl0 52).length (idsF cl0 52)) (ca : Option Addr) (hIc : IL h ca xs.length xs) (hxl : xs.length ≤ 1000) :
    FC Tryz.prog 76 (#[.pointer (some ⟨A.U, 0, none⟩), .slice ba (idsF cl0 52).length (idsF cl0 52).length, .slice ca xs.length xs.length, .bool (decide (le = true)), .int .i64 ((addV cl0 xs le).1 : Int), .int .i64 ((addV cl0 xs le).2 : Int)] : Array Value) h fun rv h' => rv = .bool true ∧ Ext (fun _ => False) h h' := by
  try clear u0 u1 u2 u3 u4 u5 u6 u7 huok
  obtain ⟨u0, u1, u2, u3, u4, u5, u6, u7, huok⟩ := uq (hD)
  have hil := idsF_len cl0 52
  have hac := add_cases cl0 xs le
  refine FC_of [(0, .pointer (some ⟨A.U, 0, none⟩)), (1, .slice ba (idsF cl0 52).length (idsF cl0 52).length), (2, .slice ca xs.length xs.length), (3, .bool (decide (le = true))), (4, .int .i64 ((addV cl0 xs le).1 : Int)), (5, .int .i64 ((addV cl0 xs le).2 : Int))] Tryz.func76 rfl Tryz.ntmps76 (by simp) rfl (fun R hR => ?_)
  refine V_sr T.mix (by kernel_rfl) (fun K1 hK1 => ?_)
  refine S_as rfl ?_
  refine S_nil (hK1 _ _ (V_keep [0, 1, 2, 3, 4, 5] (by simp only [proj, lk, reduceIte, Nat.reduceEqDiff]; rfl) ?_)); clear hK1
  refine V_sr T.mix (by kernel_rfl) (fun K2 hK2 => ?_)
  refine S_mv rfl ?_
  refine S_call T.hb60 rfl ?_
  refine FC.mono (checkclause_spec h ca xs.length xs hIc (by omega)) ?_
  rintro v' h' ⟨rfl, rfl⟩
  refine S_as rfl ?_
  refine S_nil (hK2 _ _ (V_keep [0, 1, 2, 3, 4, 5, 13] (by simp only [proj, lk, reduceIte, Nat.reduceEqDiff]; rfl) ?_)); clear hK2
  refine V_seq (fun K3 hK3 => ?_)
  refine V_sr T.mix (by kernel_rfl) (fun K4 hK4 => ?_)
  refine S_mv rfl ?_
  refine S_bin rfl rfl rfl ?_
  refine S_nil (hK4 _ _ (V_keep [0, 1, 2, 3, 4, 5, 13, 24] (by simp only [proj, lk, reduceIte, Nat.reduceEqDiff]; rfl) ?_)); clear hK4
  refine V_condp rfl (fun c137 => ?_) (fun c137 => ?_)
  · skip
    refine V_sr T.mix (by kernel_rfl) (fun K5 hK5 => ?_)
    refine S_mv rfl ?_
    refine S_mv rfl ?_
    refine S_bin rfl rfl rfl ?_
    refine S_as rfl ?_
    refine S_nil (hK5 _ _ (V_keep [12] (by simp only [proj, lk, reduceIte, Nat.reduceEqDiff]; rfl) ?_)); clear hK5
    refine V_ret ?_
    refine hR _ _ (ret1 rfl rfl ?_)
    rcases hac with q | q | ⟨k, q, _⟩
    · exact ⟨by rw [q.2.1]; simp, Ext.refl _ _⟩
    · exact absurd q.1 (by omega)
    · exact absurd q (by omega)
  · skip
    have hz : ccE xs = 0 := by omega
    refine V_skipk [0, 1, 2, 3, 4, 5] (by simp only [proj, lk, reduceIte, Nat.reduceEqDiff]; rfl) ?_
    refine hK3 _ _ ?_; clear hK3
    refine V_sr T.mix (by kernel_rfl) (fun K6 hK6 => ?_)
    refine S_as rfl ?_
    refine S_nil (hK6 _ _ (V_keep [0, 1, 2, 3, 4, 5, 14] (by simp only [proj, lk, reduceIte, Nat.reduceEqDiff]; rfl) ?_)); clear hK6
    refine V_sr T.mix (by kernel_rfl) (fun K7 hK7 => ?_)
    refine S_as rfl ?_
    refine S_nil (hK7 _ _ (V_keep [0, 1, 2, 3, 4, 5, 14, 15] (by simp only [proj, lk, reduceIte, Nat.reduceEqDiff]; rfl) ?_)); clear hK7
    refine V_seqJ (fun l h' => ∃ (lo hi_ : Nat), (lo = loI le) ∧ (hi_ = lo + nI le) ∧ (lo ≤ hi_ ∧ hi_ ≤ 52) ∧ l = [(0, .pointer (some ⟨A.U, 0, none⟩)), (1, .slice ba (idsF cl0 52).length (idsF cl0 52).length), (2, .slice ca xs.length xs.length), (4, .int .i64 ((addV cl0 xs le).1 : Int)), (5, .int .i64 ((addV cl0 xs le).2 : Int)), (14, .int .i64 (lo : Int)), (15, .int .i64 (hi_ : Int))] ∧ h = h') ?_ ?_
    · skip
      refine V_sr T.mix (by kernel_rfl) (fun K9 hK9 => ?_)
      refine S_mv rfl ?_
      refine S_nil (hK9 _ _ (V_keep [0, 1, 2, 4, 5, 14, 15, 28] (by simp only [proj, lk, reduceIte, Nat.reduceEqDiff]; rfl) ?_)); clear hK9
      refine V_condp rfl (fun c142 => ?_) (fun c142 => ?_)
      · skip
        refine V_sr T.mix (by kernel_rfl) (fun K10 hK10 => ?_)
        refine S_as rfl ?_
        refine S_nil (hK10 _ _ (V_keep [0, 1, 2, 4, 5, 14] (by simp only [proj, lk, reduceIte, Nat.reduceEqDiff]; rfl) ?_)); clear hK10
        refine V_reg T.mix (by kernel_rfl) ?_
        refine S_as rfl ?_
        refine S_nilk [0, 1, 2, 4, 5, 14, 15] (by simp only [proj, lk, reduceIte, Nat.reduceEqDiff]; rfl) ?_
        exact ⟨40, 52, by rw [show le = true from c142]; rfl, by rw [show le = true from c142]; rfl, by omega, rfl, rfl⟩
      · skip
        refine V_skipk [0, 1, 2, 4, 5, 14, 15] (by simp only [proj, lk, reduceIte, Nat.reduceEqDiff]; rfl) ?_
        exact ⟨0, 40, by rw [show le = false by simpa using c142]; rfl, by rw [show le = false by simpa using c142]; rfl, by omega, rfl, rfl⟩
    rintro l h' ⟨lo, hi_, hlo, hhi, hbb, rfl, rfl⟩
    refine V_sr T.mix (by kernel_rfl) (fun K11 hK11 => ?_)
    refine S_as rfl ?_
    refine S_nil (hK11 _ _ (V_keep [0, 1, 2, 4, 5, 14, 15, 16] (by simp only [proj, lk, reduceIte, Nat.reduceEqDiff]; rfl) ?_)); clear hK11
    refine V_seq (fun K12 hK12 => ?_)
    refine V_sr T.mix (by kernel_rfl) (fun K13 hK13 => ?_)
    refine S_mv rfl ?_
    first | refine S_sub rfl rfl (by omega) (by omega) ?_ | refine S_bin rfl rfl rfl ?_
    refine S_as rfl ?_
    refine S_nil (hK13 _ _ (V_keep [0, 1, 2, 4, 5, 14, 16, 17] (by simp only [proj, lk, reduceIte, Nat.reduceEqDiff]; rfl) ?_)); clear hK13
    refine V_block ?_
    refine V_loop (fun m l h' => ∃ (kk : Nat) (fv : Int), (lo ≤ kk) ∧ (kk ≤ hi_) ∧ (fv = frV (frI cl0 kk (hi_ - kk))) ∧ m = kk - lo ∧ l = [(0, .pointer (some ⟨A.U, 0, none⟩)), (1, .slice ba (idsF cl0 52).length (idsF cl0 52).length), (2, .slice ca xs.length xs.length), (4, .int .i64 ((addV cl0 xs le).1 : Int)), (5, .int .i64 ((addV cl0 xs le).2 : Int)), (14, .int .i64 (lo : Int)), (16, .int .i64 fv), (17, .int .i64 ((kk : Int) - 1))] ∧ h = h') _ ⟨hi_, -1, by omega, by omega, by rw [Nat.sub_self]; rfl, rfl, rfl, rfl⟩ ?_
    rintro m l h' ⟨kk, fv, hk1, hk2, hfv, rfl, rfl, rfl⟩ K14 hK14
    refine V_seq (fun K15 hK15 => ?_)
    refine V_sr T.mix (by kernel_rfl) (fun K16 hK16 => ?_)
    refine S_mv rfl ?_
    refine S_mv rfl ?_
    refine S_bin rfl rfl rfl ?_
    refine S_nil (hK16 _ _ (V_keep [0, 1, 2, 4, 5, 14, 16, 17, 33] (by simp only [proj, lk, reduceIte, Nat.reduceEqDiff]; rfl) ?_)); clear hK16
    refine V_condp rfl (fun c147 => ?_) (fun c147 => ?_)
    · skip
      refine V_skipk [0, 1, 2, 4, 5, 14, 16, 17] (by simp only [proj, lk, reduceIte, Nat.reduceEqDiff]; rfl) ?_
      refine hK15 _ _ ?_; clear hK15
      refine V_seq (fun K17 hK17 => ?_)
      refine V_block ?_
      refine V_sr T.mix (by kernel_rfl) (fun K18 hK18 => ?_)
      refine S_mv rfl ?_
      refine S_mv rfl ?_
      refine S_call T.hb95 rfl ?_
      refine FC.mono (in_spec h ba _ (idsF cl0 52) hIb (by omega) ((kk : Int) - 1)) ?_
      rintro v' h' ⟨rfl, rfl⟩
      refine S_notb rfl ?_
      refine S_nil (hK18 _ _ (V_keep [0, 1, 2, 4, 5, 14, 16, 17, 39] (by simp only [proj, lk, reduceIte, Nat.reduceEqDiff]; rfl) ?_)); clear hK18
      refine V_condb rfl (fun c148 => ?_) (fun c148 => ?_)
      · skip
        have hnl : ¬ (cl0 (kk - 1)).isSome = true := fun e => by have h9 := (mem_ids (cl := cl0) (k := kk - 1) (by omega)).2 e; rw [show (((kk - 1 : Nat) : Int)) = (kk : Int) - 1 by omega] at h9; simp [h9] at c148
        refine V_reg T.mix (by kernel_rfl) ?_
        refine S_mv rfl ?_
        refine S_as rfl ?_
        refine S_nilk [0, 1, 2, 4, 5, 14, 16, 17] (by simp only [proj, lk, reduceIte, Nat.reduceEqDiff]; rfl) ?_
        refine hK17 _ _ ?_; clear hK17
        refine V_reg T.mix (by kernel_rfl) ?_
        refine S_mv rfl ?_
        first | refine S_sub rfl rfl (by omega) (by omega) ?_ | refine S_bin rfl rfl rfl ?_
        refine S_as rfl ?_
        refine S_nilk [0, 1, 2, 4, 5, 14, 16, 17] (by simp only [proj, lk, reduceIte, Nat.reduceEqDiff]; rfl) ?_
        exact hK14 _ _ ⟨_, by omega, kk - 1, (kk : Int) - 1, by omega, by omega, (by rw [show hi_ - (kk - 1) = (hi_ - kk) + 1 by omega, frI_step, if_neg hnl]; simp only [frV]; omega), rfl, by rw [show (((kk - 1 : Nat) : Int)) = (kk : Int) - 1 by omega], rfl⟩
      · skip
        have hnl : (cl0 (kk - 1)).isSome = true := by
          have h9 : ((kk : Int) - 1) ∈ idsF cl0 52 := by simpa using c148
          rw [show (kk : Int) - 1 = ((kk - 1 : Nat) : Int) by omega] at h9
          exact (mem_ids (by omega)).1 h9
        refine V_skipk [0, 1, 2, 4, 5, 14, 16, 17] (by simp only [proj, lk, reduceIte, Nat.reduceEqDiff]; rfl) ?_
        refine hK17 _ _ ?_; clear hK17
        refine V_reg T.mix (by kernel_rfl) ?_
        refine S_mv rfl ?_
        first | refine S_sub rfl rfl (by omega) (by omega) ?_ | refine S_bin rfl rfl rfl ?_
        refine S_as rfl ?_
        refine S_nilk [0, 1, 2, 4, 5, 14, 16, 17] (by simp only [proj, lk, reduceIte, Nat.reduceEqDiff]; rfl) ?_
        exact hK14 _ _ ⟨_, by omega, kk - 1, fv, by omega, by omega, (by rw [hfv, show hi_ - (kk - 1) = (hi_ - kk) + 1 by omega, frI_step, if_pos hnl, show kk - 1 + 1 = kk by omega]), rfl, by rw [show (((kk - 1 : Nat) : Int)) = (kk : Int) - 1 by omega], rfl⟩
    · skip
      have hke : kk = lo := by omega
      rw [hke, hhi, Nat.add_sub_cancel_left, hlo] at hfv
      refine V_exitk [0, 1, 2, 4, 5, 16] rfl (by simp only [proj, lk, reduceIte, Nat.reduceEqDiff]; rfl) ?_
      refine hK12 _ _ ?_; clear hK12
      refine V_seq (fun K19 hK19 => ?_)
      refine V_sr T.mix (by kernel_rfl) (fun K20 hK20 => ?_)
      refine S_mv rfl ?_
      refine S_bin rfl rfl rfl ?_
      refine S_nil (hK20 _ _ (V_keep [0, 1, 2, 4, 5, 16, 42] (by simp only [proj, lk, reduceIte, Nat.reduceEqDiff]; rfl) ?_)); clear hK20
      refine V_condp rfl (fun c152 => ?_) (fun c152 => ?_)
      · skip
        refine V_sr T.mix (by kernel_rfl) (fun K21 hK21 => ?_)
        refine S_mv rfl ?_
        refine S_bin rfl rfl rfl ?_
        refine S_as rfl ?_
        refine S_nil (hK21 _ _ (V_keep [12] (by simp only [proj, lk, reduceIte, Nat.reduceEqDiff]; rfl) ?_)); clear hK21
        refine V_ret ?_
        refine hR _ _ (ret1 rfl rfl ?_)
        rcases hac with q | q | ⟨k, q1, q2, _⟩
        · exact absurd hz q.1
        · exact ⟨by rw [q.2.2.1]; simp, Ext.refl _ _⟩
        · rw [q2] at hfv; simp only [frV] at hfv; omega
      · skip
        obtain ⟨k, _, hfr, k3, k4, k5, k6⟩ : ∃ k, ccE xs = 0 ∧ frI cl0 (loI le) (nI le) = some k ∧ k < 52 ∧ cl0 k = none ∧ addV cl0 xs le = (k, 0) ∧ addS cl0 xs le = upO cl0 k (some xs) := by
          rcases hac with q | q | q
          · exact absurd hz q.1
          · rw [q.2.1] at hfv; simp only [frV] at hfv; omega
          · exact q
        refine V_skipk [0, 1, 2, 4, 5, 16] (by simp only [proj, lk, reduceIte, Nat.reduceEqDiff]; rfl) ?_
        refine hK19 _ _ ?_; clear hK19
        refine V_seq (fun K22 hK22 => ?_)
        refine V_sr T.mix (by kernel_rfl) (fun K23 hK23 => ?_)
        refine S_mv rfl ?_
        refine S_bin rfl rfl rfl ?_
        refine S_mv rfl ?_
        refine S_dec (fun g155 => ?_) (fun g155 => ?_)
        · skip
          exfalso; rw [k5] at g155; exact g155 rfl
        · skip
          refine S_gt rfl ?_
          refine S_mv rfl ?_
          refine S_gt rfl ?_
          refine S_mv rfl ?_
          refine S_gt rfl ?_
          refine S_bin rfl rfl rfl ?_
          refine S_pf rfl rfl ?_
          refine S_nil (hK23 _ _ (V_keep [0, 1, 2, 4, 51] (by simp only [proj, lk, reduceIte, Nat.reduceEqDiff]; rfl) ?_)); clear hK23
          refine V_condp rfl (fun c155 => ?_) (fun c155 => ?_)
          · skip
            exfalso; rw [k5] at c155; exact c155 (by rw [hfv, hfr]; rfl)
          · skip
            refine V_skipk [0, 1, 2, 4] (by simp only [proj, lk, reduceIte, Nat.reduceEqDiff]; rfl) ?_
            refine hK22 _ _ ?_; clear hK22
            refine V_sr T.mix (by kernel_rfl) (fun K24 hK24 => ?_)
            refine S_mv rfl ?_
            refine S_nc rfl ?_
            first | refine S_fa0 T.f48_2 rfl ?_ | refine S_fa T.f48_2 rfl ?_
            first | refine S_fa0 T.f46_1 rfl ?_ | refine S_fa T.f46_1 rfl ?_
            refine S_ldK T.ag44 rfl (fun K' hK' => ?_)
            simp (disch := omega) only [u0, u1, u2, u3, u4, u5, u6, u7, oP_some, Nat.add_zero]
            refine hK' _ ?_; clear hK' K'
            refine S_mv rfl ?_
            refine S_call T.hb59 rfl ?_
            refine FC.mono (mwclause_spec h A.M A.Y mm _ G F s mv ((addV cl0 xs le).1 : Int)) ?_
            rintro v' h1 ⟨da, rfl, hId, _, _, hE1⟩
            try clear u0 u1 u2 u3 u4 u5 u6 u7 huok
            obtain ⟨u0, u1, u2, u3, u4, u5, u6, u7, huok⟩ := uq (hD.ext hE1 (fun f => f))
            have hlv : liveC (addS cl0 xs le) ((addV cl0 xs le).1 : Int) = some xs := by rw [k5, k6]; rw [liveC_nat k3, upO_self]
            have hcF : clF (addS cl0 xs le) ((addV cl0 xs le).1 : Int) = xs := by unfold clF; rw [hlv]; rfl
            have hcE : clE (addS cl0 xs le) ((addV cl0 xs le).1 : Int) = 0 := by unfold clE; rw [hlv]
            rw [hcF] at hId ⊢
            rw [hcE]
            refine S_mv rfl ?_
            refine S_ex rfl rfl ?_
            refine S_ex rfl rfl ?_
            refine S_as rfl ?_
            refine S_as rfl ?_
            refine S_nil (hK24 _ _ (V_keep [0, 1, 2, 18, 19] (by simp only [proj, lk, reduceIte, Nat.reduceEqDiff]; rfl) ?_)); clear hK24
            refine V_seq (fun K25 hK25 => ?_)
            refine V_sr T.mix (by kernel_rfl) (fun K26 hK26 => ?_)
            refine S_mv rfl ?_
            refine S_bin rfl rfl rfl ?_
            refine S_nil (hK26 _ _ (V_keep [0, 1, 2, 18, 63] (by simp only [proj, lk, reduceIte, Nat.reduceEqDiff]; rfl) ?_)); clear hK26
            refine V_condp rfl (fun c159 => ?_) (fun c159 => ?_)
            · skip
              exfalso; exact c159 rfl
            · skip
              refine V_skipk [0, 1, 2, 18] (by simp only [proj, lk, reduceIte, Nat.reduceEqDiff]; rfl) ?_
              refine hK25 _ _ ?_; clear hK25
              refine V_seq (fun K27 hK27 => ?_)
              refine V_sr T.mix (by kernel_rfl) (fun K28 hK28 => ?_)
              refine S_mv rfl ?_
              refine S_mv rfl ?_
              refine S_call T.hb20 rfl ?_
              refine FC.mono (sameints_spec h1 da ca _ _ xs xs hId (hIc.ext hE1 (fun _ _ f => f)) (by omega) (by omega)) ?_
              rintro v' h' ⟨rfl, rfl⟩
              refine S_notb rfl ?_
              refine S_nil (hK28 _ _ (V_keep [0, 1, 67] (by simp only [proj, lk, reduceIte, Nat.reduceEqDiff]; rfl) ?_)); clear hK28
              refine V_condb rfl (fun c162 => ?_) (fun c162 => ?_)
              · skip
                exfalso; simp at c162
              · skip
                refine V_skipk [0, 1] (by simp only [proj, lk, reduceIte, Nat.reduceEqDiff]; rfl) ?_
                refine hK27 _ _ ?_; clear hK27
                refine V_sr T.mix (by kernel_rfl) (fun K29 hK29 => ?_)
                refine S_mv rfl ?_
                refine S_nc rfl ?_
                first | refine S_fa0 T.f48_2 rfl ?_ | refine S_fa T.f48_2 rfl ?_
                first | refine S_fa0 T.f46_1 rfl ?_ | refine S_fa T.f46_1 rfl ?_
                refine S_ldK T.ag44 rfl (fun K' hK' => ?_)
                simp (disch := omega) only [u0, u1, u2, u3, u4, u5, u6, u7, oP_some, Nat.add_zero]
                refine hK' _ ?_; clear hK' K'
                refine S_call T.hb58 rfl ?_
                refine FC.mono (mwids_spec h1 A.M A.Y mm _ G F s (mv.ext hE1 (fun f => f) (fun _ _ f => f) (fun _ _ f => f))) ?_
                rintro v' h2 ⟨na, rfl, hIn, _, _, hE2⟩
                have hil2 := idsF_len (addS cl0 xs le) 52
                have hup := idsF_up (c := xs) k4 52
                rw [if_pos k3, ← k6] at hup
                refine S_as rfl ?_
                refine S_nil (hK29 _ _ (V_keep [1, 20] (by simp only [proj, lk, reduceIte, Nat.reduceEqDiff]; rfl) ?_)); clear hK29
                refine V_sr T.mix (by kernel_rfl) (fun K30 hK30 => ?_)
                refine S_mv rfl ?_
                refine S_lenl T.el33 rfl ?_
                refine S_mv rfl ?_
                refine S_lenl T.el33 rfl ?_
                first | refine S_add rfl rfl (by omega) (by omega) ?_ | refine S_bin rfl rfl rfl ?_
                refine S_bin rfl rfl rfl ?_
                refine S_as rfl ?_
                refine S_nil (hK30 _ _ (V_keep [12] (by simp only [proj, lk, reduceIte, Nat.reduceEqDiff]; rfl) ?_)); clear hK30
                refine V_ret ?_
                refine hR _ _ (ret1 rfl rfl ?_)
                exact ⟨by rw [decide_eq_true (by omega)], hE1.trans hE2⟩
set_option maxHeartbeats 3200000 in
theorem sameadd_spec (h : Heap) (tg : Nat → Nat) (A : UA) (u : US) (nb : Nat) (w : UI h tg A u nb) (le : Bool) :
    FC Tryz.prog 29 (#[.pointer (some ⟨A.U, 0, none⟩), .bool (decide (le = true))] : Array Value) h fun rv h' => rv = .bool true ∧ ∃ (tg' : Nat → Nat) (u' : US), UI h' tg' A u' nb ∧ (u'.cl = addS u.cl u.rg le ∧ u'.s = u.s) ∧ KP tg tg' h h' := by
  try clear u0 u1 u2 u3 u4 u5 u6 u7 huok
  obtain ⟨u0, u1, u2, u3, u4, u5, u6, u7, huok⟩ := uq (w.dd)
  have hrl := w.rl
  have hhb := w.hb
  have hlt := w.lt1
  refine FC_of [(0, .pointer (some ⟨A.U, 0, none⟩)), (1, .bool (decide (le = true)))] Tryz.func29 rfl Tryz.ntmps29 (by simp) rfl (fun R hR => ?_)
  refine V_sr T.mix (by kernel_rfl) (fun K1 hK1 => ?_)
  refine S_as rfl ?_
  refine S_nil (hK1 _ _ (V_keep [0, 1] (by simp only [proj, lk, reduceIte, Nat.reduceEqDiff]; rfl) ?_)); clear hK1
  refine V_sr T.mix (by kernel_rfl) (fun K2 hK2 => ?_)
  refine S_mv rfl ?_
  refine S_nc rfl ?_
  first | refine S_fa0 T.f48_3 rfl ?_ | refine S_fa T.f48_3 rfl ?_
  refine S_ldK T.ag33 rfl (fun K' hK' => ?_)
  simp (disch := omega) only [u0, u1, u2, u3, u4, u5, u6, u7, oP_some, Nat.add_zero]
  refine hK' _ ?_; clear hK' K'
  refine S_call T.hb16 rfl ?_
  refine FC.mono (copyints_spec h u.ra u.rc u.rg w.rg (by omega)) ?_
  rintro v' h1 ⟨xa, rfl, hIx, hE1, _, hbx⟩
  have w1 := w.new hE1
  have hl1 := hE1.1
  have hxl1 : ∀ b, blkA xa = some b → b < h1.size := fun b e => hIx.lt e
  try clear u0 u1 u2 u3 u4 u5 u6 u7 huok
  obtain ⟨u0, u1, u2, u3, u4, u5, u6, u7, huok⟩ := uq (w1.dd)
  refine S_as rfl ?_
  refine S_nil (hK2 _ _ (V_keep [0, 1, 5] (by simp only [proj, lk, reduceIte, Nat.reduceEqDiff]; rfl) ?_)); clear hK2
  refine V_sr T.mix (by kernel_rfl) (fun K3 hK3 => ?_)
  refine S_mv rfl ?_
  refine S_nc rfl ?_
  first | refine S_fa0 T.f48_3 rfl ?_ | refine S_fa T.f48_3 rfl ?_
  refine S_ldK T.ag33 rfl (fun K' hK' => ?_)
  simp (disch := omega) only [u0, u1, u2, u3, u4, u5, u6, u7, oP_some, Nat.add_zero]
  refine hK' _ ?_; clear hK' K'
  refine S_call T.hb16 rfl ?_
  refine FC.mono (copyints_spec h1 u.ra u.rc u.rg w1.rg (by omega)) ?_
  rintro v' h2 ⟨ya, rfl, hIy, hE2, _, hby⟩
  have w2 := w1.new hE2
  have hl2 := hE2.1
  replace hIx := hIx.ext hE2 (fun _ _ f => f)
  try clear u0 u1 u2 u3 u4 u5 u6 u7 huok
  obtain ⟨u0, u1, u2, u3, u4, u5, u6, u7, huok⟩ := uq (w2.dd)
  have hxl2 : ∀ b, blkA xa = some b → b < h2.size := fun b e => hIx.lt e
  refine S_as rfl ?_
  refine S_nil (hK3 _ _ (V_keep [0, 1, 5, 6] (by simp only [proj, lk, reduceIte, Nat.reduceEqDiff]; rfl) ?_)); clear hK3
  refine V_sr T.mix (by kernel_rfl) (fun K4 hK4 => ?_)
  refine S_mv rfl ?_
  refine S_nc rfl ?_
  first | refine S_fa0 T.f48_3 rfl ?_ | refine S_fa T.f48_3 rfl ?_
  refine S_st T.sz33 rfl rfl rfl rfl (by simp (disch := omega) only [huok]) ?_
  generalize hh : putH _ _ _ = h3
  have hD3 : B h3 A.U (ucs A { u with ra := none, rc := 0, rg := [] }) 48 := by rw [← hh]; exact (w2.dd.put 4 _).cong (by simp [ucs])
  have hE3 : Ext (fun b => b = A.U) h2 h3 := by rw [← hh]; exact Ext.put _ _ rfl
  clear hh
  obtain ⟨tg3, w3, ht3⟩ := w2.reg (hE3.mono fun _ e => .inl e) hD3 (IL.nil _) (by simp) (by simp [blkA])
  have hl3 := hE3.1
  replace hIx := hIx.ext hE3 (fun b e z => by have h9 := hbx b e; omega)
  replace hIy := hIy.ext hE3 (fun b e z => by have h9 := hby b e; omega)
  have hIx0 := hIx
  try clear u0 u1 u2 u3 u4 u5 u6 u7 huok
  obtain ⟨u0, u1, u2, u3, u4, u5, u6, u7, huok⟩ := uq (w3.dd)
  refine S_nil (hK4 _ _ (V_keep [0, 1, 5, 6] (by simp only [proj, lk, reduceIte, Nat.reduceEqDiff]; rfl) ?_)); clear hK4
  refine V_sr T.mix (by kernel_rfl) (fun K5 hK5 => ?_)
  refine S_mv rfl ?_
  refine S_nc rfl ?_
  first | refine S_fa0 T.f48_1 rfl ?_ | refine S_fa T.f48_1 rfl ?_
  refine S_ldK T.ag42 rfl (fun K' hK' => ?_)
  simp (disch := omega) only [u0, u1, u2, u3, u4, u5, u6, u7, oP_some, Nat.add_zero]
  refine hK' _ ?_; clear hK' K'
  refine S_mv rfl ?_
  refine S_mv rfl ?_
  refine S_call T.hb74 rfl ?_
  refine FC.mono (wadd_spec h3 A.C A.X u.W u.cl u.s u.p w3.wx xa _ u.rg hIx (by omega) (fun b e z => by have h9 := hbx b e; omega) le) ?_
  rintro v' h4 ⟨W4, rfl, wx4, hv4, hd4, hE4⟩
  have mv4 := w3.mv.ext hE4 (fun e => by have h8 := w3.tM; have h9 := w3.tC; rw [e] at h8; omega) (fun b hb e => by have h8 := w3.tG b hb; have h9 := w3.tC; rw [e] at h8; omega) (fun b hb e => by have h8 := w3.tF b hb; have h9 := w3.tC; rw [e] at h8; omega)
  replace hIx := hIx.ext hE4 (fun b e z => by have h9 := hbx b e; omega)
  replace hIy := hIy.ext hE4 (fun b e z => by have h9 := hby b e; omega)
  have hD4 := w3.dd.ext hE4 (fun e => by have h8 := w3.tU; have h9 := w3.tC; rw [e] at h8; omega)
  have hl4 := hE4.1
  refine S_mv rfl ?_
  refine S_ex rfl rfl ?_
  refine S_ex rfl rfl ?_
  refine S_as rfl ?_
  refine S_as rfl ?_
  refine S_nil (hK5 _ _ (V_keep [0, 1, 5, 6, 7, 8] (by simp only [proj, lk, reduceIte, Nat.reduceEqDiff]; rfl) ?_)); clear hK5
  refine V_seq (fun K6 hK6 => ?_)
  refine V_sr T.mix (by kernel_rfl) (fun K7 hK7 => ?_)
  refine S_as rfl ?_
  refine S_nil (hK7 _ _ (V_keep [0, 1, 5, 6, 7, 8, 9] (by simp only [proj, lk, reduceIte, Nat.reduceEqDiff]; rfl) ?_)); clear hK7
  refine V_block ?_
  refine V_loop (fun m l h' => ∃ (i : Nat) (hk : Heap), (i ≤ u.rg.length) ∧ (IL hk xa u.rg.length (List.replicate i (-7777777) ++ u.rg.drop i)) ∧ (Ext (fun b => blkA xa = some b) h4 hk) ∧ m = u.rg.length - i ∧ l = [(0, .pointer (some ⟨A.U, 0, none⟩)), (1, .bool (decide (le = true))), (5, .slice xa u.rg.length u.rg.length), (6, .slice ya u.rg.length u.rg.length), (7, .int .i64 ((addV u.cl u.rg le).1 : Int)), (8, .int .i64 ((addV u.cl u.rg le).2 : Int)), (9, .int .i64 (i : Int))] ∧ hk = h') _ ⟨0, h4, by omega, by simpa using hIx, Ext.refl _ _, rfl, rfl, rfl⟩ ?_
  rintro m l h' ⟨i, hk, hi, hIk, hEk, rfl, rfl, rfl⟩ K8 hK8
  try clear u0 u1 u2 u3 u4 u5 u6 u7 huok
  obtain ⟨u0, u1, u2, u3, u4, u5, u6, u7, huok⟩ := uq (hD4.ext hEk (fun e => by have h9 := hbx _ e; omega))
  refine V_seq (fun K9 hK9 => ?_)
  refine V_sr T.mix (by kernel_rfl) (fun K10 hK10 => ?_)
  refine S_mv rfl ?_
  refine S_mv rfl ?_
  refine S_lenl T.el33 rfl ?_
  refine S_bin rfl rfl rfl ?_
  refine S_nil (hK10 _ _ (V_keep [0, 1, 5, 6, 7, 8, 9, 39] (by simp only [proj, lk, reduceIte, Nat.reduceEqDiff]; rfl) ?_)); clear hK10
  refine V_condp rfl (fun c112 => ?_) (fun c112 => ?_)
  · skip
    obtain ⟨bx, hbe, _, _, hokx⟩ := IL.get hIk (by simp; omega)
    have hcp := IL.cap hIk
    have hln : (List.replicate i (-7777777 : Int) ++ u.rg.drop i).length = u.rg.length := by simp; omega
    have hok := hokx i (by omega)
    subst hbe
    refine V_skipk [0, 1, 5, 6, 7, 8, 9] (by simp only [proj, lk, reduceIte, Nat.reduceEqDiff]; rfl) ?_
    refine hK9 _ _ ?_; clear hK9
    refine V_seq (fun K11 hK11 => ?_)
    refine V_block ?_
    refine V_reg T.mix (by kernel_rfl) ?_
    refine S_mv rfl ?_
    refine S_mv rfl ?_
    first | refine S_ixn T.el33 rfl rfl (by omega) ?_ | refine S_ix1 T.el33 rfl rfl (by omega) (by omega) ?_ | refine S_ix T.el33 rfl rfl (by omega) (by omega) ?_
    refine S_st T.sz3 rfl rfl rfl rfl (by simp (disch := omega) only [hok]) ?_
    generalize hh : putH _ _ _ = hk1
    have hI2 : IL hk1 (some ⟨bx, 0, none⟩) u.rg.length (List.replicate (i + 1) (-7777777) ++ u.rg.drop (i + 1)) := by rw [← hh, ← spoil_set u.rg (by omega)]; exact hIk.put i _
    have hEk1 : Ext (fun b => blkA (some ⟨bx, 0, none⟩) = some b) h4 hk1 := by rw [← hh]; exact hEk.trans (Ext.put _ _ rfl)
    clear hh
    refine S_nilk [0, 1, 5, 6, 7, 8, 9] (by simp only [proj, lk, reduceIte, Nat.reduceEqDiff]; rfl) ?_
    refine hK11 _ _ ?_; clear hK11
    refine V_reg T.mix (by kernel_rfl) ?_
    refine S_mv rfl ?_
    first | refine S_add rfl rfl (by omega) (by omega) ?_ | refine S_bin rfl rfl rfl ?_
    refine S_as rfl ?_
    refine S_nilk [0, 1, 5, 6, 7, 8, 9] (by simp only [proj, lk, reduceIte, Nat.reduceEqDiff]; rfl) ?_
    exact hK8 _ _ ⟨_, by omega, i + 1, hk1, by omega, hI2, hEk1, rfl, rfl, rfl⟩
  · skip
    refine V_exitk [0, 1, 6, 7, 8] rfl (by simp only [proj, lk, reduceIte, Nat.reduceEqDiff]; rfl) ?_
    refine hK6 _ _ ?_; clear hK6
    refine V_sr T.mix (by kernel_rfl) (fun K12 hK12 => ?_)
    refine S_mv rfl ?_
    refine S_nc rfl ?_
    first | refine S_fa0 T.f48_2 rfl ?_ | refine S_fa T.f48_2 rfl ?_
    first | refine S_fa0 T.f46_1 rfl ?_ | refine S_fa T.f46_1 rfl ?_
    refine S_ldK T.ag44 rfl (fun K' hK' => ?_)
    simp (disch := omega) only [u0, u1, u2, u3, u4, u5, u6, u7, oP_some, Nat.add_zero]
    refine hK' _ ?_; clear hK' K'
    refine S_call T.hb58 rfl ?_
    have mvk := mv4.ext hEk (fun e => by have h9 := hbx _ e; omega) (fun b hb e => by have h9 := hbx b e; have h8 := w.mv.lt b hb; omega) (fun b hb e => by have h9 := hbx b e; have h8 := w.mv.t.lt hb; omega)
    have hDk := hD4.ext hEk (fun e => by have h9 := hbx _ e; omega)
    refine FC.mono (mwids_spec hk A.M A.Y u.mm u.cl u.G u.F u.s mvk) ?_
    rintro v' h5 ⟨ba, rfl, hIb, _, hbb, hE5⟩
    have mv5 := mvk.ext hE5 (fun f => f) (fun _ _ f => f) (fun _ _ f => f)
    have hD5 := hDk.ext hE5 (fun f => f)
    have hIy5 := (hIy.ext hEk (fun b e z => by have h9 := hby b e; have h8 := hxl1 b z; omega)).ext hE5 (fun _ _ f => f)
    have hl5 := hE5.1
    have hlk := hEk.1
    try clear u0 u1 u2 u3 u4 u5 u6 u7 huok
    obtain ⟨u0, u1, u2, u3, u4, u5, u6, u7, huok⟩ := uq (hD5)
    refine S_as rfl ?_
    refine S_nil (hK12 _ _ (V_keep [0, 1, 6, 7, 8, 10] (by simp only [proj, lk, reduceIte, Nat.reduceEqDiff]; rfl) ?_)); clear hK12
    refine V_sr T.mix (by kernel_rfl) (fun K13 hK13 => ?_)
    refine S_mv rfl ?_
    refine S_nc rfl ?_
    first | refine S_fa0 T.f48_2 rfl ?_ | refine S_fa T.f48_2 rfl ?_
    first | refine S_fa0 T.f46_1 rfl ?_ | refine S_fa T.f46_1 rfl ?_
    refine S_ldK T.ag44 rfl (fun K' hK' => ?_)
    simp (disch := omega) only [u0, u1, u2, u3, u4, u5, u6, u7, oP_some, Nat.add_zero]
    refine hK' _ ?_; clear hK' K'
    refine S_mv rfl ?_
    refine S_mv rfl ?_
    refine S_call T.hb75 rfl ?_
    refine FC.mono (mwadd_spec h5 A.M A.Y u.mm u.cl u.G u.F u.s mv5 ya _ u.rg hIy5 (by omega) (fun b e z => by have h9 := hby b e; omega) le) ?_
    rintro v' h6 ⟨mz, G6, rfl, mv6, hsn, hdu1, hdu2, hG1, hG2, hE6⟩
    have hD6 := hD5.ext hE6 (fun e => by have h8 := w.tU; have h9 := w.tM; rw [e] at h8; omega)
    have hIb6 := hIb.ext hE6 (fun b e z => by have h9 := hbb b e; omega)
    have hIy6 := hIy5.ext hE6 (fun b e z => by have h9 := hby b e; omega)
    refine S_mv rfl ?_
    refine S_ex rfl rfl ?_
    refine S_ex rfl rfl ?_
    refine S_as rfl ?_
    refine S_as rfl ?_
    refine S_nil (hK13 _ _ (V_keep [0, 1, 6, 7, 8, 10, 11, 12] (by simp only [proj, lk, reduceIte, Nat.reduceEqDiff]; rfl) ?_)); clear hK13
    refine V_seq (fun K14 hK14 => ?_)
    refine V_sr T.mix (by kernel_rfl) (fun K15 hK15 => ?_)
    refine S_mv rfl ?_
    refine S_mv rfl ?_
    refine S_bin rfl rfl rfl ?_
    refine S_mv rfl ?_
    refine S_dec (fun g117 => ?_) (fun g117 => ?_)
    · skip
      exfalso; exact g117 rfl
    · skip
      refine S_gt rfl ?_
      refine S_mv rfl ?_
      refine S_gt rfl ?_
      refine S_mv rfl ?_
      refine S_gt rfl ?_
      refine S_bin rfl rfl rfl ?_
      refine S_pf rfl rfl ?_
      refine S_nil (hK15 _ _ (V_keep [0, 1, 6, 10, 11, 12, 69] (by simp only [proj, lk, reduceIte, Nat.reduceEqDiff]; rfl) ?_)); clear hK15
      refine V_condp rfl (fun c117 => ?_) (fun c117 => ?_)
      · skip
        exfalso; exact c117 rfl
      · skip
        refine V_skipk [0, 1, 6, 10, 11, 12] (by simp only [proj, lk, reduceIte, Nat.reduceEqDiff]; rfl) ?_
        refine hK14 _ _ ?_; clear hK14
        refine V_sr T.mix (by kernel_rfl) (fun K16 hK16 => ?_)
        refine S_mv rfl ?_
        refine S_mv rfl ?_
        refine S_mv rfl ?_
        refine S_mv rfl ?_
        refine S_mv rfl ?_
        refine S_mv rfl ?_
        refine S_call T.hb76 rfl ?_
        refine FC.mono (keptadd_spec h6 A _ hD6 u.cl u.rg le mz G6 u.F u.s mv6 ba hIb6 ya hIy6 (by omega)) ?_
        rintro v' h7 ⟨rfl, hE7⟩
        refine S_as rfl ?_
        refine S_nil (hK16 _ _ (V_keep [4] (by simp only [proj, lk, reduceIte, Nat.reduceEqDiff]; rfl) ?_)); clear hK16
        refine V_ret ?_
        refine hR _ _ (ret1 rfl rfl ?_)
        have hEt : Ext (fun b => b = A.C ∨ b = A.M ∨ blkA xa = some b) h3 h6 := (((hE4.mono fun _ e => .inl e).trans (hEk.mono fun _ e => .inr (.inr e))).trans (hE5.mono fun _ f => f.elim)).trans (hE6.mono fun _ e => .inr (.inl e))
        have h2s := hIx0
        have hx0 : ∀ b, blkA xa = some b → tg3 b = 0 := fun b e => by rw [ht3 b (by have h9 := hIx0.lt e; have h8 := hE3.1; have h7 := hE3.2; have h6 := hxl2 b e; exact h6)]; exact w.z b (hbx b e)
        have wx6 : WX h6 A.C A.X W4 (addS u.cl u.rg le) u.s u.p := ((wx4.ext hEk (fun e => by have h9 := hbx _ e; omega) (fun e => by have h9 := hbx _ e; omega)).ext hE5 (fun f => f) (fun f => f)).ext hE6 (fun e => by have h8 := w.tC; have h9 := w.tM; rw [e] at h8; omega) (fun e => by have h8 := w.tX; have h9 := w.tM; rw [e] at h8; omega)
        obtain ⟨tg6, w6, ht6, _⟩ := w3.turn hEt (fun b e => by rcases e with e | e | e; (rw [e, w3.tC]; omega); (rw [e, w3.tM]; omega); (rw [hx0 b e]; omega)) hD6 wx6 mv6 (fun b e => .inl e) (fun b e => by rcases hG2 b e with q | q; (exact .inl q); (exact .inr (by omega))) (fun i hi e => by rcases hd4 i e with q | q; (exact hdu1 i (w.du i hi q)); (exact hdu2 i q.1 q.2)) (by rw [hv4, hsn]; exact w.vs) (by rw [hsn]; exact w.sb) (fun e => by rw [hv4]; exact w.vk e) w.pp
        refine ⟨rfl, tg6, _, w6.new hE7, ⟨rfl, rfl⟩, ?_, fun b hb e => by rw [ht6 b (by omega), ht3 b (by omega)]; exact e⟩
        refine (((((hE1.trans hE2).mono fun _ f => f.elim).step hE3 (fun b hb e => by rw [e, w.tU]; omega)).step hEt (fun b hb e => ?_)).step hE7 (fun b hb f => f.elim))
        rcases e with e | e | e
        · rw [e, w.tC]; omega
        · rw [e, w.tM]; omega
        · have h9 := hbx b e; omega
set_option maxHeartbeats 1600000 in
theorem keptremove_spec (h : Heap) (A : UA) (u : US) (hD : B h A.U (ucs A u) 48) (cl0 : Nat → Option (List Int)) (hn0 : ∀ n, n < 52 → ∀ c, cl0 n = some c → Nrm c) (id : Int) (mm : MC) (G F : Nat → Prop) (s : TS) (mv : MV h A.M A.Y mm (remS cl0 s id) G F s) (ba : Option Addr) (hIb : IL h ba (idsF cl0 52).length (idsF cl0 52)) (ca : Option Addr) (hIc : IL h ca (clF cl0 id).length (clF cl0 id)) :
    FC Tryz.prog 79 (#[.pointer (some ⟨A.U, 0, none⟩), .slice ba (idsF cl0 52).length (idsF cl0 52).length, .slice ca (clF cl0 id).length (clF cl0 id).length, .int .i64 id, .int .i64 ((remV cl0 s id : Nat) : Int)] : Array Value) h fun rv h' => rv = .bool true ∧ Ext (fun _ => False) h h' := by
  try clear u0 u1 u2 u3 u4 u5 u6 u7 huok
  obtain ⟨u0, u1, u2, u3, u4, u5, u6, u7, huok⟩ := uq (hD)
  have hil := idsF_len cl0 52
  have hrc := rem_cases cl0 s id
  refine FC_of [(0, .pointer (some ⟨A.U, 0, none⟩)), (1, .slice ba (idsF cl0 52).length (idsF cl0 52).length), (2, .slice ca (clF cl0 id).length (clF cl0 id).length), (3, .int .i64 id), (4, .int .i64 ((remV cl0 s id : Nat) : Int))] Tryz.func79 rfl Tryz.ntmps79 (by simp) rfl (fun R hR => ?_)
  refine V_sr T.mix (by kernel_rfl) (fun K1 hK1 => ?_)
  refine S_as rfl ?_
  refine S_nil (hK1 _ _ (V_keep [0, 1, 2, 3, 4] (by simp only [proj, lk, reduceIte, Nat.reduceEqDiff]; rfl) ?_)); clear hK1
  refine V_sr T.mix (by kernel_rfl) (fun K2 hK2 => ?_)
  refine S_mv rfl ?_
  refine S_nc rfl ?_
  first | refine S_fa0 T.f48_2 rfl ?_ | refine S_fa T.f48_2 rfl ?_
  first | refine S_fa0 T.f46_1 rfl ?_ | refine S_fa T.f46_1 rfl ?_
  refine S_ldK T.ag44 rfl (fun K' hK' => ?_)
  simp (disch := omega) only [u0, u1, u2, u3, u4, u5, u6, u7, oP_some, Nat.add_zero]
  refine hK' _ ?_; clear hK' K'
  refine S_call T.hb58 rfl ?_
  refine FC.mono (mwids_spec h A.M A.Y mm _ G F s mv) ?_
  rintro v' h1 ⟨na, rfl, hIn, _, _, hE1⟩
  have hil2 := idsF_len (remS cl0 s id) 52
  have mv1 := mv.ext hE1 (fun f => f) (fun _ _ f => f) (fun _ _ f => f)
  have hIb1 := hIb.ext hE1 (fun _ _ f => f)
  have hIc1 := hIc.ext hE1 (fun _ _ f => f)
  try clear u0 u1 u2 u3 u4 u5 u6 u7 huok
  obtain ⟨u0, u1, u2, u3, u4, u5, u6, u7, huok⟩ := uq (hD.ext hE1 (fun f => f))
  refine S_as rfl ?_
  refine S_nil (hK2 _ _ (V_keep [0, 1, 2, 3, 4, 11] (by simp only [proj, lk, reduceIte, Nat.reduceEqDiff]; rfl) ?_)); clear hK2
  refine V_seq (fun K3 hK3 => ?_)
  refine V_sr T.mix (by kernel_rfl) (fun K4 hK4 => ?_)
  refine S_mv rfl ?_
  refine S_mv rfl ?_
  refine S_call T.hb95 rfl ?_
  refine FC.mono (in_spec h1 ba _ (idsF cl0 52) hIb1 (by omega) id) ?_
  rintro v' h' ⟨rfl, rfl⟩
  refine S_notb rfl ?_
  refine S_nil (hK4 _ _ (V_keep [0, 1, 2, 3, 4, 11, 26] (by simp only [proj, lk, reduceIte, Nat.reduceEqDiff]; rfl) ?_)); clear hK4
  refine V_condb rfl (fun c185 => ?_) (fun c185 => ?_)
  · skip
    have hno : liveC cl0 id = none := by
      cases e : liveC cl0 id with
      | none => rfl
      | some c => exact absurd (mem_live.2 (show (liveC cl0 id).isSome = true by rw [e]; rfl)) (by simpa using c185)
    obtain ⟨_, r1, r2⟩ : liveC cl0 id = none ∧ remV cl0 s id = 13 ∧ remS cl0 s id = cl0 := by
      rcases hrc with q | ⟨n, c, _, _, _, q, _⟩
      · exact q
      · rw [hno] at q; cases q
    rw [r2]
    refine V_sr T.mix (by kernel_rfl) (fun K5 hK5 => ?_)
    refine S_mv rfl ?_
    refine S_bin rfl rfl rfl ?_
    refine S_mv rfl ?_
    refine S_dec (fun g186 => ?_) (fun g186 => ?_)
    · skip
      refine S_gt rfl ?_
      refine S_mv rfl ?_
      refine S_gt rfl ?_
      refine S_lenl T.el33 rfl ?_
      refine S_gt rfl ?_
      refine S_mv rfl ?_
      refine S_gt rfl ?_
      refine S_lenl T.el33 rfl ?_
      refine S_gt rfl ?_
      refine S_bin rfl rfl rfl ?_
      refine S_pt rfl rfl ?_
      refine S_as rfl ?_
      refine S_nil (hK5 _ _ (V_keep [10] (by simp only [proj, lk, reduceIte, Nat.reduceEqDiff]; rfl) ?_)); clear hK5
      refine V_ret ?_
      refine hR _ _ (ret1 rfl rfl ?_)
      exact ⟨by simp, hE1⟩
    · skip
      refine S_gf rfl ?_
      refine S_gf rfl ?_
      refine S_gf rfl ?_
      refine S_gf rfl ?_
      refine S_gf rfl ?_
      refine S_pf rfl rfl ?_
      refine S_as rfl ?_
      refine S_nil (hK5 _ _ (V_keep [10] (by simp only [proj, lk, reduceIte, Nat.reduceEqDiff]; rfl) ?_)); clear hK5
      refine V_ret ?_
      refine hR _ _ (ret1 rfl rfl ?_)
      exfalso; rw [r1] at g186; exact g186 rfl
  · skip
    have hin : id ∈ idsF cl0 52 := by simpa using c185
    obtain ⟨n, cc, hidn, hid, hcl, hlv, hrr⟩ := hrc.resolve_left (fun q => by have h9 := mem_live.1 hin; rw [q.1] at h9; cases h9)
    have hcF : clF cl0 id = cc := by unfold clF; rw [hlv]; rfl
    have hnr := hn0 n hid cc hcl
    have hln := hnr.len
    rw [hcF] at hIc1
    rw [hcF]
    refine V_skipk [0, 1, 2, 3, 4, 11] (by simp only [proj, lk, reduceIte, Nat.reduceEqDiff]; rfl) ?_
    refine hK3 _ _ ?_; clear hK3
    refine V_sr T.mix (by kernel_rfl) (fun K6 hK6 => ?_)
    refine S_as rfl ?_
    refine S_nil (hK6 _ _ (V_keep [0, 1, 2, 3, 4, 11, 12] (by simp only [proj, lk, reduceIte, Nat.reduceEqDiff]; rfl) ?_)); clear hK6
    refine V_seq (fun K7 hK7 => ?_)
    refine V_sr T.mix (by kernel_rfl) (fun K8 hK8 => ?_)
    refine S_as rfl ?_
    refine S_nil (hK8 _ _ (V_keep [0, 1, 2, 3, 4, 11, 12, 13] (by simp only [proj, lk, reduceIte, Nat.reduceEqDiff]; rfl) ?_)); clear hK8
    refine V_block ?_
    refine V_loop (fun m l h' => ∃ (i : Nat) (lo : Bool), (i ≤ cc.length) ∧ (lo = (cc.take i).any (lockL s n)) ∧ m = cc.length - i ∧ l = [(0, .pointer (some ⟨A.U, 0, none⟩)), (1, .slice ba (idsF cl0 52).length (idsF cl0 52).length), (2, .slice ca cc.length cc.length), (3, .int .i64 id), (4, .int .i64 ((remV cl0 s id : Nat) : Int)), (11, .slice na (idsF (remS cl0 s id) 52).length (idsF (remS cl0 s id) 52).length), (12, .bool (decide (lo = true))), (13, .int .i64 (i : Int))] ∧ h1 = h') _ ⟨0, false, by omega, by simp, rfl, rfl, rfl⟩ ?_
    rintro m l h' ⟨i, lo, hi, hlk, rfl, rfl, rfl⟩ K9 hK9
    refine V_seq (fun K10 hK10 => ?_)
    refine V_sr T.mix (by kernel_rfl) (fun K11 hK11 => ?_)
    refine S_mv rfl ?_
    refine S_mv rfl ?_
    refine S_lenl T.el33 rfl ?_
    refine S_bin rfl rfl rfl ?_
    refine S_nil (hK11 _ _ (V_keep [0, 1, 2, 3, 4, 11, 12, 13, 39] (by simp only [proj, lk, reduceIte, Nat.reduceEqDiff]; rfl) ?_)); clear hK11
    refine V_condp rfl (fun c189 => ?_) (fun c189 => ?_)
    · skip
      obtain ⟨bb, hbe, _, _, _⟩ := hIc1.get (by omega)
      have hIk := hIc1
      rw [hbe] at hIk
      try rw [hbe]
      have hgd := hnr.1 _ (mem_at (show i < cc.length by omega))
      unfold gd at hgd
      refine V_skipk [0, 1, 2, 3, 4, 11, 12, 13] (by simp only [proj, lk, reduceIte, Nat.reduceEqDiff]; rfl) ?_
      refine hK10 _ _ ?_; clear hK10
      refine V_seq (fun K12 hK12 => ?_)
      refine V_block ?_
      refine V_sr T.mix (by kernel_rfl) (fun K13 hK13 => ?_)
      refine S_mv rfl ?_
      refine S_nc rfl ?_
      first | refine S_fa0 T.f48_2 rfl ?_ | refine S_fa T.f48_2 rfl ?_
      first | refine S_fa0 T.f46_0 rfl ?_ | refine S_fa T.f46_0 rfl ?_
      refine S_ldK T.ag43 rfl (fun K' hK' => ?_)
      simp (disch := omega) only [u2, hIk.at, oP_some, Nat.add_zero]
      refine hK' _ ?_; clear hK' K'
      refine S_mv rfl ?_
      refine S_mv rfl ?_
      first | refine S_ixn T.el33 rfl rfl (by omega) ?_ | refine S_ix1 T.el33 rfl rfl (by omega) (by omega) ?_ | refine S_ix T.el33 rfl rfl (by omega) (by omega) ?_
      refine S_ldK T.ag3 rfl (fun K' hK' => ?_)
      simp (disch := omega) only [u2, hIk.at, oP_some, Nat.add_zero]
      refine hK' _ ?_; clear hK' K'
      refine S_call T.hb49 rfl ?_
      refine FC.mono (mvalue_spec h1 A.Y F s mv1.t (cc.getD i 0)) ?_
      rintro v' h' ⟨rfl, rfl⟩
      refine S_as rfl ?_
      refine S_nil (hK13 _ _ (V_keep [0, 1, 2, 3, 4, 11, 12, 13, 14] (by simp only [proj, lk, reduceIte, Nat.reduceEqDiff]; rfl) ?_)); clear hK13
      refine V_sr T.mix (by kernel_rfl) (fun K14 hK14 => ?_)
      refine S_mv rfl ?_
      refine S_mv rfl ?_
      first | refine S_ixn T.el33 rfl rfl (by omega) ?_ | refine S_ix1 T.el33 rfl rfl (by omega) (by omega) ?_ | refine S_ix T.el33 rfl rfl (by omega) (by omega) ?_
      refine S_ldK T.ag3 rfl (fun K' hK' => ?_)
      simp (disch := omega) only [hIk.at, oP_some, Nat.add_zero]
      refine hK' _ ?_; clear hK' K'
      refine S_call T.hb82 rfl ?_
      refine FC.mono (var_spec _ ((cc.getD i 0)) (by omega) (by omega)) ?_
      rintro v' h' ⟨rfl, rfl⟩
      refine S_as rfl ?_
      refine S_nil (hK14 _ _ (V_keep [0, 1, 2, 3, 4, 11, 12, 13, 14, 15] (by simp only [proj, lk, reduceIte, Nat.reduceEqDiff]; rfl) ?_)); clear hK14
      refine V_sr T.mix (by kernel_rfl) (fun K15 hK15 => ?_)
      refine S_mv rfl ?_
      refine S_nc rfl ?_
      first | refine S_fa0 T.f48_2 rfl ?_ | refine S_fa T.f48_2 rfl ?_
      first | refine S_fa0 T.f46_0 rfl ?_ | refine S_fa T.f46_0 rfl ?_
      refine S_ldK T.ag43 rfl (fun K' hK' => ?_)
      simp (disch := omega) only [u0, u1, u2, u3, u4, u5, u6, u7, oP_some, Nat.add_zero]
      refine hK' _ ?_; clear hK' K'
      refine S_mv rfl ?_
      refine S_call T.hb53 rfl ?_
      refine FC.mono (mreason_spec h1 A.Y F s mv1.t ((cc.getD i 0).natAbs : Int)) ?_
      rintro v' h' ⟨rfl, rfl⟩
      refine S_as rfl ?_
      refine S_nil (hK15 _ _ (V_keep [0, 1, 2, 3, 4, 11, 12, 13, 14, 16] (by simp only [proj, lk, reduceIte, Nat.reduceEqDiff]; rfl) ?_)); clear hK15
      refine V_sr T.mix (by kernel_rfl) (fun K16 hK16 => ?_)
      refine S_mv rfl ?_
      refine S_bin rfl rfl rfl ?_
      refine S_mv rfl ?_
      refine S_dec (fun g193 => ?_) (fun g193 => ?_)
      · skip
        refine S_gt rfl ?_
        refine S_mv rfl ?_
        refine S_gt rfl ?_
        refine S_mv rfl ?_
        refine S_gt rfl ?_
        refine S_bin rfl rfl rfl ?_
        refine S_pt rfl rfl ?_
        refine S_nil (hK16 _ _ (V_keep [0, 1, 2, 3, 4, 11, 12, 13, 70] (by simp only [proj, lk, reduceIte, Nat.reduceEqDiff]; rfl) ?_)); clear hK16
        refine V_condp rfl (fun c193 => ?_) (fun c193 => ?_)
        · skip
          refine V_reg T.mix (by kernel_rfl) ?_
          refine S_as rfl ?_
          refine S_nilk [0, 1, 2, 3, 4, 11, 12, 13] (by simp only [proj, lk, reduceIte, Nat.reduceEqDiff]; rfl) ?_
          refine hK12 _ _ ?_; clear hK12
          refine V_reg T.mix (by kernel_rfl) ?_
          refine S_mv rfl ?_
          first | refine S_add rfl rfl (by omega) (by omega) ?_ | refine S_bin rfl rfl rfl ?_
          refine S_as rfl ?_
          refine S_nilk [0, 1, 2, 3, 4, 11, 12, 13] (by simp only [proj, lk, reduceIte, Nat.reduceEqDiff]; rfl) ?_
          try rw [← hbe]
          exact hK9 _ _ ⟨_, by omega, i + 1, true, by omega, (by rw [any_snoc (by omega)]; unfold lockL; rw [decide_eq_true (show valO s (cc.getD i 0) = 1 by omega), decide_eq_true (show reaV s.L ((cc.getD i 0).natAbs : Int) = (n : Int) by omega)]; simp), rfl, rfl, rfl⟩
        · skip
          refine V_skipk [0, 1, 2, 3, 4, 11, 12, 13] (by simp only [proj, lk, reduceIte, Nat.reduceEqDiff]; rfl) ?_
          refine hK12 _ _ ?_; clear hK12
          refine V_reg T.mix (by kernel_rfl) ?_
          refine S_mv rfl ?_
          first | refine S_add rfl rfl (by omega) (by omega) ?_ | refine S_bin rfl rfl rfl ?_
          refine S_as rfl ?_
          refine S_nilk [0, 1, 2, 3, 4, 11, 12, 13] (by simp only [proj, lk, reduceIte, Nat.reduceEqDiff]; rfl) ?_
          try rw [← hbe]
          exact hK9 _ _ ⟨_, by omega, i + 1, lo, by omega, (by rw [any_snoc (by omega), ← hlk]; unfold lockL; rw [show (decide (valO s (cc.getD i 0) = 1) && decide (reaV s.L ((cc.getD i 0).natAbs : Int) = (n : Int))) = false by first | (rw [decide_eq_false (show ¬ valO s (cc.getD i 0) = 1 by omega)]; rfl) | (rw [decide_eq_false (show ¬ reaV s.L ((cc.getD i 0).natAbs : Int) = (n : Int) by omega), Bool.and_false])]; simp), rfl, rfl, rfl⟩
      · skip
        refine S_gf rfl ?_
        refine S_gf rfl ?_
        refine S_gf rfl ?_
        refine S_pf rfl rfl ?_
        refine S_nil (hK16 _ _ (V_keep [0, 1, 2, 3, 4, 11, 12, 13, 70] (by simp only [proj, lk, reduceIte, Nat.reduceEqDiff]; rfl) ?_)); clear hK16
        refine V_condf rfl ?_
        refine V_skipk [0, 1, 2, 3, 4, 11, 12, 13] (by simp only [proj, lk, reduceIte, Nat.reduceEqDiff]; rfl) ?_
        refine hK12 _ _ ?_; clear hK12
        refine V_reg T.mix (by kernel_rfl) ?_
        refine S_mv rfl ?_
        first | refine S_add rfl rfl (by omega) (by omega) ?_ | refine S_bin rfl rfl rfl ?_
        refine S_as rfl ?_
        refine S_nilk [0, 1, 2, 3, 4, 11, 12, 13] (by simp only [proj, lk, reduceIte, Nat.reduceEqDiff]; rfl) ?_
        try rw [← hbe]
        exact hK9 _ _ ⟨_, by omega, i + 1, lo, by omega, (by rw [any_snoc (by omega), ← hlk]; unfold lockL; rw [show (decide (valO s (cc.getD i 0) = 1) && decide (reaV s.L ((cc.getD i 0).natAbs : Int) = (n : Int))) = false by first | (rw [decide_eq_false (show ¬ valO s (cc.getD i 0) = 1 by omega)]; rfl) | (rw [decide_eq_false (show ¬ reaV s.L ((cc.getD i 0).natAbs : Int) = (n : Int) by omega), Bool.and_false])]; simp), rfl, rfl, rfl⟩
    · skip
      refine V_exitk [1, 3, 4, 11, 12] rfl (by simp only [proj, lk, reduceIte, Nat.reduceEqDiff]; rfl) ?_
      refine hK7 _ _ ?_; clear hK7
      refine V_seq (fun K17 hK17 => ?_)
      refine V_sr T.mix (by kernel_rfl) (fun K18 hK18 => ?_)
      refine S_mv rfl ?_
      refine S_nil (hK18 _ _ (V_keep [1, 3, 4, 11, 71] (by simp only [proj, lk, reduceIte, Nat.reduceEqDiff]; rfl) ?_)); clear hK18
      refine V_condp rfl (fun c197 => ?_) (fun c197 => ?_)
      · skip
        have hlk2 : lockB s n cc = true := by unfold lockB; rw [show i = cc.length by omega, List.take_length] at hlk; rw [← hlk]; simpa using c197
        obtain ⟨_, r1, r2⟩ := hrr.resolve_right (fun q => by rw [hlk2] at q; cases q.1)
        rw [r2]
        refine V_sr T.mix (by kernel_rfl) (fun K19 hK19 => ?_)
        refine S_mv rfl ?_
        refine S_bin rfl rfl rfl ?_
        refine S_mv rfl ?_
        refine S_dec (fun g198 => ?_) (fun g198 => ?_)
        · skip
          refine S_gt rfl ?_
          refine S_mv rfl ?_
          refine S_gt rfl ?_
          refine S_lenl T.el33 rfl ?_
          refine S_gt rfl ?_
          refine S_mv rfl ?_
          refine S_gt rfl ?_
          refine S_lenl T.el33 rfl ?_
          refine S_gt rfl ?_
          refine S_bin rfl rfl rfl ?_
          refine S_pt rfl rfl ?_
          refine S_as rfl ?_
          refine S_nil (hK19 _ _ (V_keep [10] (by simp only [proj, lk, reduceIte, Nat.reduceEqDiff]; rfl) ?_)); clear hK19
          refine V_ret ?_
          refine hR _ _ (ret1 rfl rfl ?_)
          exact ⟨by simp, hE1⟩
        · skip
          refine S_gf rfl ?_
          refine S_gf rfl ?_
          refine S_gf rfl ?_
          refine S_gf rfl ?_
          refine S_gf rfl ?_
          refine S_pf rfl rfl ?_
          refine S_as rfl ?_
          refine S_nil (hK19 _ _ (V_keep [10] (by simp only [proj, lk, reduceIte, Nat.reduceEqDiff]; rfl) ?_)); clear hK19
          refine V_ret ?_
          refine hR _ _ (ret1 rfl rfl ?_)
          exfalso; rw [r1] at g198; exact g198 rfl
      · skip
        have hlk2 : lockB s n cc = false := by unfold lockB; rw [show i = cc.length by omega, List.take_length] at hlk; rw [← hlk]; simpa using c197
        obtain ⟨_, r1, r2⟩ := hrr.resolve_left (fun q => by rw [hlk2] at q; cases q.1)
        have hdn := idsF_dn hcl 52
        rw [if_pos hid, ← r2] at hdn
        refine V_skipk [1, 3, 4, 11] (by simp only [proj, lk, reduceIte, Nat.reduceEqDiff]; rfl) ?_
        refine hK17 _ _ ?_; clear hK17
        refine V_seq (fun K20 hK20 => ?_)
        refine V_sr T.mix (by kernel_rfl) (fun K21 hK21 => ?_)
        refine S_mv rfl ?_
        refine S_bin rfl rfl rfl ?_
        refine S_mv rfl ?_
        refine S_dec (fun g200 => ?_) (fun g200 => ?_)
        · skip
          exfalso; rw [r1] at g200; exact g200 rfl
        · skip
          refine S_gt rfl ?_
          refine S_mv rfl ?_
          refine S_gt rfl ?_
          refine S_lenl T.el33 rfl ?_
          refine S_gt rfl ?_
          refine S_mv rfl ?_
          refine S_gt rfl ?_
          refine S_lenl T.el33 rfl ?_
          refine S_gt rfl ?_
          first | refine S_sub rfl rfl (by omega) (by omega) ?_ | refine S_bin rfl rfl rfl ?_
          refine S_gt rfl ?_
          refine S_bin rfl rfl rfl ?_
          refine S_pf rfl rfl ?_
          refine S_nil (hK21 _ _ (V_keep [3, 11, 90] (by simp only [proj, lk, reduceIte, Nat.reduceEqDiff]; rfl) ?_)); clear hK21
          refine V_condp rfl (fun c200 => ?_) (fun c200 => ?_)
          · skip
            exfalso; exact c200 (by omega)
          · skip
            refine V_skipk [3, 11] (by simp only [proj, lk, reduceIte, Nat.reduceEqDiff]; rfl) ?_
            refine hK20 _ _ ?_; clear hK20
            refine V_sr T.mix (by kernel_rfl) (fun K22 hK22 => ?_)
            refine S_mv rfl ?_
            refine S_mv rfl ?_
            refine S_call T.hb95 rfl ?_
            refine FC.mono (in_spec h1 na _ (idsF (remS cl0 s id) 52) hIn (by omega) id) ?_
            rintro v' h' ⟨rfl, rfl⟩
            refine S_notb rfl ?_
            refine S_as rfl ?_
            refine S_nil (hK22 _ _ (V_keep [10] (by simp only [proj, lk, reduceIte, Nat.reduceEqDiff]; rfl) ?_)); clear hK22
            refine V_ret ?_
            refine hR _ _ (ret1 rfl rfl ?_)
            have hni : id ∉ idsF (remS cl0 s id) 52 := fun e => by
              have h9 := mem_live.1 e
              rw [r2, hidn, liveC_nat hid, upO_self] at h9
              cases h9
            exact ⟨by rw [decide_eq_false hni]; rfl, hE1⟩
set_option maxHeartbeats 1600000 in
theorem sameremove_spec (h : Heap) (tg : Nat → Nat) (A : UA) (u : US) (nb : Nat) (w : UI h tg A u nb) (id : Int) :
    FC Tryz.prog 30 (#[.pointer (some ⟨A.U, 0, none⟩), .int .i64 id] : Array Value) h fun rv h' => rv = .bool true ∧ ∃ (tg' : Nat → Nat) (u' : US), UI h' tg' A u' nb ∧ (u'.cl = remS u.cl u.s id ∧ u'.s = u.s) ∧ KP tg tg' h h' := by
  try clear u0 u1 u2 u3 u4 u5 u6 u7 huok
  obtain ⟨u0, u1, u2, u3, u4, u5, u6, u7, huok⟩ := uq (w.dd)
  have hhb := w.hb
  have hlt := w.lt1
  refine FC_of [(0, .pointer (some ⟨A.U, 0, none⟩)), (1, .int .i64 id)] Tryz.func30 rfl Tryz.ntmps30 (by simp) rfl (fun R hR => ?_)
  refine V_sr T.mix (by kernel_rfl) (fun K1 hK1 => ?_)
  refine S_as rfl ?_
  refine S_nil (hK1 _ _ (V_keep [0, 1] (by simp only [proj, lk, reduceIte, Nat.reduceEqDiff]; rfl) ?_)); clear hK1
  refine V_sr T.mix (by kernel_rfl) (fun K2 hK2 => ?_)
  refine S_mv rfl ?_
  refine S_nc rfl ?_
  first | refine S_fa0 T.f48_2 rfl ?_ | refine S_fa T.f48_2 rfl ?_
  first | refine S_fa0 T.f46_1 rfl ?_ | refine S_fa T.f46_1 rfl ?_
  refine S_ldK T.ag44 rfl (fun K' hK' => ?_)
  simp (disch := omega) only [u0, u1, u2, u3, u4, u5, u6, u7, oP_some, Nat.add_zero]
  refine hK' _ ?_; clear hK' K'
  refine S_call T.hb58 rfl ?_
  refine FC.mono (mwids_spec h A.M A.Y u.mm u.cl u.G u.F u.s w.mv) ?_
  rintro v' h1 ⟨ba, rfl, hIb, _, hbb, hE1⟩
  have w1 := w.new hE1
  have hl1 := hE1.1
  try clear u0 u1 u2 u3 u4 u5 u6 u7 huok
  obtain ⟨u0, u1, u2, u3, u4, u5, u6, u7, huok⟩ := uq (w1.dd)
  refine S_as rfl ?_
  refine S_nil (hK2 _ _ (V_keep [0, 1, 5] (by simp only [proj, lk, reduceIte, Nat.reduceEqDiff]; rfl) ?_)); clear hK2
  refine V_sr T.mix (by kernel_rfl) (fun K3 hK3 => ?_)
  refine S_mv rfl ?_
  refine S_nc rfl ?_
  first | refine S_fa0 T.f48_2 rfl ?_ | refine S_fa T.f48_2 rfl ?_
  first | refine S_fa0 T.f46_1 rfl ?_ | refine S_fa T.f46_1 rfl ?_
  refine S_ldK T.ag44 rfl (fun K' hK' => ?_)
  simp (disch := omega) only [u0, u1, u2, u3, u4, u5, u6, u7, oP_some, Nat.add_zero]
  refine hK' _ ?_; clear hK' K'
  refine S_mv rfl ?_
  refine S_call T.hb59 rfl ?_
  refine FC.mono (mwclause_spec h1 A.M A.Y u.mm u.cl u.G u.F u.s w1.mv id) ?_
  rintro v' h2 ⟨ca, rfl, hIc, _, hbc, hE2⟩
  have w2 := w1.new hE2
  have hl2 := hE2.1
  replace hIb := hIb.ext hE2 (fun _ _ f => f)
  try clear u0 u1 u2 u3 u4 u5 u6 u7 huok
  obtain ⟨u0, u1, u2, u3, u4, u5, u6, u7, huok⟩ := uq (w2.dd)
  refine S_mv rfl ?_
  refine S_ex rfl rfl ?_
  refine S_ex rfl rfl ?_
  refine S_as rfl ?_
  refine S_as rfl ?_
  refine S_nil (hK3 _ _ (V_keep [0, 1, 5, 6] (by simp only [proj, lk, reduceIte, Nat.reduceEqDiff]; rfl) ?_)); clear hK3
  refine V_sr T.mix (by kernel_rfl) (fun K4 hK4 => ?_)
  refine S_mv rfl ?_
  refine S_nc rfl ?_
  first | refine S_fa0 T.f48_1 rfl ?_ | refine S_fa T.f48_1 rfl ?_
  refine S_ldK T.ag42 rfl (fun K' hK' => ?_)
  simp (disch := omega) only [u0, u1, u2, u3, u4, u5, u6, u7, oP_some, Nat.add_zero]
  refine hK' _ ?_; clear hK' K'
  refine S_mv rfl ?_
  refine S_call T.hb77 rfl ?_
  refine FC.mono (wremove_spec h2 A.C A.X u.W u.cl u.s u.p w2.wx id) ?_
  rintro v' h3 ⟨W3, rfl, wx3, hv3, hd3, hE3⟩
  have mv3 := w2.mv.ext hE3 (fun e => by have h8 := w.tM; have h9 := w.tC; rw [e] at h8; omega) (fun b hb e => by have h8 := w.tG b hb; have h9 := w.tC; rw [e] at h8; omega) (fun b hb e => by have h8 := w.tF b hb; have h9 := w.tC; rw [e] at h8; omega)
  have hD3 := w2.dd.ext hE3 (fun e => by have h8 := w.tU; have h9 := w.tC; rw [e] at h8; omega)
  replace hIb := hIb.ext hE3 (fun b e z => by have h9 := hbb b e; omega)
  replace hIc := hIc.ext hE3 (fun b e z => by have h9 := hbc b e; omega)
  try clear u0 u1 u2 u3 u4 u5 u6 u7 huok
  obtain ⟨u0, u1, u2, u3, u4, u5, u6, u7, huok⟩ := uq (hD3)
  refine S_as rfl ?_
  refine S_nil (hK4 _ _ (V_keep [0, 1, 5, 6, 8] (by simp only [proj, lk, reduceIte, Nat.reduceEqDiff]; rfl) ?_)); clear hK4
  refine V_sr T.mix (by kernel_rfl) (fun K5 hK5 => ?_)
  refine S_mv rfl ?_
  refine S_nc rfl ?_
  first | refine S_fa0 T.f48_2 rfl ?_ | refine S_fa T.f48_2 rfl ?_
  first | refine S_fa0 T.f46_1 rfl ?_ | refine S_fa T.f46_1 rfl ?_
  refine S_ldK T.ag44 rfl (fun K' hK' => ?_)
  simp (disch := omega) only [u0, u1, u2, u3, u4, u5, u6, u7, oP_some, Nat.add_zero]
  refine hK' _ ?_; clear hK' K'
  refine S_mv rfl ?_
  refine S_call T.hb78 rfl ?_
  refine FC.mono (mwremove_spec h3 A.M A.Y u.mm u.cl u.G u.F u.s mv3 id) ?_
  rintro v' h4 ⟨mz, rfl, mv4, hsn, hdu, hE4⟩
  have hD4 := hD3.ext hE4 (fun e => by have h8 := w.tU; have h9 := w.tM; rw [e] at h8; omega)
  replace hIb := hIb.ext hE4 (fun b e z => by have h9 := hbb b e; omega)
  replace hIc := hIc.ext hE4 (fun b e z => by have h9 := hbc b e; omega)
  refine S_as rfl ?_
  refine S_nil (hK5 _ _ (V_keep [0, 1, 5, 6, 8, 9] (by simp only [proj, lk, reduceIte, Nat.reduceEqDiff]; rfl) ?_)); clear hK5
  refine V_seq (fun K6 hK6 => ?_)
  refine V_sr T.mix (by kernel_rfl) (fun K7 hK7 => ?_)
  refine S_mv rfl ?_
  refine S_mv rfl ?_
  refine S_bin rfl rfl rfl ?_
  refine S_nil (hK7 _ _ (V_keep [0, 1, 5, 6, 9, 41] (by simp only [proj, lk, reduceIte, Nat.reduceEqDiff]; rfl) ?_)); clear hK7
  refine V_condp rfl (fun c175 => ?_) (fun c175 => ?_)
  · skip
    exfalso; exact c175 rfl
  · skip
    refine V_skipk [0, 1, 5, 6, 9] (by simp only [proj, lk, reduceIte, Nat.reduceEqDiff]; rfl) ?_
    refine hK6 _ _ ?_; clear hK6
    refine V_sr T.mix (by kernel_rfl) (fun K8 hK8 => ?_)
    refine S_mv rfl ?_
    refine S_mv rfl ?_
    refine S_mv rfl ?_
    refine S_mv rfl ?_
    refine S_mv rfl ?_
    refine S_call T.hb79 rfl ?_
    refine FC.mono (keptremove_spec h4 A u hD4 u.cl (fun n hn c hc => (w.mv.r.c n hn c hc).1) id mz u.G u.F u.s mv4 ba hIb ca hIc) ?_
    rintro v' h5 ⟨rfl, hE5⟩
    refine S_as rfl ?_
    refine S_nil (hK8 _ _ (V_keep [4] (by simp only [proj, lk, reduceIte, Nat.reduceEqDiff]; rfl) ?_)); clear hK8
    refine V_ret ?_
    refine hR _ _ (ret1 rfl rfl ?_)
    have hEt : Ext (fun b => b = A.C ∨ b = A.M) h2 h4 := (hE3.mono fun _ e => .inl e).trans (hE4.mono fun _ e => .inr e)
    have wx4 := wx3.ext hE4 (fun e => by have h8 := w.tC; have h9 := w.tM; rw [e] at h8; omega) (fun e => by have h8 := w.tX; have h9 := w.tM; rw [e] at h8; omega)
    obtain ⟨tg4, w4, ht4, _⟩ := w2.turn hEt (fun b e => by rcases e with e | e; (rw [e, w.tC]; omega); (rw [e, w.tM]; omega)) hD4 wx4 mv4 (fun b e => .inl e) (fun b e => .inl e) (fun i hi e => by have q := hd3 i e; rcases hdu i (w.du i hi q.1) with z | z; (exact z); (exact absurd z q.2)) (by rw [hv3, hsn]; exact w.vs) (by rw [hsn]; exact w.sb) (fun e => by rw [hv3]; exact w.vk e) w.pp
    exact ⟨rfl, tg4, _, w4.new hE5, ⟨rfl, rfl⟩, (((hE1.trans hE2).mono fun _ f => f.elim).step hEt (fun b hb e => by rcases e with e | e; (rw [e, w.tC]; omega); (rw [e, w.tM]; omega))).step hE5 (fun b hb f => f.elim), fun b hb e => by rw [ht4 b (by omega)]; exact e⟩
end Go.Proofs.Qxb6500403aGreat
