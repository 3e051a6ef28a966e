import Derived.Test.Qxb6500403aGreatXj
set_option linter.unusedVariables false
set_option linter.unusedSimpArgs false
namespace Go.Proofs.Qxb6500403aGreat
open Go.Eng Go.Trl Go.Chk Go.Wat

theorem asg_eq {cl : Nat → Option (List Int)} {L : List It} {k c : Nat} {x : It} {i : Nat} {L' : List It} (hL : L = L'.take i) (hx : L'[i]? = some x) (hk : x.lev = (k : Int)) {id : Nat} (hr : x.rea = id) (e : asgE ⟨L, k, c⟩ x.lit id = 0) : asgS ⟨L, k, c⟩ x.lit id = ⟨L'.take (i + 1), k, c⟩ := by
  unfold asgS; rw [if_pos e]
  have : L'.take (i + 1) = L'.take i ++ [x] := by rw [List.take_add_one, hx]; rfl
  rw [this, hL]
  congr 2
  cases x; simp at hk hr ⊢; exact ⟨hk.symm, hr.symm⟩
theorem vis_bud {W : WC} {cl : Nat → Option (List Int)} {due : Nat → Bool} {ls ls0 : List Int} {c0 c n : Nat} (hw : WI W cl ls0 c) (hd : ∀ i, i < 52 → dueW W i = true → due i = true) : sumN (fun j => (if dueW W j = true then 1 else 0) + nc (cl j) ls c0 n) 52 ≤ sumN (bud cl due ls c0 n) 52 := sumN_le 52 fun j hj => by
  by_cases e : dueW W j = true
  · obtain ⟨cc, hc⟩ := due_some hw hj e
    rw [if_pos e, bud_some hc, hc, if_pos (hd j hj e)]; exact Nat.le_refl _
  · rw [if_neg e]
    cases hc : cl j with
    | none => simp [nc]
    | some cc => rw [bud_some hc]; omega
theorem lits_at2 {s : TS} (hok : Ok s) {i : Nat} {x : It} (hx : s.L[i]? = some x) : atL s.L (i : Int) = x.lit ∧ levV s.L (x.lit.natAbs : Int) = x.lev ∧ reaV s.L (x.lit.natAbs : Int) = x.rea := by
  have hi : i < s.L.length := by
    rcases Nat.lt_or_ge i s.L.length with q | q
    · exact q
    · rw [List.getElem?_eq_none q] at hx; cases hx
  have e1 := TI.loc hok hx
  rw [vr_abs] at e1
  refine ⟨?_, ?_, ?_⟩
  · unfold atL; rw [if_pos (by omega)]; simp [hx]
  · unfold levV; rw [e1]
  · unfold reaV; rw [e1]
theorem TI.pre {L : List It} {k c : Nat} (h : TI L k c) {i : Nat} : Con (· ∈ lits (L.take i)) := fun x h1 h2 => by
  rw [lits_take] at h1 h2
  exact con_lits h x (List.mem_of_mem_take h1) (List.mem_of_mem_take h2)
set_option maxHeartbeats 6400000 in
theorem lawful_spec (h : Heap) (tg : Nat → Nat) (A : UA) (u : US) (nb : Nat) (w : UI h tg A u nb) :
    FC Tryz.prog 31 (#[.pointer (some ⟨A.U, 0, none⟩)] : Array Value) h fun rv h' => rv = .bool true ∧ ∃ (tg' : Nat → Nat) (u' : US), UI h' tg' A u' nb ∧ u'.cl = u.cl ∧ KP tg tg' h h' := by
  try clear u0 u1 u2 u3 u4 u5 u6 u7 huok
  obtain ⟨u0, u1, u2, u3, u4, u5, u6, u7, huok⟩ := uq (w.dd)
  have hhb := w.hb
  have hlt := w.lt1
  have hok := w.wx.ok
  have hl12 := hok.len
  have hcc := hok.c
  have hll := lits_len u.s.L
  have hcon := con_lits hok
  have nUC : A.U ≠ A.C := fun e => by have h8 := w.tU; rw [e, w.tC] at h8; omega
  have nUX : A.U ≠ A.X := fun e => by have h8 := w.tU; rw [e, w.tX] at h8; omega
  have nMC : A.M ≠ A.C := fun e => by have h8 := w.tM; rw [e, w.tC] at h8; omega
  have nMX : A.M ≠ A.X := fun e => by have h8 := w.tM; rw [e, w.tX] at h8; omega
  have nMU : A.M ≠ A.U := fun e => by have h8 := w.tM; rw [e, w.tU] at h8; omega
  have nF : ∀ b, u.F b → b ≠ A.U ∧ b ≠ A.C ∧ b ≠ A.X ∧ b ≠ A.M := fun b e => by have h8 := w.tF b e; refine ⟨fun z => ?_, fun z => ?_, fun z => ?_, fun z => ?_⟩; (rw [z, w.tU] at h8; omega); (rw [z, w.tC] at h8; omega); (rw [z, w.tX] at h8; omega); (rw [z, w.tM] at h8; omega)
  have nG : ∀ b, u.G b → b ≠ A.U ∧ b ≠ A.C ∧ b ≠ A.X ∧ b ≠ A.M := fun b e => by have h8 := w.tG b e; refine ⟨fun z => ?_, fun z => ?_, fun z => ?_, fun z => ?_⟩; (rw [z, w.tU] at h8; omega); (rw [z, w.tC] at h8; omega); (rw [z, w.tX] at h8; omega); (rw [z, w.tM] at h8; omega)
  have hFl : ∀ b, u.F b → b < h.size := fun b e => w.mv.t.lt e
  have hGl : ∀ b, u.G b → b < h.size := fun b e => w.mv.lt b e
  refine FC_of [(0, .pointer (some ⟨A.U, 0, none⟩))] Tryz.func31 rfl Tryz.ntmps31 (by simp) rfl (fun R hR => ?_)
  refine V_sr T.mix (by kernel_rfl) (fun K1 hK1 => ?_)
  refine S_as rfl ?_
  refine S_nil (hK1 _ _ (V_keep [0] (by simp only [proj, lk, reduceIte, Nat.reduceEqDiff]; rfl) ?_)); clear hK1
  refine V_sr T.mix (by kernel_rfl) (fun K2 hK2 => ?_)
  refine S_mv rfl ?_
  refine S_nc rfl ?_
  first | refine S_fa0 T.f48_0 rfl ?_ | refine S_fa T.f48_0 rfl ?_
  first | refine S_fa0 T.f41_0 rfl ?_ | refine S_fa T.f41_0 rfl ?_
  refine S_ldK T.ag39 rfl (fun K' hK' => ?_)
  simp (disch := omega) only [u0, u1, u2, u3, u4, u5, u6, u7, oP_some, Nat.add_zero]
  refine hK' _ ?_; clear hK' K'
  refine S_call T.hb44 rfl ?_
  refine FC.mono (len_spec h A.X u.s u.p w.wx.t) ?_
  rintro v' h' ⟨rfl, rfl⟩
  refine S_as rfl ?_
  refine S_nil (hK2 _ _ (V_keep [0, 3] (by simp only [proj, lk, reduceIte, Nat.reduceEqDiff]; rfl) ?_)); clear hK2
  refine V_sr T.mix (by kernel_rfl) (fun K3 hK3 => ?_)
  refine S_mv rfl ?_
  refine S_nc rfl ?_
  first | refine S_fa0 T.f48_0 rfl ?_ | refine S_fa T.f48_0 rfl ?_
  first | refine S_fa0 T.f41_0 rfl ?_ | refine S_fa T.f41_0 rfl ?_
  refine S_ldK T.ag39 rfl (fun K' hK' => ?_)
  simp (disch := omega) only [u0, u1, u2, u3, u4, u5, u6, u7, oP_some, Nat.add_zero]
  refine hK' _ ?_; clear hK' K'
  refine S_call T.hb46 rfl ?_
  refine FC.mono (pending_spec h A.X u.s u.p w.wx.t) ?_
  rintro v' h' ⟨rfl, rfl⟩
  refine S_as rfl ?_
  refine S_nil (hK3 _ _ (V_keep [0, 3, 4] (by simp only [proj, lk, reduceIte, Nat.reduceEqDiff]; rfl) ?_)); clear hK3
  refine V_sr T.mix (by kernel_rfl) (fun K4 hK4 => ?_)
  refine S_mv rfl ?_
  refine S_mv rfl ?_
  refine S_subN u.s.c rfl rfl (by omega) (by omega) ?_
  refine S_as rfl ?_
  refine S_nil (hK4 _ _ (V_keep [0, 3, 5] (by simp only [proj, lk, reduceIte, Nat.reduceEqDiff]; rfl) ?_)); clear hK4
  refine V_sr T.mix (by kernel_rfl) (fun K5 hK5 => ?_)
  refine S_mv rfl ?_
  refine S_nc rfl ?_
  first | refine S_fa0 T.f48_0 rfl ?_ | refine S_fa T.f48_0 rfl ?_
  first | refine S_fa0 T.f41_0 rfl ?_ | refine S_fa T.f41_0 rfl ?_
  refine S_ldK T.ag39 rfl (fun K' hK' => ?_)
  simp (disch := omega) only [u0, u1, u2, u3, u4, u5, u6, u7, oP_some, Nat.add_zero]
  refine hK' _ ?_; clear hK' K'
  refine S_call T.hb42 rfl ?_
  refine FC.mono (level_spec h A.X u.s u.p w.wx.t) ?_
  rintro v' h' ⟨rfl, rfl⟩
  refine S_as rfl ?_
  refine S_nil (hK5 _ _ (V_keep [0, 3, 5, 6] (by simp only [proj, lk, reduceIte, Nat.reduceEqDiff]; rfl) ?_)); clear hK5
  refine V_sr T.mix (by kernel_rfl) (fun K6 hK6 => ?_)
  refine S_mv rfl ?_
  refine S_call T.hb80 rfl ?_
  refine FC.mono (on_spec h A u w.dd u.mm u.cl u.G u.F u.s w.mv) ?_
  rintro v' h1 ⟨ba, bc, rfl, hob, hE1⟩
  have w1 := w.new hE1
  have hl1 := hE1.1
  have hIb1 : IL h1 ba bc (lits u.s.L) := own0 hob
  have hbb : ∀ b, blkA ba = some b → h.size ≤ b ∧ b < h1.size := fun b e => OwnR.blk2 hob e
  refine S_as rfl ?_
  refine S_nil (hK6 _ _ (V_keep [0, 3, 5, 6, 7] (by simp only [proj, lk, reduceIte, Nat.reduceEqDiff]; rfl) ?_)); clear hK6
  refine V_sr T.mix (by kernel_rfl) (fun K7 hK7 => ?_)
  refine S_mv rfl ?_
  refine S_call T.hb16 rfl ?_
  refine FC.mono (copyints_spec h1 ba bc (lits u.s.L) hIb1 (by omega)) ?_
  rintro v' h2 ⟨oa, rfl, hIo, hE2, _, hoa⟩
  have w2 := w1.new hE2
  have hl2 := hE2.1
  have hIb2 := hIb1.ext hE2 (fun _ _ f => f)
  have hol : ∀ b, blkA oa = some b → b < h2.size := fun b e => hIo.lt e
  try clear u0 u1 u2 u3 u4 u5 u6 u7 huok
  obtain ⟨u0, u1, u2, u3, u4, u5, u6, u7, huok⟩ := uq (w2.dd)
  refine S_as rfl ?_
  refine S_nil (hK7 _ _ (V_keep [0, 3, 5, 6, 7, 8] (by simp only [proj, lk, reduceIte, Nat.reduceEqDiff]; rfl) ?_)); clear hK7
  refine V_sr T.mix (by kernel_rfl) (fun K8 hK8 => ?_)
  refine S_mv rfl ?_
  refine S_nc rfl ?_
  first | refine S_fa0 T.f48_1 rfl ?_ | refine S_fa T.f48_1 rfl ?_
  refine S_ldK T.ag42 rfl (fun K' hK' => ?_)
  simp (disch := omega) only [u0, u1, u2, u3, u4, u5, u6, u7, oP_some, Nat.add_zero]
  refine hK' _ ?_; clear hK' K'
  refine S_call T.hb81 rfl ?_
  refine FC.mono (propagate_spec h2 A.C A.X u.W u.cl u.s u.p w2.wx) ?_
  rintro v' h3 ⟨W2, s2, r, rfl, wx3, hpr, hcge, hvis, hres, hE3⟩
  have mv3 := w2.mv.ext hE3 (fun e => by rcases e with e | e; (exact nMC e); (exact nMX e)) (fun b hb e => by rcases e with e | e; (exact (nG b hb).2.1 e); (exact (nG b hb).2.2.1 e)) (fun b hb e => by rcases e with e | e; (exact (nF b hb).2.1 e); (exact (nF b hb).2.2.1 e))
  have hD3 := w2.dd.ext hE3 (fun e => by rcases e with e | e; (exact nUC e); (exact nUX e))
  have hIb3 := hIb2.ext hE3 (fun b e z => by have h9 := hbb b e; rcases z with z | z; (omega); (omega))
  have hIo3 := hIo.ext hE3 (fun b e z => by have h9 := hoa b e; rcases z with z | z; (omega); (omega))
  have hl3 := hE3.1
  have hok2 := wx3.ok
  have hl12b := hok2.len
  have hcc2 := hok2.c
  have hch := hpr.ch
  have hpk := hpr.k
  have hcl1 := hch.1
  have hsc2 : s2.L.length - (s2.L.length - s2.c) = s2.c := by omega
  try clear u0 u1 u2 u3 u4 u5 u6 u7 huok
  obtain ⟨u0, u1, u2, u3, u4, u5, u6, u7, huok⟩ := uq (hD3)
  refine S_as rfl ?_
  refine S_nil (hK8 _ _ (V_keep [0, 3, 5, 6, 7, 8, 9] (by simp only [proj, lk, reduceIte, Nat.reduceEqDiff]; rfl) ?_)); clear hK8
  refine V_sr T.mix (by kernel_rfl) (fun K9 hK9 => ?_)
  refine S_mv rfl ?_
  refine S_nc rfl ?_
  first | refine S_fa0 T.f48_6 rfl ?_ | refine S_fa T.f48_6 rfl ?_
  refine S_st T.sz4 rfl rfl rfl rfl (by simp (disch := omega) only [huok]) ?_
  generalize hh : putH _ _ _ = h4
  have hD4 : B h4 A.U (ucs A { u with kn := false }) 48 := by rw [← hh]; exact (hD3.put 7 _).cong (by simp [ucs])
  have hE4 : Ext (fun b => b = A.U) h3 h4 := by rw [← hh]; exact Ext.put _ _ rfl
  clear hh
  have wx4 := wx3.ext hE4 (fun e => nUC e.symm) (fun e => nUX e.symm)
  have mv4 := mv3.ext hE4 (fun e => nMU e) (fun b hb e => (nG b hb).1 e) (fun b hb e => (nF b hb).1 e)
  have hIb4 := hIb3.ext hE4 (fun b e z => by have h9 := hbb b e; omega)
  have hIo4 := hIo3.ext hE4 (fun b e z => by have h9 := hoa b e; omega)
  have hl4 := hE4.1
  try clear u0 u1 u2 u3 u4 u5 u6 u7 huok
  obtain ⟨u0, u1, u2, u3, u4, u5, u6, u7, huok⟩ := uq (hD4)
  refine S_nil (hK9 _ _ (V_keep [0, 3, 5, 6, 7, 8, 9] (by simp only [proj, lk, reduceIte, Nat.reduceEqDiff]; rfl) ?_)); clear hK9
  refine V_sr T.mix (by kernel_rfl) (fun K10 hK10 => ?_)
  refine S_mv rfl ?_
  refine S_nc rfl ?_
  first | refine S_fa0 T.f48_0 rfl ?_ | refine S_fa T.f48_0 rfl ?_
  first | refine S_fa0 T.f41_0 rfl ?_ | refine S_fa T.f41_0 rfl ?_
  refine S_ldK T.ag39 rfl (fun K' hK' => ?_)
  simp (disch := omega) only [u0, u1, u2, u3, u4, u5, u6, u7, oP_some, Nat.add_zero]
  refine hK' _ ?_; clear hK' K'
  refine S_call T.hb42 rfl ?_
  refine FC.mono (level_spec h4 A.X s2 u.p wx4.t) ?_
  rintro v' h' ⟨rfl, rfl⟩
  refine S_as rfl ?_
  refine S_nil (hK10 _ _ (V_keep [0, 3, 5, 6, 7, 8, 9, 10] (by simp only [proj, lk, reduceIte, Nat.reduceEqDiff]; rfl) ?_)); clear hK10
  refine V_seq (fun K11 hK11 => ?_)
  refine V_sr T.mix (by kernel_rfl) (fun K12 hK12 => ?_)
  refine S_mv rfl ?_
  refine S_mv rfl ?_
  refine S_bin rfl rfl rfl ?_
  refine S_nil (hK12 _ _ (V_keep [0, 3, 5, 6, 7, 8, 9, 67] (by simp only [proj, lk, reduceIte, Nat.reduceEqDiff]; rfl) ?_)); clear hK12
  refine V_condp rfl (fun c351 => ?_) (fun c351 => ?_)
  · skip
    exfalso; exact c351 (by rw [hpk])
  · skip
    refine V_skipk [0, 3, 5, 6, 7, 8, 9] (by simp only [proj, lk, reduceIte, Nat.reduceEqDiff]; rfl) ?_
    refine hK11 _ _ ?_; clear hK11
    refine V_sr T.mix (by kernel_rfl) (fun K13 hK13 => ?_)
    refine S_mv rfl ?_
    refine S_nc rfl ?_
    first | refine S_fa0 T.f48_0 rfl ?_ | refine S_fa T.f48_0 rfl ?_
    first | refine S_fa0 T.f41_0 rfl ?_ | refine S_fa T.f41_0 rfl ?_
    refine S_ldK T.ag39 rfl (fun K' hK' => ?_)
    simp (disch := omega) only [u0, u1, u2, u3, u4, u5, u6, u7, oP_some, Nat.add_zero]
    refine hK' _ ?_; clear hK' K'
    refine S_call T.hb44 rfl ?_
    refine FC.mono (len_spec h4 A.X s2 u.p wx4.t) ?_
    rintro v' h' ⟨rfl, rfl⟩
    refine S_as rfl ?_
    refine S_nil (hK13 _ _ (V_keep [0, 3, 5, 6, 7, 8, 9, 11] (by simp only [proj, lk, reduceIte, Nat.reduceEqDiff]; rfl) ?_)); clear hK13
    refine V_seq (fun K14 hK14 => ?_)
    refine V_sr T.mix (by kernel_rfl) (fun K15 hK15 => ?_)
    refine S_mv rfl ?_
    refine S_mv rfl ?_
    refine S_bin rfl rfl rfl ?_
    refine S_nil (hK15 _ _ (V_keep [0, 3, 5, 6, 7, 8, 9, 11, 76] (by simp only [proj, lk, reduceIte, Nat.reduceEqDiff]; rfl) ?_)); clear hK15
    refine V_condp rfl (fun c355 => ?_) (fun c355 => ?_)
    · skip
      exfalso; omega
    · skip
      refine V_skipk [0, 3, 5, 6, 7, 8, 9, 11] (by simp only [proj, lk, reduceIte, Nat.reduceEqDiff]; rfl) ?_
      refine hK14 _ _ ?_; clear hK14
      refine V_seq (fun K16 hK16 => ?_)
      refine V_sr T.mix (by kernel_rfl) (fun K17 hK17 => ?_)
      refine S_as rfl ?_
      refine S_nil (hK17 _ _ (V_keep [0, 3, 5, 6, 7, 8, 9, 11, 12] (by simp only [proj, lk, reduceIte, Nat.reduceEqDiff]; rfl) ?_)); clear hK17
      refine V_block ?_
      refine V_loop (fun m l h' => ∃ (i : Nat), (i ≤ u.s.L.length) ∧ m = u.s.L.length - i ∧ l = [(0, .pointer (some ⟨A.U, 0, none⟩)), (3, .int .i64 (u.s.L.length : Int)), (5, .int .i64 (u.s.c : Int)), (6, .int .i64 (u.s.k : Int)), (7, .slice ba (lits u.s.L).length bc), (8, .slice oa (lits u.s.L).length (lits u.s.L).length), (9, .int .i64 r), (11, .int .i64 (s2.L.length : Int)), (12, .int .i64 (i : Int))] ∧ h4 = h') _ ⟨0, by omega, rfl, rfl, rfl⟩ ?_
      rintro m l h' ⟨i, hi, rfl, rfl, rfl⟩ K18 hK18
      refine V_seq (fun K19 hK19 => ?_)
      refine V_sr T.mix (by kernel_rfl) (fun K20 hK20 => ?_)
      refine S_mv rfl ?_
      refine S_mv rfl ?_
      refine S_bin rfl rfl rfl ?_
      refine S_nil (hK20 _ _ (V_keep [0, 3, 5, 6, 7, 8, 9, 11, 12, 79] (by simp only [proj, lk, reduceIte, Nat.reduceEqDiff]; rfl) ?_)); clear hK20
      refine V_condp rfl (fun c358 => ?_) (fun c358 => ?_)
      · skip
        refine V_skipk [0, 3, 5, 6, 7, 8, 9, 11, 12] (by simp only [proj, lk, reduceIte, Nat.reduceEqDiff]; rfl) ?_
        refine hK19 _ _ ?_; clear hK19
        refine V_seq (fun K21 hK21 => ?_)
        refine V_block ?_
        refine V_sr T.mix (by kernel_rfl) (fun K22 hK22 => ?_)
        refine S_mv rfl ?_
        refine S_nc rfl ?_
        first | refine S_fa0 T.f48_0 rfl ?_ | refine S_fa T.f48_0 rfl ?_
        first | refine S_fa0 T.f41_0 rfl ?_ | refine S_fa T.f41_0 rfl ?_
        refine S_ldK T.ag39 rfl (fun K' hK' => ?_)
        simp (disch := omega) only [u0, u1, u2, u3, u4, u5, u6, u7, oP_some, Nat.add_zero]
        refine hK' _ ?_; clear hK' K'
        refine S_mv rfl ?_
        refine S_call T.hb56 rfl ?_
        refine FC.mono (at_spec h4 A.X s2 u.p wx4.t (i : Int)) ?_
        rintro v' h' ⟨rfl, rfl⟩
        refine S_as rfl ?_
        refine S_nil (hK22 _ _ (V_keep [0, 3, 5, 6, 7, 8, 9, 11, 12, 13] (by simp only [proj, lk, reduceIte, Nat.reduceEqDiff]; rfl) ?_)); clear hK22
        refine V_sr T.mix (by kernel_rfl) (fun K23 hK23 => ?_)
        refine S_mv rfl ?_
        refine S_nc rfl ?_
        first | refine S_fa0 T.f48_2 rfl ?_ | refine S_fa T.f48_2 rfl ?_
        first | refine S_fa0 T.f46_0 rfl ?_ | refine S_fa T.f46_0 rfl ?_
        refine S_ldK T.ag43 rfl (fun K' hK' => ?_)
        simp (disch := omega) only [u0, u1, u2, u3, u4, u5, u6, u7, oP_some, Nat.add_zero]
        refine hK' _ ?_; clear hK' K'
        refine S_mv rfl ?_
        refine S_call T.hb57 rfl ?_
        refine FC.mono (mat_spec h4 A.Y u.F u.s mv4.t (i : Int)) ?_
        rintro v' h' ⟨rfl, rfl⟩
        refine S_as rfl ?_
        refine S_nil (hK23 _ _ (V_keep [0, 3, 5, 6, 7, 8, 9, 11, 12, 13, 14] (by simp only [proj, lk, reduceIte, Nat.reduceEqDiff]; rfl) ?_)); clear hK23
        refine V_sr T.mix (by kernel_rfl) (fun K24 hK24 => ?_)
        refine S_mv rfl ?_
        refine S_mv rfl ?_
        refine S_bin rfl rfl rfl ?_
        refine S_nil (hK24 _ _ (V_keep [0, 3, 5, 6, 7, 8, 9, 11, 12, 98] (by simp only [proj, lk, reduceIte, Nat.reduceEqDiff]; rfl) ?_)); clear hK24
        refine V_condp rfl (fun c361 => ?_) (fun c361 => ?_)
        · skip
          exfalso; apply c361; unfold atL; rw [if_pos (by omega), if_pos (by omega), Int.toNat_natCast, List.getD_eq_getElem?_getD, List.getD_eq_getElem?_getD, hch.at (by omega)]
        · skip
          refine V_skipk [0, 3, 5, 6, 7, 8, 9, 11, 12] (by simp only [proj, lk, reduceIte, Nat.reduceEqDiff]; rfl) ?_
          refine hK21 _ _ ?_; clear hK21
          refine V_reg T.mix (by kernel_rfl) ?_
          refine S_mv rfl ?_
          first | refine S_add rfl rfl (by omega) (by omega) ?_ | refine S_bin rfl rfl rfl ?_
          refine S_as rfl ?_
          refine S_nilk [0, 3, 5, 6, 7, 8, 9, 11, 12] (by simp only [proj, lk, reduceIte, Nat.reduceEqDiff]; rfl) ?_
          exact hK18 _ _ ⟨_, by omega, i + 1, by omega, rfl, rfl, rfl⟩
      · skip
        refine V_exitk [0, 3, 5, 6, 7, 8, 9, 11] rfl (by simp only [proj, lk, reduceIte, Nat.reduceEqDiff]; rfl) ?_
        refine hK16 _ _ ?_; clear hK16
        refine V_seq (fun K25 hK25 => ?_)
        refine V_sr T.mix (by kernel_rfl) (fun K26 hK26 => ?_)
        refine S_mv rfl ?_
        refine S_as rfl ?_
        refine S_nil (hK26 _ _ (V_keep [0, 5, 6, 7, 8, 9, 11, 15] (by simp only [proj, lk, reduceIte, Nat.reduceEqDiff]; rfl) ?_)); clear hK26
        refine V_block ?_
        refine V_loop (fun m l h' => ∃ (i : Nat) (hk : Heap) (Fk : Nat → Prop) (oa2 : Option Addr) (oc2 : Nat) (on : List Int), (u.s.L.length ≤ i) ∧ (i ≤ s2.L.length) ∧ (MV hk A.M A.Y u.mm u.cl u.G Fk ⟨s2.L.take i, u.s.k, u.s.c⟩) ∧ (∀ b, Fk b → u.F b ∨ h4.size ≤ b) ∧ (on = (lits (s2.L.take i))) ∧ (OwnR h1.size hk oa2 on.length oc2 (ints on) 3 1) ∧ (∀ b, blkA oa2 = some b → ¬ Fk b) ∧ (Ext (fun b => u.F b ∨ h1.size ≤ b) h4 hk) ∧ m = s2.L.length - i ∧ l = [(0, .pointer (some ⟨A.U, 0, none⟩)), (5, .int .i64 (u.s.c : Int)), (6, .int .i64 (u.s.k : Int)), (7, .slice ba (lits u.s.L).length bc), (8, .slice oa2 on.length oc2), (9, .int .i64 r), (11, .int .i64 (s2.L.length : Int)), (15, .int .i64 (i : Int))] ∧ hk = h') _ ⟨u.s.L.length, h4, u.F, oa, (lits u.s.L).length, lits u.s.L, Nat.le_refl _, hcl1, by rw [hch.2.1]; exact mv4, fun b e => .inl e, by rw [hch.2.1], by rcases hIo4 with q | ⟨bq, cq, q1, q2, q3⟩; (exact .inl q); (exact .inr ⟨bq, cq, q1, hoa bq (by rw [q1]; rfl), q3⟩), fun b e z => by have h9 := hoa b e; have h8 := hFl b z; omega, Ext.refl _ _, rfl, rfl, rfl⟩ ?_
        rintro m l h' ⟨i, hk, Fk, oa2, oc2, on, hi1, hi2, mvk, hFk, hone, hon, hoF, hEk, rfl, rfl, rfl⟩ K27 hK27
        subst hone
        have hsk := hEk.1
        have nXF : ¬ (u.F A.X ∨ h1.size ≤ A.X) := fun e => by rcases e with e | e; (exact (nF _ e).2.2.1 rfl); (omega)
        have hDk := hD4.ext hEk (fun e => by rcases e with e | e; (exact (nF _ e).1 rfl); (omega))
        have hnl : (lits (s2.L.take i)).length ≤ 12 := by rw [lits_len, List.length_take]; omega
        try clear u0 u1 u2 u3 u4 u5 u6 u7 huok
        obtain ⟨u0, u1, u2, u3, u4, u5, u6, u7, huok⟩ := uq (hDk)
        refine V_seq (fun K28 hK28 => ?_)
        refine V_sr T.mix (by kernel_rfl) (fun K29 hK29 => ?_)
        refine S_mv rfl ?_
        refine S_mv rfl ?_
        refine S_bin rfl rfl rfl ?_
        refine S_nil (hK29 _ _ (V_keep [0, 5, 6, 7, 8, 9, 11, 15, 102] (by simp only [proj, lk, reduceIte, Nat.reduceEqDiff]; rfl) ?_)); clear hK29
        refine V_condp rfl (fun c365 => ?_) (fun c365 => ?_)
        · skip
          obtain ⟨x, hx⟩ : ∃ x, s2.L[i]? = some x := ⟨s2.L[i], List.getElem?_eq_getElem (by omega)⟩
          obtain ⟨x1, x2, x3⟩ := lits_at2 hok2 hx
          obtain ⟨xk, id, cc, hid, xr, hcl, xm, xn1, xn2, xo⟩ := hch.2.2 i x hi1 hx
          have hxg : gd x.lit := gd_lits hok2 (mem_idx.2 ⟨i, lits_at hx⟩)
          have hxg2 := hxg
          unfold gd at hxg2
          refine V_skipk [0, 5, 6, 7, 8, 9, 11, 15] (by simp only [proj, lk, reduceIte, Nat.reduceEqDiff]; rfl) ?_
          refine hK28 _ _ ?_; clear hK28
          refine V_seq (fun K30 hK30 => ?_)
          refine V_block ?_
          refine V_sr T.mix (by kernel_rfl) (fun K31 hK31 => ?_)
          refine S_mv rfl ?_
          refine S_nc rfl ?_
          first | refine S_fa0 T.f48_0 rfl ?_ | refine S_fa T.f48_0 rfl ?_
          first | refine S_fa0 T.f41_0 rfl ?_ | refine S_fa T.f41_0 rfl ?_
          refine S_ldK T.ag39 rfl (fun K' hK' => ?_)
          simp (disch := omega) only [u0, u1, u2, u3, u4, u5, u6, u7, oP_some, Nat.add_zero]
          refine hK' _ ?_; clear hK' K'
          refine S_mv rfl ?_
          refine S_call T.hb56 rfl ?_
          refine FC.mono (at_spec hk A.X s2 u.p (wx4.t.ext hEk (fun e => nXF e)) (i : Int)) ?_
          rintro v' h' ⟨rfl, rfl⟩
          rw [x1]
          refine S_as rfl ?_
          refine S_nil (hK31 _ _ (V_keep [0, 5, 6, 7, 8, 9, 11, 15, 16] (by simp only [proj, lk, reduceIte, Nat.reduceEqDiff]; rfl) ?_)); clear hK31
          refine V_sr T.mix (by kernel_rfl) (fun K32 hK32 => ?_)
          refine S_mv rfl ?_
          refine S_call T.hb82 rfl ?_
          refine FC.mono (var_spec _ (x.lit) (by omega) (by omega)) ?_
          rintro v' h' ⟨rfl, rfl⟩
          refine S_as rfl ?_
          refine S_nil (hK32 _ _ (V_keep [0, 5, 6, 7, 8, 9, 11, 15, 16, 17] (by simp only [proj, lk, reduceIte, Nat.reduceEqDiff]; rfl) ?_)); clear hK32
          refine V_sr T.mix (by kernel_rfl) (fun K33 hK33 => ?_)
          refine S_mv rfl ?_
          refine S_nc rfl ?_
          first | refine S_fa0 T.f48_0 rfl ?_ | refine S_fa T.f48_0 rfl ?_
          first | refine S_fa0 T.f41_0 rfl ?_ | refine S_fa T.f41_0 rfl ?_
          refine S_ldK T.ag39 rfl (fun K' hK' => ?_)
          simp (disch := omega) only [u0, u1, u2, u3, u4, u5, u6, u7, oP_some, Nat.add_zero]
          refine hK' _ ?_; clear hK' K'
          refine S_mv rfl ?_
          refine S_call T.hb50 rfl ?_
          refine FC.mono (levelof_spec hk A.X s2 u.p (wx4.t.ext hEk (fun e => nXF e)) (x.lit.natAbs : Int)) ?_
          rintro v' h' ⟨rfl, rfl⟩
          rw [x2, xk]
          refine S_as rfl ?_
          refine S_nil (hK33 _ _ (V_keep [0, 5, 6, 7, 8, 9, 11, 15, 16, 17, 18] (by simp only [proj, lk, reduceIte, Nat.reduceEqDiff]; rfl) ?_)); clear hK33
          refine V_seq (fun K34 hK34 => ?_)
          refine V_sr T.mix (by kernel_rfl) (fun K35 hK35 => ?_)
          refine S_mv rfl ?_
          refine S_mv rfl ?_
          refine S_bin rfl rfl rfl ?_
          refine S_nil (hK35 _ _ (V_keep [0, 5, 6, 7, 8, 9, 11, 15, 16, 17, 123] (by simp only [proj, lk, reduceIte, Nat.reduceEqDiff]; rfl) ?_)); clear hK35
          refine V_condp rfl (fun c369 => ?_) (fun c369 => ?_)
          · skip
            exfalso; exact c369 rfl
          · skip
            refine V_skipk [0, 5, 6, 7, 8, 9, 11, 15, 16, 17] (by simp only [proj, lk, reduceIte, Nat.reduceEqDiff]; rfl) ?_
            refine hK34 _ _ ?_; clear hK34
            refine V_sr T.mix (by kernel_rfl) (fun K36 hK36 => ?_)
            refine S_mv rfl ?_
            refine S_nc rfl ?_
            first | refine S_fa0 T.f48_0 rfl ?_ | refine S_fa T.f48_0 rfl ?_
            first | refine S_fa0 T.f41_0 rfl ?_ | refine S_fa T.f41_0 rfl ?_
            refine S_ldK T.ag39 rfl (fun K' hK' => ?_)
            simp (disch := omega) only [u0, u1, u2, u3, u4, u5, u6, u7, oP_some, Nat.add_zero]
            refine hK' _ ?_; clear hK' K'
            refine S_mv rfl ?_
            refine S_call T.hb52 rfl ?_
            refine FC.mono (reason_spec hk A.X s2 u.p (wx4.t.ext hEk (fun e => nXF e)) (x.lit.natAbs : Int)) ?_
            rintro v' h' ⟨rfl, rfl⟩
            rw [x3, xr]
            refine S_as rfl ?_
            refine S_nil (hK36 _ _ (V_keep [0, 5, 6, 7, 8, 9, 11, 15, 16, 19] (by simp only [proj, lk, reduceIte, Nat.reduceEqDiff]; rfl) ?_)); clear hK36
            refine V_seq (fun K37 hK37 => ?_)
            refine V_sr T.mix (by kernel_rfl) (fun K38 hK38 => ?_)
            refine S_mv rfl ?_
            refine S_mv rfl ?_
            refine S_mv rfl ?_
            refine S_mv rfl ?_
            refine S_call T.hb83 rfl ?_
            refine FC.mono (is_spec hk A _ hDk u.mm u.cl u.G Fk _ mvk id hid cc hcl oa2 oc2 (lits (s2.L.take i)) (own0 hon) (by omega) (TI.pre hok2) 0 x.lit (fun a b H => H.unit (TI.pre hok2) xm xn1 xn2 xo)) ?_
            rintro v' h5 ⟨rfl, hE5⟩
            refine S_notb rfl ?_
            refine S_nil (hK38 _ _ (V_keep [0, 5, 6, 7, 8, 9, 11, 15, 16, 19, 136] (by simp only [proj, lk, reduceIte, Nat.reduceEqDiff]; rfl) ?_)); clear hK38
            refine V_condb rfl (fun c373 => ?_) (fun c373 => ?_)
            · skip
              cases c373
            · skip
              refine V_skipk [0, 5, 6, 7, 8, 9, 11, 15, 16, 19] (by simp only [proj, lk, reduceIte, Nat.reduceEqDiff]; rfl) ?_
              refine hK37 _ _ ?_; clear hK37
              refine V_sr T.mix (by kernel_rfl) (fun K39 hK39 => ?_)
              refine S_mv rfl ?_
              refine S_mv rfl ?_
              refine S_bs T.ei33 rfl (by decide) (by decide) (T.bs33_1_0 _) ?_
              have hs5 := hE5.1
              refine S_appx (lo := h1.size) T.ei33 T.ni33 T.us33 rfl rfl rfl (OwnR.ext (OwnR.ext hon hE5 (fun _ _ f => f)) (Ext.push (fun _ => False) _ _) (fun _ _ f => f)) (by simp; omega) (cellsH_new _ _ _) rfl (by omega) (by decide) (by decide) rfl (fun a6 c6 h6 ho6 hE6x hb6x => ?_)
              have hE6 : Ext (fun z => blkA oa2 = some z) h5 h6 := (Ext.push _ _ _).trans hE6x
              have hb6 := new_blk2 (h := h5) hb6x (by simp)
              have hon6 : OwnR h1.size h6 a6 ((lits (s2.L.take i)) ++ [x.lit]).length c6 (ints ((lits (s2.L.take i)) ++ [x.lit])) 3 1 := by rw [ints_snoc, List.length_append]; exact ho6
              have hs6 := hE6.1
              have mv6 := (mvk.ext hE5 (fun f => f) (fun _ _ f => f) (fun _ _ f => f)).ext hE6 (fun e => by have h9 := (OwnR.blk2 hon e).1; omega) (fun b hb e => by have h9 := (OwnR.blk2 hon e).1; have h8 := hGl b hb; omega) (fun b hb e => hoF b e hb)
              try clear u0 u1 u2 u3 u4 u5 u6 u7 huok
              obtain ⟨u0, u1, u2, u3, u4, u5, u6, u7, huok⟩ := uq ((hDk.ext hE5 (fun f => f)).ext hE6 (fun e => by have h9 := (OwnR.blk2 hon e).1; omega))
              refine S_as rfl ?_
              refine S_nil (hK39 _ _ (V_keep [0, 5, 6, 7, 8, 9, 11, 15, 16, 19] (by simp only [proj, lk, reduceIte, Nat.reduceEqDiff]; rfl) ?_)); clear hK39
              refine V_sr T.mix (by kernel_rfl) (fun K40 hK40 => ?_)
              refine S_mv rfl ?_
              refine S_nc rfl ?_
              first | refine S_fa0 T.f48_2 rfl ?_ | refine S_fa T.f48_2 rfl ?_
              first | refine S_fa0 T.f46_1 rfl ?_ | refine S_fa T.f46_1 rfl ?_
              refine S_ldK T.ag44 rfl (fun K' hK' => ?_)
              simp (disch := omega) only [u0, u1, u2, u3, u4, u5, u6, u7, oP_some, Nat.add_zero]
              refine hK' _ ?_; clear hK' K'
              refine S_mv rfl ?_
              refine S_mv rfl ?_
              refine S_call T.hb84 rfl ?_
              refine FC.mono (imply_spec h6 A.M A.Y u.mm u.cl u.G Fk _ mv6 x.lit id hid cc hcl xm xn1 xn2 xo) ?_
              rintro v' h7 ⟨rfl, F7, mv7, hE7, hF7⟩
              have hx0 : valO (⟨s2.L.take i, u.s.k, u.s.c⟩ : TS) x.lit = 0 := by rcases vO3 (s := (⟨s2.L.take i, u.s.k, u.s.c⟩ : TS)) hxg with q | q | q; (exact absurd q.2 xn1); (exact absurd q.2 xn2); (exact q.1)
              have hao := asg_one mv6.t.ok hid hcl xm hxg hx0 xo
              have hs7 := asg_eq (cl := u.cl) (c := u.s.c) (L := s2.L.take i) rfl hx xk xr hao.1
              have hon7 := OwnR.ext hon6 hE7 (fun b e z => by rcases hb6 b (by rw [e]; rfl) with t | t; (exact hoF b t z); (have h8 := mvk.t.lt z; omega))
              have hEk7 : Ext (fun b => u.F b ∨ h1.size ≤ b) h4 h7 := ((hEk.trans (hE5.mono fun _ f => f.elim)).trans (hE6.mono fun b e => .inr (OwnR.blk2 hon e).1)).trans (hE7.mono fun b e => by rcases hFk b e with q | q; (exact .inl q); (exact .inr (by omega)))
              refine S_as rfl ?_
              refine S_nil (hK40 _ _ (V_keep [0, 5, 6, 7, 8, 9, 11, 15, 20] (by simp only [proj, lk, reduceIte, Nat.reduceEqDiff]; rfl) ?_)); clear hK40
              refine V_sr T.mix (by kernel_rfl) (fun K41 hK41 => ?_)
              refine S_mv rfl ?_
              refine S_bin rfl rfl rfl ?_
              refine S_nil (hK41 _ _ (V_keep [0, 5, 6, 7, 8, 9, 11, 15, 150] (by simp only [proj, lk, reduceIte, Nat.reduceEqDiff]; rfl) ?_)); clear hK41
              refine V_condp rfl (fun c378 => ?_) (fun c378 => ?_)
              · skip
                exfalso; exact c378 rfl
              · skip
                refine V_skipk [0, 5, 6, 7, 8, 9, 11, 15] (by simp only [proj, lk, reduceIte, Nat.reduceEqDiff]; rfl) ?_
                refine hK30 _ _ ?_; clear hK30
                refine V_reg T.mix (by kernel_rfl) ?_
                refine S_mv rfl ?_
                first | refine S_add rfl rfl (by omega) (by omega) ?_ | refine S_bin rfl rfl rfl ?_
                refine S_as rfl ?_
                refine S_nilk [0, 5, 6, 7, 8, 9, 11, 15] (by simp only [proj, lk, reduceIte, Nat.reduceEqDiff]; rfl) ?_
                exact hK27 _ _ ⟨_, by omega, i + 1, h7, F7, a6, c6, (lits (s2.L.take i)) ++ [x.lit], by omega, by omega, (by rw [hs7] at mv7; exact mv7), (fun b e => by rcases hF7 b e with q | q; (exact hFk b q); (exact .inr (by omega))), (by rw [← lits_app]; congr 1; rw [List.take_add_one, hx]; rfl), hon7, (fun b e z => by have h9 := (OwnR.blk2 hon6 e).2; rcases hF7 b z with q | q; (rcases hb6 b e with t | t; (exact hoF b t q); (have h8 := mvk.t.lt q; omega)); (omega)), hEk7, rfl, by simp, rfl⟩
        · skip
          have hi2e : i = s2.L.length := by omega
          refine V_exitk [0, 5, 7, 8, 9, 11] rfl (by simp only [proj, lk, reduceIte, Nat.reduceEqDiff]; rfl) ?_
          refine hK25 _ _ ?_; clear hK25
          refine V_sr T.mix (by kernel_rfl) (fun K42 hK42 => ?_)
          refine S_mv rfl ?_
          refine S_nc rfl ?_
          first | refine S_fa0 T.f48_0 rfl ?_ | refine S_fa T.f48_0 rfl ?_
          first | refine S_fa0 T.f41_0 rfl ?_ | refine S_fa T.f41_0 rfl ?_
          refine S_ldK T.ag39 rfl (fun K' hK' => ?_)
          simp (disch := omega) only [u0, u1, u2, u3, u4, u5, u6, u7, oP_some, Nat.add_zero]
          refine hK' _ ?_; clear hK' K'
          refine S_call T.hb46 rfl ?_
          refine FC.mono (pending_spec hk A.X s2 u.p (wx4.t.ext hEk (fun e => nXF e))) ?_
          rintro v' h' ⟨rfl, rfl⟩
          rw [show (s2.L.length : Int) - s2.c = ((s2.L.length - s2.c : Nat) : Int) by omega]
          refine S_as rfl ?_
          refine S_nil (hK42 _ _ (V_keep [0, 5, 7, 8, 9, 11, 21] (by simp only [proj, lk, reduceIte, Nat.reduceEqDiff]; rfl) ?_)); clear hK42
          refine V_seq (fun K43 hK43 => ?_)
          refine V_sr T.mix (by kernel_rfl) (fun K44 hK44 => ?_)
          refine S_mv rfl ?_
          refine S_bin rfl rfl rfl ?_
          refine S_mv rfl ?_
          refine S_dec (fun g383 => ?_) (fun g383 => ?_)
          · skip
            exfalso; omega
          · skip
            refine S_gt rfl ?_
            refine S_mv rfl ?_
            refine S_gt rfl ?_
            refine S_mv rfl ?_
            refine S_gt rfl ?_
            refine S_mv rfl ?_
            refine S_gt rfl ?_
            first | refine S_sub rfl rfl (by omega) (by omega) ?_ | refine S_bin rfl rfl rfl ?_
            refine S_gt rfl ?_
            refine S_bin rfl rfl rfl ?_
            refine S_pf rfl rfl ?_
            refine S_nil (hK44 _ _ (V_keep [0, 5, 7, 8, 9, 21, 165] (by simp only [proj, lk, reduceIte, Nat.reduceEqDiff]; rfl) ?_)); clear hK44
            refine V_condp rfl (fun c383 => ?_) (fun c383 => ?_)
            · skip
              exfalso; omega
            · skip
              refine V_skipk [0, 5, 7, 8, 9, 21] (by simp only [proj, lk, reduceIte, Nat.reduceEqDiff]; rfl) ?_
              refine hK43 _ _ ?_; clear hK43
              refine V_seq (fun K45 hK45 => ?_)
              refine V_sr T.mix (by kernel_rfl) (fun K46 hK46 => ?_)
              refine S_mv rfl ?_
              refine S_bin rfl rfl rfl ?_
              refine S_mv rfl ?_
              refine S_dec (fun g386 => ?_) (fun g386 => ?_)
              · skip
                refine S_gt rfl ?_
                refine S_mv rfl ?_
                refine S_gt rfl ?_
                refine S_bin rfl rfl rfl ?_
                refine S_gt rfl ?_
                refine S_mv rfl ?_
                refine S_dec (fun g386a => ?_) (fun g386a => ?_)
                · skip
                  exfalso; rcases hres with q | ⟨_, _, q, _⟩; (exact g386a q.1); (omega)
                · skip
                  refine S_gt rfl ?_
                  refine S_mv rfl ?_
                  refine S_gt rfl ?_
                  refine S_bin rfl rfl rfl ?_
                  refine S_gt rfl ?_
                  refine S_pf rfl rfl ?_
                  refine S_pt rfl rfl ?_
                  refine S_nil (hK46 _ _ (V_keep [0, 5, 7, 8, 9, 21, 175] (by simp only [proj, lk, reduceIte, Nat.reduceEqDiff]; rfl) ?_)); clear hK46
                  refine V_condp rfl (fun c386 => ?_) (fun c386 => ?_)
                  · skip
                    exfalso; rcases hres with q | ⟨_, _, q, _⟩; (omega); (omega)
                  · skip
                    refine V_skipk [0, 5, 7, 8, 9, 21] (by simp only [proj, lk, reduceIte, Nat.reduceEqDiff]; rfl) ?_
                    refine hK45 _ _ ?_; clear hK45
                    refine V_seqJ (fun l h' => ∃ (h8 : Heap), (Ext (fun _ => False) hk h8) ∧ l = [(0, .pointer (some ⟨A.U, 0, none⟩)), (5, .int .i64 (u.s.c : Int)), (7, .slice ba (lits u.s.L).length bc), (9, .int .i64 r), (21, .int .i64 ((s2.L.length - s2.c : Nat) : Int))] ∧ h8 = h') ?_ ?_
                    · skip
                      refine V_sr T.mix (by kernel_rfl) (fun K48 hK48 => ?_)
                      refine S_mv rfl ?_
                      refine S_bin rfl rfl rfl ?_
                      refine S_nil (hK48 _ _ (V_keep [0, 5, 7, 8, 9, 21, 177] (by simp only [proj, lk, reduceIte, Nat.reduceEqDiff]; rfl) ?_)); clear hK48
                      refine V_condp rfl (fun c389 => ?_) (fun c389 => ?_)
                      · skip
                        have hcon2 : ∃ id : Nat, id < 52 ∧ r = id ∧ ∃ c, u.cl id = some c ∧ ∀ y ∈ c, -y ∈ lits s2.L := by
                          obtain ⟨id, q1, q2, q3, _⟩ := hres.resolve_left (fun q => by omega)
                          exact ⟨id, q1, q2, q3⟩
                        refine V_sr T.mix (by kernel_rfl) (fun K49 hK49 => ?_)
                        refine S_mv rfl ?_
                        refine S_mv rfl ?_
                        refine S_mv rfl ?_
                        refine S_call T.hb83 rfl ?_
                        obtain ⟨id, hid, hrid, cc, hcl, haf⟩ := hcon2
                        have hcall := is_spec hk A _ hDk u.mm u.cl u.G Fk _ mvk id hid cc hcl oa2 oc2 (lits (s2.L.take i)) (own0 hon) (by omega) (TI.pre hok2) (-1) 0 (fun a b H => H.bad (TI.pre hok2) (by rw [hi2e, List.take_length]; exact haf))
                        rw [← hrid] at hcall
                        refine FC.mono hcall ?_
                        rintro v' h8 ⟨rfl, hE8⟩
                        refine S_notb rfl ?_
                        refine S_nil (hK49 _ _ (V_keep [0, 5, 7, 9, 21, 182] (by simp only [proj, lk, reduceIte, Nat.reduceEqDiff]; rfl) ?_)); clear hK49
                        refine V_condb rfl (fun c390 => ?_) (fun c390 => ?_)
                        · skip
                          cases c390
                        · skip
                          refine V_skipk [0, 5, 7, 9, 21] (by simp only [proj, lk, reduceIte, Nat.reduceEqDiff]; rfl) ?_
                          exact ⟨h8, hE8, rfl, rfl⟩
                      · skip
                        refine V_skipk [0, 5, 7, 9, 21] (by simp only [proj, lk, reduceIte, Nat.reduceEqDiff]; rfl) ?_
                        exact ⟨hk, Ext.refl _ _, rfl, rfl⟩
                    rintro l h' ⟨h8, hE8, rfl, rfl⟩
                    have mv8 : MV h8 A.M A.Y u.mm u.cl u.G Fk ⟨s2.L, u.s.k, u.s.c⟩ := by have h9 := mvk.ext hE8 (fun f => f) (fun _ _ f => f) (fun _ _ f => f); rw [hi2e, List.take_length] at h9; exact h9
                    have hD8 := hDk.ext hE8 (fun f => f)
                    have wx8 := (wx4.ext hEk (fun e => by rcases e with e | e; (exact (nF _ e).2.1 rfl); (omega)) nXF).ext hE8 (fun f => f) (fun f => f)
                    have hIb8 := (hIb4.ext hEk (fun b e z => by have h9 := hbb b e; rcases z with z | z; (have h8 := hFl b z; omega); (omega))).ext hE8 (fun _ _ f => f)
                    have hsz8 := hE8.1
                    have hres8 : (r = -1 ∧ s2.L.length - s2.c = 0 ∧ ∀ j, j < 52 → ∀ cc, u.cl j = some cc → Done (· ∈ lits s2.L) cc) ∨ ∃ id : Nat, id < 52 ∧ r = id ∧ AF u.cl id (lits s2.L) := by
                      rcases hres with ⟨q1, q2, _, q4⟩ | ⟨id, q1, q2, q3, _⟩
                      · exact .inl ⟨q1, by omega, q4⟩
                      · exact .inr ⟨id, q1, q2, q3⟩
                    try clear u0 u1 u2 u3 u4 u5 u6 u7 huok
                    obtain ⟨u0, u1, u2, u3, u4, u5, u6, u7, huok⟩ := uq (hD8)
                    refine V_seq (fun K50 hK50 => ?_)
                    refine V_sr T.mix (by kernel_rfl) (fun K51 hK51 => ?_)
                    refine S_mv rfl ?_
                    refine S_nc rfl ?_
                    first | refine S_fa0 T.f48_2 rfl ?_ | refine S_fa T.f48_2 rfl ?_
                    first | refine S_fa0 T.f46_1 rfl ?_ | refine S_fa T.f46_1 rfl ?_
                    refine S_ldK T.ag44 rfl (fun K' hK' => ?_)
                    simp (disch := omega) only [u0, u1, u2, u3, u4, u5, u6, u7, oP_some, Nat.add_zero]
                    refine hK' _ ?_; clear hK' K'
                    refine S_mv rfl ?_
                    refine S_mv rfl ?_
                    refine S_mv rfl ?_
                    refine S_call T.hb85 rfl ?_
                    refine FC.mono (ends_spec h8 A.M A.Y u.mm u.cl u.G Fk ⟨s2.L, u.s.k, u.s.c⟩ mv8 r u.s.c (s2.L.length - s2.c) (by exact Nat.le_refl _) (by simp only []; omega) hres8) ?_
                    rintro v' h9 ⟨rfl, mz, F9, mv9, hsn, hdue, hE9, hF9⟩
                    have hs2 : (⟨s2.L, u.s.k, s2.L.length - (s2.L.length - s2.c)⟩ : TS) = s2 := by rw [← hpk, hsc2]
                    rw [show (⟨(⟨s2.L, u.s.k, u.s.c⟩ : TS).L, (⟨s2.L, u.s.k, u.s.c⟩ : TS).k, (⟨s2.L, u.s.k, u.s.c⟩ : TS).L.length - (s2.L.length - s2.c)⟩ : TS) = s2 from hs2] at mv9
                    simp only [] at hsn hdue
                    have hD9 := hD8.ext hE9 (fun e => by rcases e with e | e; (exact nMU e.symm); (rcases hFk _ e with q | q; (exact (nF _ q).1 rfl); (omega)))
                    have wx9 := wx8.ext hE9 (fun e => by rcases e with e | e; (exact nMC e.symm); (rcases hFk _ e with q | q; (exact (nF _ q).2.1 rfl); (omega))) (fun e => by rcases e with e | e; (exact nMX e.symm); (rcases hFk _ e with q | q; (exact (nF _ q).2.2.1 rfl); (omega)))
                    have hIb9 := hIb8.ext hE9 (fun b e z => by have h9 := hbb b e; rcases z with z | z; (omega); (rcases hFk _ z with q | q; (have h8 := hFl _ q; omega); (omega)))
                    try clear u0 u1 u2 u3 u4 u5 u6 u7 huok
                    obtain ⟨u0, u1, u2, u3, u4, u5, u6, u7, huok⟩ := uq (hD9)
                    refine S_notb rfl ?_
                    refine S_nil (hK51 _ _ (V_keep [0, 7, 9, 192] (by simp only [proj, lk, reduceIte, Nat.reduceEqDiff]; rfl) ?_)); clear hK51
                    refine V_condb rfl (fun c394 => ?_) (fun c394 => ?_)
                    · skip
                      cases c394
                    · skip
                      refine V_skipk [0, 7, 9] (by simp only [proj, lk, reduceIte, Nat.reduceEqDiff]; rfl) ?_
                      refine hK50 _ _ ?_; clear hK50
                      refine V_sr T.mix (by kernel_rfl) (fun K52 hK52 => ?_)
                      refine S_mv rfl ?_
                      refine S_call T.hb86 rfl ?_
                      refine FC.mono (live_spec h9 A _ hD9 mz u.cl u.G F9 s2 mv9) ?_
                      rintro v' h10 ⟨la, lc, rfl, hlv, hE10⟩
                      have hlL := liveL_len u.cl
                      have hmL := fun c => mem_liveL (c := c) w.mv.r
                      refine S_as rfl ?_
                      refine S_nil (hK52 _ _ (V_keep [0, 7, 9, 22] (by simp only [proj, lk, reduceIte, Nat.reduceEqDiff]; rfl) ?_)); clear hK52
                      refine V_sr T.mix (by kernel_rfl) (fun K53 hK53 => ?_)
                      refine S_mv rfl ?_
                      refine S_mv rfl ?_
                      refine S_call T.hb87 rfl ?_
                      refine FC.mono (closure_spec h10 la lc _ _ (liveL u.cl) hlv (fun c hc => by obtain ⟨i, q1, q2⟩ := (hmL c).1 hc; exact (w.mv.r.c i q1 c q2).1) (by omega) ba bc (lits u.s.L) (hIb9.ext hE10 (fun _ _ f => f)) (by omega) (fun x hx => gd_lits hok hx) hcon (nodup_lits hok)) ?_
                      rintro v' h11 ⟨ta, tc, out, g, rfl, hIt, htl, hgb, hgf, hE11⟩
                      have hD11 := (hD9.ext hE10 (fun f => f)).ext hE11 (fun f => f)
                      have mv11 := (mv9.ext hE10 (fun f => f) (fun _ _ f => f) (fun _ _ f => f)).ext hE11 (fun f => f) (fun _ _ f => f) (fun _ _ f => f)
                      have wx11 := (wx9.ext hE10 (fun f => f) (fun f => f)).ext hE11 (fun f => f) (fun f => f)
                      have hsnd := hch.snd' (R := liveL u.cl) (fun id c q1 q2 => (hmL c).2 ⟨id, q1, q2⟩)
                      have hgr : g = decide (0 ≤ r) := by
                        rcases hres with ⟨q1, _, _, q4⟩ | ⟨id, q1, q2, ⟨cc, q3, q4⟩, _⟩
                        · rw [decide_eq_false (by omega)]
                          cases e : g with
                          | false => rfl
                          | true => exact absurd ⟨(· ∈ lits s2.L), fun x hx => hch.sub hx, con_lits hok2, fun c hc => by obtain ⟨i, z1, z2⟩ := (hmL c).1 hc; exact q4 i z1 c z2⟩ (hgb.1 e)
                        · rw [decide_eq_true (by omega)]
                          exact hgb.2 (snd_hit hsnd ((hmL cc).2 ⟨id, q1, q3⟩) q4)
                      refine S_mv rfl ?_
                      refine S_ex rfl rfl ?_
                      refine S_ex rfl rfl ?_
                      refine S_as rfl ?_
                      refine S_as rfl ?_
                      refine S_nil (hK53 _ _ (V_keep [0, 9, 23, 24] (by simp only [proj, lk, reduceIte, Nat.reduceEqDiff]; rfl) ?_)); clear hK53
                      refine V_seq (fun K54 hK54 => ?_)
                      refine V_sr T.mix (by kernel_rfl) (fun K55 hK55 => ?_)
                      refine S_mv rfl ?_
                      refine S_mv rfl ?_
                      refine S_bin rfl rfl rfl ?_
                      refine S_bin rfl rfl (by simp only [binV, T.kd4]; rfl) ?_
                      refine S_nil (hK55 _ _ (V_keep [0, 9, 23, 204] (by simp only [proj, lk, reduceIte, Nat.reduceEqDiff]; rfl) ?_)); clear hK55
                      refine V_condp rfl (fun c399 => ?_) (fun c399 => ?_)
                      · skip
                        exfalso; rw [hgr] at c399; simp at c399
                      · skip
                        refine V_skipk [0, 9, 23] (by simp only [proj, lk, reduceIte, Nat.reduceEqDiff]; rfl) ?_
                        refine hK54 _ _ ?_; clear hK54
                        refine V_seq (fun K56 hK56 => ?_)
                        refine V_sr T.mix (by kernel_rfl) (fun K57 hK57 => ?_)
                        refine S_mv rfl ?_
                        refine S_bin rfl rfl rfl ?_
                        refine S_nil (hK57 _ _ (V_keep [0, 23, 206] (by simp only [proj, lk, reduceIte, Nat.reduceEqDiff]; rfl) ?_)); clear hK57
                        refine V_condp rfl (fun c402 => ?_) (fun c402 => ?_)
                        · skip
                          refine V_sr T.mix (by kernel_rfl) (fun K58 hK58 => ?_)
                          refine S_mv rfl ?_
                          refine S_call T.hb80 rfl ?_
                          refine FC.mono (on_spec h11 A _ hD11 mz u.cl u.G F9 s2 mv11) ?_
                          rintro v' h12 ⟨na, nc2, rfl, hna, hE12⟩
                          refine S_as rfl ?_
                          refine S_nil (hK58 _ _ (V_keep [23, 25] (by simp only [proj, lk, reduceIte, Nat.reduceEqDiff]; rfl) ?_)); clear hK58
                          refine V_sr T.mix (by kernel_rfl) (fun K59 hK59 => ?_)
                          refine S_mv rfl ?_
                          refine S_mv rfl ?_
                          refine S_call T.hb88 rfl ?_
                          obtain ⟨q1, _, _, q4⟩ := hres.resolve_right (fun ⟨q, _, e, _⟩ => by omega)
                          obtain ⟨t1, t2, t3, t4, t5, t6⟩ := hgf (by rw [hgr, decide_eq_false (by omega)])
                          have hsub : ∀ x, x ∈ out ↔ x ∈ lits s2.L := fun x => ⟨fun e => t4 (· ∈ lits s2.L) (fun y hy => hch.sub hy) (con_lits hok2) (fun c hc => by obtain ⟨i, z1, z2⟩ := (hmL c).1 hc; exact q4 i z1 c z2) x e, fun e => hsnd (· ∈ out) t5 t3 t6 x e⟩
                          refine FC.mono (sameset_spec h12 ta na _ _ out (lits s2.L) (hIt.ext hE12 (fun _ _ f => f)) (own0 hna) (by omega) (same_len t1 (nodup_lits hok2) hsub) (fun x hx => (hsub x).1 hx) t2 (con_lits hok2)) ?_
                          rintro v' h' ⟨rfl, rfl⟩
                          refine S_notb rfl ?_
                          refine S_nil (hK59 _ _ (V_keep [212] (by simp only [proj, lk, reduceIte, Nat.reduceEqDiff]; rfl) ?_)); clear hK59
                          refine V_condb rfl (fun c404 => ?_) (fun c404 => ?_)
                          · skip
                            cases c404
                          · skip
                            refine V_skipk [] (by simp only [proj, lk, reduceIte, Nat.reduceEqDiff]; rfl) ?_
                            refine hK56 _ _ ?_; clear hK56
                            refine V_sr T.mix (by kernel_rfl) (fun K60 hK60 => ?_)
                            refine S_as rfl ?_
                            refine S_nil (hK60 _ _ (V_keep [2] (by simp only [proj, lk, reduceIte, Nat.reduceEqDiff]; rfl) ?_)); clear hK60
                            refine V_ret ?_
                            refine hR _ _ (ret1 rfl rfl ?_)
                            have hDz := hD11.ext hE12 (fun f => f)
                            have wxz := wx11.ext hE12 (fun f => f) (fun f => f)
                            have mvz := mv11.ext hE12 (fun f => f) (fun _ _ f => f) (fun _ _ f => f)
                            have hEt : Ext (fun b => tg b ≠ 0 ∧ tg b ≤ 5) h h12 := by
                              have e3 : Ext (fun b => tg b ≠ 0 ∧ tg b ≤ 5) h h4 := (((hE1.trans hE2).mono fun _ f => f.elim).step hE3 (fun b hb e => by rcases e with e | e; (rw [e, w.tC]; omega); (rw [e, w.tX]; omega))).step hE4 (fun b hb e => by rw [e, w.tU]; omega)
                              have e8 := (e3.step hEk (fun b hb e => by rcases e with e | e; (rw [w.tF b e]; omega); (omega))).step hE8 (fun b hb f => f.elim)
                              have e9 := e8.step hE9 (fun b hb e => by rcases e with e | e; (rw [e, w.tM]; omega); (rcases hFk b e with q | q; (rw [w.tF b q]; omega); (omega)))
                              exact ((e9.step hE10 (fun b hb f => f.elim)).step hE11 (fun b hb f => f.elim)).step hE12 (fun b hb f => f.elim)
                            obtain ⟨tg2, w9, ht2, _⟩ := w.turn hEt (fun b e => e.2) hDz wxz mvz (fun b e => by rcases hF9 b e with q | q; (rcases hFk b q with t | t; (exact .inl t); (exact .inr (by omega))); (exact .inr (by omega))) (fun b e => .inl e) (fun j hj e => by
                              rcases hres with ⟨q1, _, q3, _⟩ | ⟨id, q1, q2, _, q4⟩
                              · obtain ⟨cc, z1, q, z2⟩ := q3 j hj e
                                exact hdue j hj cc z1 (.inr (slk_tg (w.mv.r.c j hj cc z1).1.nodup z2))
                              · rcases q4 j hj e with t | ⟨cc, z1, q, z2⟩
                                · obtain ⟨cc, z1⟩ := due_some w.wx.i hj t
                                  exact hdue j hj cc z1 (.inl ⟨by omega, w.du j hj t⟩)
                                · exact hdue j hj cc z1 (.inr (slk_tg (w.mv.r.c j hj cc z1).1.nodup z2))) (by rw [hsn]; exact Nat.le_trans hvis (vis_bud w.wx.i w.du)) (by rw [hsn]; have h9 := bud_sum u.cl u.mm.due (lits s2.L) u.s.c s2.L.length 52 (by omega) (by omega); omega) (fun e => by cases e) w.pp
                            exact ⟨rfl, tg2, _, w9, rfl, hEt.mono (fun b e => e.1), fun b hb e => by rw [ht2 b hb]; exact e⟩
                        · skip
                          refine V_skipk [] (by simp only [proj, lk, reduceIte, Nat.reduceEqDiff]; rfl) ?_
                          refine hK56 _ _ ?_; clear hK56
                          refine V_sr T.mix (by kernel_rfl) (fun K61 hK61 => ?_)
                          refine S_as rfl ?_
                          refine S_nil (hK61 _ _ (V_keep [2] (by simp only [proj, lk, reduceIte, Nat.reduceEqDiff]; rfl) ?_)); clear hK61
                          refine V_ret ?_
                          refine hR _ _ (ret1 rfl rfl ?_)
                          have hDz := hD11
                          have wxz := wx11
                          have mvz := mv11
                          have hEt : Ext (fun b => tg b ≠ 0 ∧ tg b ≤ 5) h h11 := by
                            have e3 : Ext (fun b => tg b ≠ 0 ∧ tg b ≤ 5) h h4 := (((hE1.trans hE2).mono fun _ f => f.elim).step hE3 (fun b hb e => by rcases e with e | e; (rw [e, w.tC]; omega); (rw [e, w.tX]; omega))).step hE4 (fun b hb e => by rw [e, w.tU]; omega)
                            have e8 := (e3.step hEk (fun b hb e => by rcases e with e | e; (rw [w.tF b e]; omega); (omega))).step hE8 (fun b hb f => f.elim)
                            have e9 := e8.step hE9 (fun b hb e => by rcases e with e | e; (rw [e, w.tM]; omega); (rcases hFk b e with q | q; (rw [w.tF b q]; omega); (omega)))
                            exact (e9.step hE10 (fun b hb f => f.elim)).step hE11 (fun b hb f => f.elim)
                          obtain ⟨tg2, w9, ht2, _⟩ := w.turn hEt (fun b e => e.2) hDz wxz mvz (fun b e => by rcases hF9 b e with q | q; (rcases hFk b q with t | t; (exact .inl t); (exact .inr (by omega))); (exact .inr (by omega))) (fun b e => .inl e) (fun j hj e => by
                            rcases hres with ⟨q1, _, q3, _⟩ | ⟨id, q1, q2, _, q4⟩
                            · obtain ⟨cc, z1, q, z2⟩ := q3 j hj e
                              exact hdue j hj cc z1 (.inr (slk_tg (w.mv.r.c j hj cc z1).1.nodup z2))
                            · rcases q4 j hj e with t | ⟨cc, z1, q, z2⟩
                              · obtain ⟨cc, z1⟩ := due_some w.wx.i hj t
                                exact hdue j hj cc z1 (.inl ⟨by omega, w.du j hj t⟩)
                              · exact hdue j hj cc z1 (.inr (slk_tg (w.mv.r.c j hj cc z1).1.nodup z2))) (by rw [hsn]; exact Nat.le_trans hvis (vis_bud w.wx.i w.du)) (by rw [hsn]; have h9 := bud_sum u.cl u.mm.due (lits s2.L) u.s.c s2.L.length 52 (by omega) (by omega); omega) (fun e => by cases e) w.pp
                          exact ⟨rfl, tg2, _, w9, rfl, hEt.mono (fun b e => e.1), fun b hb e => by rw [ht2 b hb]; exact e⟩
              · skip
                refine S_gf rfl ?_
                refine S_gf rfl ?_
                refine S_gf rfl ?_
                refine S_gf rfl ?_
                refine S_gf rfl ?_
                refine S_gf rfl ?_
                refine S_pf rfl rfl ?_
                refine S_nil (hK46 _ _ (V_keep [0, 5, 7, 8, 9, 21, 175] (by simp only [proj, lk, reduceIte, Nat.reduceEqDiff]; rfl) ?_)); clear hK46
                refine V_condf rfl ?_
                refine V_skipk [0, 5, 7, 8, 9, 21] (by simp only [proj, lk, reduceIte, Nat.reduceEqDiff]; rfl) ?_
                refine hK45 _ _ ?_; clear hK45
                refine V_seqJ (fun l h' => ∃ (h8 : Heap), (Ext (fun _ => False) hk h8) ∧ l = [(0, .pointer (some ⟨A.U, 0, none⟩)), (5, .int .i64 (u.s.c : Int)), (7, .slice ba (lits u.s.L).length bc), (9, .int .i64 r), (21, .int .i64 ((s2.L.length - s2.c : Nat) : Int))] ∧ h8 = h') ?_ ?_
                · skip
                  refine V_sr T.mix (by kernel_rfl) (fun K63 hK63 => ?_)
                  refine S_mv rfl ?_
                  refine S_bin rfl rfl rfl ?_
                  refine S_nil (hK63 _ _ (V_keep [0, 5, 7, 8, 9, 21, 177] (by simp only [proj, lk, reduceIte, Nat.reduceEqDiff]; rfl) ?_)); clear hK63
                  refine V_condp rfl (fun c389a => ?_) (fun c389a => ?_)
                  · skip
                    have hcon2 : ∃ id : Nat, id < 52 ∧ r = id ∧ ∃ c, u.cl id = some c ∧ ∀ y ∈ c, -y ∈ lits s2.L := by
                      obtain ⟨id, q1, q2, q3, _⟩ := hres.resolve_left (fun q => by omega)
                      exact ⟨id, q1, q2, q3⟩
                    refine V_sr T.mix (by kernel_rfl) (fun K64 hK64 => ?_)
                    refine S_mv rfl ?_
                    refine S_mv rfl ?_
                    refine S_mv rfl ?_
                    refine S_call T.hb83 rfl ?_
                    obtain ⟨id, hid, hrid, cc, hcl, haf⟩ := hcon2
                    have hcall := is_spec hk A _ hDk u.mm u.cl u.G Fk _ mvk id hid cc hcl oa2 oc2 (lits (s2.L.take i)) (own0 hon) (by omega) (TI.pre hok2) (-1) 0 (fun a b H => H.bad (TI.pre hok2) (by rw [hi2e, List.take_length]; exact haf))
                    rw [← hrid] at hcall
                    refine FC.mono hcall ?_
                    rintro v' h8 ⟨rfl, hE8⟩
                    refine S_notb rfl ?_
                    refine S_nil (hK64 _ _ (V_keep [0, 5, 7, 9, 21, 182] (by simp only [proj, lk, reduceIte, Nat.reduceEqDiff]; rfl) ?_)); clear hK64
                    refine V_condb rfl (fun c390a => ?_) (fun c390a => ?_)
                    · skip
                      cases c390a
                    · skip
                      refine V_skipk [0, 5, 7, 9, 21] (by simp only [proj, lk, reduceIte, Nat.reduceEqDiff]; rfl) ?_
                      exact ⟨h8, hE8, rfl, rfl⟩
                  · skip
                    refine V_skipk [0, 5, 7, 9, 21] (by simp only [proj, lk, reduceIte, Nat.reduceEqDiff]; rfl) ?_
                    exact ⟨hk, Ext.refl _ _, rfl, rfl⟩
                rintro l h' ⟨h8, hE8, rfl, rfl⟩
                have mv8 : MV h8 A.M A.Y u.mm u.cl u.G Fk ⟨s2.L, u.s.k, u.s.c⟩ := by have h9 := mvk.ext hE8 (fun f => f) (fun _ _ f => f) (fun _ _ f => f); rw [hi2e, List.take_length] at h9; exact h9
                have hD8 := hDk.ext hE8 (fun f => f)
                have wx8 := (wx4.ext hEk (fun e => by rcases e with e | e; (exact (nF _ e).2.1 rfl); (omega)) nXF).ext hE8 (fun f => f) (fun f => f)
                have hIb8 := (hIb4.ext hEk (fun b e z => by have h9 := hbb b e; rcases z with z | z; (have h8 := hFl b z; omega); (omega))).ext hE8 (fun _ _ f => f)
                have hsz8 := hE8.1
                have hres8 : (r = -1 ∧ s2.L.length - s2.c = 0 ∧ ∀ j, j < 52 → ∀ cc, u.cl j = some cc → Done (· ∈ lits s2.L) cc) ∨ ∃ id : Nat, id < 52 ∧ r = id ∧ AF u.cl id (lits s2.L) := by
                  rcases hres with ⟨q1, q2, _, q4⟩ | ⟨id, q1, q2, q3, _⟩
                  · exact .inl ⟨q1, by omega, q4⟩
                  · exact .inr ⟨id, q1, q2, q3⟩
                try clear u0 u1 u2 u3 u4 u5 u6 u7 huok
                obtain ⟨u0, u1, u2, u3, u4, u5, u6, u7, huok⟩ := uq (hD8)
                refine V_seq (fun K65 hK65 => ?_)
                refine V_sr T.mix (by kernel_rfl) (fun K66 hK66 => ?_)
                refine S_mv rfl ?_
                refine S_nc rfl ?_
                first | refine S_fa0 T.f48_2 rfl ?_ | refine S_fa T.f48_2 rfl ?_
                first | refine S_fa0 T.f46_1 rfl ?_ | refine S_fa T.f46_1 rfl ?_
                refine S_ldK T.ag44 rfl (fun K' hK' => ?_)
                simp (disch := omega) only [u0, u1, u2, u3, u4, u5, u6, u7, oP_some, Nat.add_zero]
                refine hK' _ ?_; clear hK' K'
                refine S_mv rfl ?_
                refine S_mv rfl ?_
                refine S_mv rfl ?_
                refine S_call T.hb85 rfl ?_
                refine FC.mono (ends_spec h8 A.M A.Y u.mm u.cl u.G Fk ⟨s2.L, u.s.k, u.s.c⟩ mv8 r u.s.c (s2.L.length - s2.c) (by exact Nat.le_refl _) (by simp only []; omega) hres8) ?_
                rintro v' h9 ⟨rfl, mz, F9, mv9, hsn, hdue, hE9, hF9⟩
                have hs2 : (⟨s2.L, u.s.k, s2.L.length - (s2.L.length - s2.c)⟩ : TS) = s2 := by rw [← hpk, hsc2]
                rw [show (⟨(⟨s2.L, u.s.k, u.s.c⟩ : TS).L, (⟨s2.L, u.s.k, u.s.c⟩ : TS).k, (⟨s2.L, u.s.k, u.s.c⟩ : TS).L.length - (s2.L.length - s2.c)⟩ : TS) = s2 from hs2] at mv9
                simp only [] at hsn hdue
                have hD9 := hD8.ext hE9 (fun e => by rcases e with e | e; (exact nMU e.symm); (rcases hFk _ e with q | q; (exact (nF _ q).1 rfl); (omega)))
                have wx9 := wx8.ext hE9 (fun e => by rcases e with e | e; (exact nMC e.symm); (rcases hFk _ e with q | q; (exact (nF _ q).2.1 rfl); (omega))) (fun e => by rcases e with e | e; (exact nMX e.symm); (rcases hFk _ e with q | q; (exact (nF _ q).2.2.1 rfl); (omega)))
                have hIb9 := hIb8.ext hE9 (fun b e z => by have h9 := hbb b e; rcases z with z | z; (omega); (rcases hFk _ z with q | q; (have h8 := hFl _ q; omega); (omega)))
                try clear u0 u1 u2 u3 u4 u5 u6 u7 huok
                obtain ⟨u0, u1, u2, u3, u4, u5, u6, u7, huok⟩ := uq (hD9)
                refine S_notb rfl ?_
                refine S_nil (hK66 _ _ (V_keep [0, 7, 9, 192] (by simp only [proj, lk, reduceIte, Nat.reduceEqDiff]; rfl) ?_)); clear hK66
                refine V_condb rfl (fun c394a => ?_) (fun c394a => ?_)
                · skip
                  cases c394a
                · skip
                  refine V_skipk [0, 7, 9] (by simp only [proj, lk, reduceIte, Nat.reduceEqDiff]; rfl) ?_
                  refine hK65 _ _ ?_; clear hK65
                  refine V_sr T.mix (by kernel_rfl) (fun K67 hK67 => ?_)
                  refine S_mv rfl ?_
                  refine S_call T.hb86 rfl ?_
                  refine FC.mono (live_spec h9 A _ hD9 mz u.cl u.G F9 s2 mv9) ?_
                  rintro v' h10 ⟨la, lc, rfl, hlv, hE10⟩
                  have hlL := liveL_len u.cl
                  have hmL := fun c => mem_liveL (c := c) w.mv.r
                  refine S_as rfl ?_
                  refine S_nil (hK67 _ _ (V_keep [0, 7, 9, 22] (by simp only [proj, lk, reduceIte, Nat.reduceEqDiff]; rfl) ?_)); clear hK67
                  refine V_sr T.mix (by kernel_rfl) (fun K68 hK68 => ?_)
                  refine S_mv rfl ?_
                  refine S_mv rfl ?_
                  refine S_call T.hb87 rfl ?_
                  refine FC.mono (closure_spec h10 la lc _ _ (liveL u.cl) hlv (fun c hc => by obtain ⟨i, q1, q2⟩ := (hmL c).1 hc; exact (w.mv.r.c i q1 c q2).1) (by omega) ba bc (lits u.s.L) (hIb9.ext hE10 (fun _ _ f => f)) (by omega) (fun x hx => gd_lits hok hx) hcon (nodup_lits hok)) ?_
                  rintro v' h11 ⟨ta, tc, out, g, rfl, hIt, htl, hgb, hgf, hE11⟩
                  have hD11 := (hD9.ext hE10 (fun f => f)).ext hE11 (fun f => f)
                  have mv11 := (mv9.ext hE10 (fun f => f) (fun _ _ f => f) (fun _ _ f => f)).ext hE11 (fun f => f) (fun _ _ f => f) (fun _ _ f => f)
                  have wx11 := (wx9.ext hE10 (fun f => f) (fun f => f)).ext hE11 (fun f => f) (fun f => f)
                  have hsnd := hch.snd' (R := liveL u.cl) (fun id c q1 q2 => (hmL c).2 ⟨id, q1, q2⟩)
                  have hgr : g = decide (0 ≤ r) := by
                    rcases hres with ⟨q1, _, _, q4⟩ | ⟨id, q1, q2, ⟨cc, q3, q4⟩, _⟩
                    · rw [decide_eq_false (by omega)]
                      cases e : g with
                      | false => rfl
                      | true => exact absurd ⟨(· ∈ lits s2.L), fun x hx => hch.sub hx, con_lits hok2, fun c hc => by obtain ⟨i, z1, z2⟩ := (hmL c).1 hc; exact q4 i z1 c z2⟩ (hgb.1 e)
                    · rw [decide_eq_true (by omega)]
                      exact hgb.2 (snd_hit hsnd ((hmL cc).2 ⟨id, q1, q3⟩) q4)
                  refine S_mv rfl ?_
                  refine S_ex rfl rfl ?_
                  refine S_ex rfl rfl ?_
                  refine S_as rfl ?_
                  refine S_as rfl ?_
                  refine S_nil (hK68 _ _ (V_keep [0, 9, 23, 24] (by simp only [proj, lk, reduceIte, Nat.reduceEqDiff]; rfl) ?_)); clear hK68
                  refine V_seq (fun K69 hK69 => ?_)
                  refine V_sr T.mix (by kernel_rfl) (fun K70 hK70 => ?_)
                  refine S_mv rfl ?_
                  refine S_mv rfl ?_
                  refine S_bin rfl rfl rfl ?_
                  refine S_bin rfl rfl (by simp only [binV, T.kd4]; rfl) ?_
                  refine S_nil (hK70 _ _ (V_keep [0, 9, 23, 204] (by simp only [proj, lk, reduceIte, Nat.reduceEqDiff]; rfl) ?_)); clear hK70
                  refine V_condp rfl (fun c399a => ?_) (fun c399a => ?_)
                  · skip
                    exfalso; rw [hgr] at c399a; simp at c399a
                  · skip
                    refine V_skipk [0, 9, 23] (by simp only [proj, lk, reduceIte, Nat.reduceEqDiff]; rfl) ?_
                    refine hK69 _ _ ?_; clear hK69
                    refine V_seq (fun K71 hK71 => ?_)
                    refine V_sr T.mix (by kernel_rfl) (fun K72 hK72 => ?_)
                    refine S_mv rfl ?_
                    refine S_bin rfl rfl rfl ?_
                    refine S_nil (hK72 _ _ (V_keep [0, 23, 206] (by simp only [proj, lk, reduceIte, Nat.reduceEqDiff]; rfl) ?_)); clear hK72
                    refine V_condp rfl (fun c402a => ?_) (fun c402a => ?_)
                    · skip
                      refine V_sr T.mix (by kernel_rfl) (fun K73 hK73 => ?_)
                      refine S_mv rfl ?_
                      refine S_call T.hb80 rfl ?_
                      refine FC.mono (on_spec h11 A _ hD11 mz u.cl u.G F9 s2 mv11) ?_
                      rintro v' h12 ⟨na, nc2, rfl, hna, hE12⟩
                      refine S_as rfl ?_
                      refine S_nil (hK73 _ _ (V_keep [23, 25] (by simp only [proj, lk, reduceIte, Nat.reduceEqDiff]; rfl) ?_)); clear hK73
                      refine V_sr T.mix (by kernel_rfl) (fun K74 hK74 => ?_)
                      refine S_mv rfl ?_
                      refine S_mv rfl ?_
                      refine S_call T.hb88 rfl ?_
                      obtain ⟨q1, _, _, q4⟩ := hres.resolve_right (fun ⟨q, _, e, _⟩ => by omega)
                      obtain ⟨t1, t2, t3, t4, t5, t6⟩ := hgf (by rw [hgr, decide_eq_false (by omega)])
                      have hsub : ∀ x, x ∈ out ↔ x ∈ lits s2.L := fun x => ⟨fun e => t4 (· ∈ lits s2.L) (fun y hy => hch.sub hy) (con_lits hok2) (fun c hc => by obtain ⟨i, z1, z2⟩ := (hmL c).1 hc; exact q4 i z1 c z2) x e, fun e => hsnd (· ∈ out) t5 t3 t6 x e⟩
                      refine FC.mono (sameset_spec h12 ta na _ _ out (lits s2.L) (hIt.ext hE12 (fun _ _ f => f)) (own0 hna) (by omega) (same_len t1 (nodup_lits hok2) hsub) (fun x hx => (hsub x).1 hx) t2 (con_lits hok2)) ?_
                      rintro v' h' ⟨rfl, rfl⟩
                      refine S_notb rfl ?_
                      refine S_nil (hK74 _ _ (V_keep [212] (by simp only [proj, lk, reduceIte, Nat.reduceEqDiff]; rfl) ?_)); clear hK74
                      refine V_condb rfl (fun c404a => ?_) (fun c404a => ?_)
                      · skip
                        cases c404a
                      · skip
                        refine V_skipk [] (by simp only [proj, lk, reduceIte, Nat.reduceEqDiff]; rfl) ?_
                        refine hK71 _ _ ?_; clear hK71
                        refine V_sr T.mix (by kernel_rfl) (fun K75 hK75 => ?_)
                        refine S_as rfl ?_
                        refine S_nil (hK75 _ _ (V_keep [2] (by simp only [proj, lk, reduceIte, Nat.reduceEqDiff]; rfl) ?_)); clear hK75
                        refine V_ret ?_
                        refine hR _ _ (ret1 rfl rfl ?_)
                        have hDz := hD11.ext hE12 (fun f => f)
                        have wxz := wx11.ext hE12 (fun f => f) (fun f => f)
                        have mvz := mv11.ext hE12 (fun f => f) (fun _ _ f => f) (fun _ _ f => f)
                        have hEt : Ext (fun b => tg b ≠ 0 ∧ tg b ≤ 5) h h12 := by
                          have e3 : Ext (fun b => tg b ≠ 0 ∧ tg b ≤ 5) h h4 := (((hE1.trans hE2).mono fun _ f => f.elim).step hE3 (fun b hb e => by rcases e with e | e; (rw [e, w.tC]; omega); (rw [e, w.tX]; omega))).step hE4 (fun b hb e => by rw [e, w.tU]; omega)
                          have e8 := (e3.step hEk (fun b hb e => by rcases e with e | e; (rw [w.tF b e]; omega); (omega))).step hE8 (fun b hb f => f.elim)
                          have e9 := e8.step hE9 (fun b hb e => by rcases e with e | e; (rw [e, w.tM]; omega); (rcases hFk b e with q | q; (rw [w.tF b q]; omega); (omega)))
                          exact ((e9.step hE10 (fun b hb f => f.elim)).step hE11 (fun b hb f => f.elim)).step hE12 (fun b hb f => f.elim)
                        obtain ⟨tg2, w9, ht2, _⟩ := w.turn hEt (fun b e => e.2) hDz wxz mvz (fun b e => by rcases hF9 b e with q | q; (rcases hFk b q with t | t; (exact .inl t); (exact .inr (by omega))); (exact .inr (by omega))) (fun b e => .inl e) (fun j hj e => by
                          rcases hres with ⟨q1, _, q3, _⟩ | ⟨id, q1, q2, _, q4⟩
                          · obtain ⟨cc, z1, q, z2⟩ := q3 j hj e
                            exact hdue j hj cc z1 (.inr (slk_tg (w.mv.r.c j hj cc z1).1.nodup z2))
                          · rcases q4 j hj e with t | ⟨cc, z1, q, z2⟩
                            · obtain ⟨cc, z1⟩ := due_some w.wx.i hj t
                              exact hdue j hj cc z1 (.inl ⟨by omega, w.du j hj t⟩)
                            · exact hdue j hj cc z1 (.inr (slk_tg (w.mv.r.c j hj cc z1).1.nodup z2))) (by rw [hsn]; exact Nat.le_trans hvis (vis_bud w.wx.i w.du)) (by rw [hsn]; have h9 := bud_sum u.cl u.mm.due (lits s2.L) u.s.c s2.L.length 52 (by omega) (by omega); omega) (fun e => by cases e) w.pp
                        exact ⟨rfl, tg2, _, w9, rfl, hEt.mono (fun b e => e.1), fun b hb e => by rw [ht2 b hb]; exact e⟩
                    · skip
                      refine V_skipk [] (by simp only [proj, lk, reduceIte, Nat.reduceEqDiff]; rfl) ?_
                      refine hK71 _ _ ?_; clear hK71
                      refine V_sr T.mix (by kernel_rfl) (fun K76 hK76 => ?_)
                      refine S_as rfl ?_
                      refine S_nil (hK76 _ _ (V_keep [2] (by simp only [proj, lk, reduceIte, Nat.reduceEqDiff]; rfl) ?_)); clear hK76
                      refine V_ret ?_
                      refine hR _ _ (ret1 rfl rfl ?_)
                      have hDz := hD11
                      have wxz := wx11
                      have mvz := mv11
                      have hEt : Ext (fun b => tg b ≠ 0 ∧ tg b ≤ 5) h h11 := by
                        have e3 : Ext (fun b => tg b ≠ 0 ∧ tg b ≤ 5) h h4 := (((hE1.trans hE2).mono fun _ f => f.elim).step hE3 (fun b hb e => by rcases e with e | e; (rw [e, w.tC]; omega); (rw [e, w.tX]; omega))).step hE4 (fun b hb e => by rw [e, w.tU]; omega)
                        have e8 := (e3.step hEk (fun b hb e => by rcases e with e | e; (rw [w.tF b e]; omega); (omega))).step hE8 (fun b hb f => f.elim)
                        have e9 := e8.step hE9 (fun b hb e => by rcases e with e | e; (rw [e, w.tM]; omega); (rcases hFk b e with q | q; (rw [w.tF b q]; omega); (omega)))
                        exact (e9.step hE10 (fun b hb f => f.elim)).step hE11 (fun b hb f => f.elim)
                      obtain ⟨tg2, w9, ht2, _⟩ := w.turn hEt (fun b e => e.2) hDz wxz mvz (fun b e => by rcases hF9 b e with q | q; (rcases hFk b q with t | t; (exact .inl t); (exact .inr (by omega))); (exact .inr (by omega))) (fun b e => .inl e) (fun j hj e => by
                        rcases hres with ⟨q1, _, q3, _⟩ | ⟨id, q1, q2, _, q4⟩
                        · obtain ⟨cc, z1, q, z2⟩ := q3 j hj e
                          exact hdue j hj cc z1 (.inr (slk_tg (w.mv.r.c j hj cc z1).1.nodup z2))
                        · rcases q4 j hj e with t | ⟨cc, z1, q, z2⟩
                          · obtain ⟨cc, z1⟩ := due_some w.wx.i hj t
                            exact hdue j hj cc z1 (.inl ⟨by omega, w.du j hj t⟩)
                          · exact hdue j hj cc z1 (.inr (slk_tg (w.mv.r.c j hj cc z1).1.nodup z2))) (by rw [hsn]; exact Nat.le_trans hvis (vis_bud w.wx.i w.du)) (by rw [hsn]; have h9 := bud_sum u.cl u.mm.due (lits s2.L) u.s.c s2.L.length 52 (by omega) (by omega); omega) (fun e => by cases e) w.pp
                      exact ⟨rfl, tg2, _, w9, rfl, hEt.mono (fun b e => e.1), fun b hb e => by rw [ht2 b hb]; exact e⟩
end Go.Proofs.Qxb6500403aGreat
