import Derived.Test.Qxb6500401aGreatXc
set_option linter.unusedVariables false
set_option linter.unusedSimpArgs false
namespace Go.Proofs.Qxb6500401aGreat
open Go.Eng Go.Trl Go.Chk Go.Wat

theorem vO3 {s : TS} {x : Int} (hg : gd x) : (valO s x = 1 ∧ x ∈ lits s.L) ∨ (valO s x = -1 ∧ -x ∈ lits s.L) ∨ (valO s x = 0 ∧ x ∉ lits s.L ∧ -x ∉ lits s.L) := by
  unfold valO; rw [if_pos (show x ≠ 0 ∧ -12 ≤ x ∧ x ≤ 12 from hg)]; exact val3 hg
theorem sw_val {lz : Nat → Int} {id p q j : Nat} {x y : Int} : upI (upI lz (id * 12 + p) x) (id * 12 + q) y (id * 12 + j) = if j = q then y else if j = p then x else lz (id * 12 + j) := by rw [upI_in, upI_in]
theorem sw_arr {lz : Nat → Int} {id n p q : Nat} {cc : List Int} (h : Arr (fun j => lz (id * 12 + j)) n cc) (hp : p < n) (hq : q < n) : Arr (fun j => upI (upI lz (id * 12 + p) (lz (id * 12 + q))) (id * 12 + q) (lz (id * 12 + p)) (id * 12 + j)) n cc :=
  (h.swap hp hq).ext fun j hj => by rw [sw_val]; rfl
theorem sw_oth {lz : Nat → Int} {f : Nat → Int} {id p q : Nat} {x y : Int} (hp : p < 12) (hq : q < 12) (h : ∀ j, (j < id * 12 ∨ id * 12 + 12 ≤ j) → lz j = f j) : ∀ j, (j < id * 12 ∨ id * 12 + 12 ≤ j) → upI (upI lz (id * 12 + p) x) (id * 12 + q) y j = f j := fun j hj => by
  rw [upI_ne (by omega), upI_ne (by omega)]; exact h j hj
theorem asg_one {cl : Nat → Option (List Int)} {s : TS} {x : Int} {id : Nat} {cc : List Int} (hok : Ok s) (hid : id < 52) (hc : cl id = some cc) (hm : x ∈ cc) (hg : gd x) (h0 : valO s x = 0) (hoth : ∀ y ∈ cc, y ≠ x → -y ∈ lits s.L) :
    asgE s x id = 0 ∧ One cl s.k s.L (asgS s x id).L ∧ (asgS s x id).k = s.k ∧ (asgS s x id).c = s.c ∧ x ∈ lits (asgS s x id).L := by
  have hv : valV s.L (vr x) = 0 := by
    have h9 := h0
    unfold valO valL at h9; rw [if_pos (show x ≠ 0 ∧ -12 ≤ x ∧ x ≤ 12 from hg)] at h9
    unfold vr; split at h9 <;> rename_i e
    · rw [if_pos e]; omega
    · rw [if_neg e]; exact h9
  have e1 : asgE s x id = 0 := by unfold asgE; rw [if_pos (show x ≠ 0 ∧ -12 ≤ x ∧ x ≤ 12 from hg), if_neg (by omega), if_neg (by omega)]
  have e2 : asgS s x id = ⟨s.L ++ [⟨x, s.k, id⟩], s.k, s.c⟩ := by unfold asgS; rw [if_pos e1]
  rcases vO3 (s := s) hg with q | q | q
  · omega
  · omega
  · rw [e2]; exact ⟨e1, .inr ⟨⟨x, s.k, id⟩, rfl, rfl, id, cc, hid, rfl, hc, hm, q.2.1, q.2.2, hoth⟩, rfl, rfl, by rw [lits_app]; simp⟩
theorem dueW_vw {W W' : WC} {j : Nat} (h : vw W' j = vw W j) : dueW W' j = dueW W j ∧ W'.fresh.testBit j = W.fresh.testBit j := by
  have h1 : (vw W' j).f = (vw W j).f := by rw [h]
  have h2 : (vw W' j).k = (vw W j).k := by rw [h]
  simp only [vw] at h1 h2
  unfold dueW; rw [h1, h2]; exact ⟨rfl, rfl⟩
theorem due_some {W : WC} {cl : Nat → Option (List Int)} {ls : List Int} {c j : Nat} (hw : WI W cl ls c) (hj : j < 52) (h : dueW W j = true) : ∃ cc, cl j = some cc := by
  have hl := hw.lo j hj
  have hu : (vw W j).u = true := by
    unfold dueW at h; rw [Bool.or_eq_true] at h
    rcases h with e | e
    · exact hl.f e
    · exact hl.k e
  rw [hl.u] at hu
  exact Option.isSome_iff_exists.1 hu
theorem WX.ok {h : Heap} {C X : Nat} {W : WC} {cl : Nat → Option (List Int)} {s : TS} {p : Nat} (w : WX h C X W cl s p) : Ok s := w.t.ok
abbrev FX (C X : Nat) (b : Nat) : Prop := b = C ∨ b = X

theorem chn_tr {cl : Nat → Option (List Int)} {k : Nat} {L L1 L2 : List It} (h1 : Chn cl k L L1) (h2 : Chn cl k L1 L2) : Chn cl k L L2 := by
  have hl1 := h1.1
  have hl2 := h2.1
  refine ⟨by omega, ?_, fun i x hi hx => ?_⟩
  · have := congrArg (List.take L.length) h2.2.1
    rw [List.take_take, Nat.min_eq_left hl1, h1.2.1] at this; exact this
  · rcases Nat.lt_or_ge i L1.length with q | q
    · have e1 : L2.take i = L1.take i := by
        have := congrArg (List.take i) h2.2.1
        rw [List.take_take, Nat.min_eq_left (by omega)] at this; exact this
      rw [e1]; rw [h2.at q] at hx; exact h1.2.2 i x hi hx
    · exact h2.2.2 i x q hx
theorem pla_nat {s : TS} (hok : Ok s) {i : Nat} {x : Int} (hi : (lits s.L)[i]? = some x) : plaV s.L (x.natAbs : Int) = i := by
  rw [← vr_abs]; exact (pla_at hok hi).1
theorem lits_lt {L : List It} {i : Nat} {x : Int} (h : (lits L)[i]? = some x) : i < L.length := by
  rcases Nat.lt_or_ge i L.length with q | q
  · exact q
  · rw [List.getElem?_eq_none (by rw [lits_len]; exact q)] at h; cases h

theorem visA_sum (W : WC) (i : Nat) : sumN (visA W i) 52 ≤ 52 := by
  have := sumN_bd (f := visA W i) (b := 1) 52 (fun j _ => Nat.le_trans (visA_le W i j) (by split <;> omega)); omega
/-- what a run of visits has done -/
structure PR (cl : Nat → Option (List Int)) (s s' : TS) : Prop where
  k : s'.k = s.k
  ch : Chn cl s.k s.L s'.L
theorem PR.refl (cl : Nat → Option (List Int)) (s : TS) : PR cl s s := ⟨rfl, Chn.refl⟩
theorem PR.one {cl : Nat → Option (List Int)} {s s1 s2 : TS} (h : PR cl s s1) (hk : s2.k = s1.k) (ho : One cl s1.k s1.L s2.L) : PR cl s s2 := ⟨by rw [hk, h.k], h.ch.one (by rw [← h.k]; exact ho)⟩
theorem PR.trans {cl : Nat → Option (List Int)} {s s1 s2 : TS} (h : PR cl s s1) (h2 : PR cl s1 s2) : PR cl s s2 := ⟨by rw [h2.k, h.k], chn_tr h.ch (by have := h2.ch; rw [h.k] at this; exact this)⟩
def Wk (cl : Nat → Option (List Int)) (W : WC) (ls : List Int) (j : Nat) : Prop := dueW W j = true → W.fresh.testBit j = false ∧ WK cl j ls
theorem Wk.mono {cl : Nat → Option (List Int)} {W W' : WC} {ls ls' : List Int} {j : Nat} (h : Wk cl W ls j) (hv : vw W' j = vw W j) (hs : ∀ x ∈ ls, x ∈ ls') : Wk cl W' ls' j := fun e => by
  have h9 := dueW_vw hv
  rw [h9.1] at e
  exact ⟨by rw [h9.2]; exact (h e).1, (h e).2.mono hs⟩
theorem lits_take_at {cl : Nat → Option (List Int)} {k : Nat} {L L' : List It} (h : Chn cl k L L') {i : Nat} {x : Int} (hx : (lits L)[i]? = some x) : (lits L')[i]? = some x := by
  obtain ⟨y, h1, h2⟩ := lits_get hx
  have := lits_lt hx
  rw [← h.at this] at h1
  rw [← h2]; exact lits_at h1
theorem lits_getD {L : List It} {i : Nat} {x : Int} (h : (lits L)[i]? = some x) : (lits L).getD i 0 = x := by rw [List.getD_eq_getElem?_getD, h]; rfl
theorem nc_chn {cl : Nat → Option (List Int)} {k : Nat} {L L' : List It} (h : Chn cl k L L') (o : Option (List Int)) {a b : Nat} (hb : b ≤ L.length) : nc o (lits L') a b = nc o (lits L) a b := nc_ext fun i _ hi => by
  have h9 : (lits L)[i]? = some (L[i].lit) := lits_at (List.getElem?_eq_getElem (by omega))
  rw [lits_getD h9, lits_getD (lits_take_at h h9)]

theorem visA_top (W : WC) (j : Nat) (hj : j < 52) : (if (W.fresh.testBit j || W.weak.testBit j) = true then 1 else 0) ≤ visA W 52 j := by
  unfold visA; split
  · rename_i e; rw [if_pos ⟨hj, e⟩]; exact Nat.le_refl _
  · exact Nat.zero_le _

theorem visB_top (bb : Nat → Nat) (cl : Nat → Option (List Int)) (x : Int) {i : Nat} (hi : i ≤ 52) : sumN (visB bb cl x i) 52 ≤ sumN (visB bb cl x 52) 52 := by
  obtain ⟨d, hd⟩ : ∃ d, 52 = i + d := ⟨52 - i, by omega⟩
  have key : ∀ d j, visB bb cl x i j ≤ visB bb cl x (i + d) j := fun d j => by
    induction d with
    | zero => exact Nat.le_refl _
    | succ d ih => exact Nat.le_trans ih (visB_mono bb cl x (i + d) j)
  have h9 := fun j => key d j
  rw [← hd] at h9
  exact sumN_le 52 (fun j _ => h9 j)
set_option maxHeartbeats 1600000 in
theorem look_spec (h : Heap) (C X : Nat) (W : WC) (cl : Nat → Option (List Int)) (s : TS) (p : Nat) (w : WX h C X W cl s p) (id : Nat) (hid : id < 52) (hd : dueW W id = true) (hv : W.vis ≤ 100000) :
    FC Tryz.prog 119 (#[.pointer (some ⟨C, 0, none⟩), .int .i64 (id : Int)] : Array Value) h fun rv h' => ∃ (W' : WC) (s' : TS) (r : Int), rv = .int .i64 r ∧ WX h' C X W' cl s' p ∧ (s'.k = s.k ∧ s'.c = s.c ∧ One cl s.k s.L s'.L ∧ W'.vis = W.vis + 1 ∧ (∀ j, j ≠ id → vw W' j = vw W j)) ∧ ((r = -1 ∧ (dueW W' id = true → W'.fresh.testBit id = false ∧ WK cl id (lits s'.L))) ∨ (r = id ∧ W'.fresh.testBit id = false ∧ AF cl id (lits s'.L))) ∧ Ext (FX C X) h h' := by
  have hB := w.b
  have hE := Ext.refl (fun x => x = C) h
  have hlt := w.i.lt
  obtain ⟨cc, hcl⟩ := due_some w.i hid hd
  obtain ⟨hnr, hsz, harr0⟩ := wi_arr w.i hid hcl
  have hln := hnr.len
  have hcon := con_lits w.ok
  have hcL := w.ok.c
  refine FC_of [(0, .pointer (some ⟨C, 0, none⟩)), (1, .int .i64 (id : Int))] Tryz.func119 rfl Tryz.ntmps119 (by simp) rfl (fun R hR => ?_)
  refine V_sr T.mix (by kernel_rfl) (fun K1 hK1 => ?_)
  refine S_as rfl ?_
  refine S_nil (hK1 _ _ (V_keep [0, 1] (by simp only [proj, lk, reduceIte, Nat.reduceEqDiff]; rfl) ?_)); clear hK1
  refine V_sr T.mix (by kernel_rfl) (fun K2 hK2 => ?_)
  refine S_mv rfl ?_
  refine S_nc rfl ?_
  first | refine S_fa0 T.f78_7 rfl ?_ | refine S_fa T.f78_7 rfl ?_
  refine S_ldK T.ag3 rfl (fun K' hK' => ?_)
  simp (disch := omega) only [wlT hB, wlLit hB, wlSize hB, wlUsed hB, wlFresh hB, wlWeak hB, wlList hB, wlVis hB, oP_some, Nat.add_zero]
  refine hK' _ ?_; clear hK' K'
  first | refine S_add rfl rfl (by omega) (by omega) ?_ | refine S_bin rfl rfl rfl ?_
  refine S_nc rfl ?_
  first | refine S_fa0 T.f78_7 rfl ?_ | refine S_fa T.f78_7 rfl ?_
  refine S_st T.sz3 rfl rfl rfl rfl (by simp (disch := omega) only [wok hB]) ?_
  generalize hh : putH _ _ _ = h1
  have hBh1 : WB h1 C X { W with vis := W.vis + 1 } := by rw [← hh]; exact wsVis hB (W.vis + 1)
  have hEh1 : Ext (fun x => x = C) h h1 := by rw [← hh]; exact Ext.put _ _ rfl
  clear hh
  replace hE := hE.trans hEh1
  clear hB
  have hB := hBh1
  refine S_nil (hK2 _ _ (V_keep [0, 1] (by simp only [proj, lk, reduceIte, Nat.reduceEqDiff]; rfl) ?_)); clear hK2
  refine V_sr T.mix (by kernel_rfl) (fun K3 hK3 => ?_)
  refine S_mv rfl ?_
  first | refine S_mul rfl rfl (by omega) (by omega) ?_ | refine S_bin rfl rfl rfl ?_
  refine S_as rfl ?_
  refine S_nil (hK3 _ _ (V_keep [0, 1, 5] (by simp only [proj, lk, reduceIte, Nat.reduceEqDiff]; rfl) ?_)); clear hK3
  refine V_sr T.mix (by kernel_rfl) (fun K4 hK4 => ?_)
  refine S_mv rfl ?_
  refine S_mv rfl ?_
  refine S_nc rfl ?_
  first | refine S_fa0 T.f78_2 rfl ?_ | refine S_fa T.f78_2 rfl ?_
  first | refine S_ixan T.ar74 rfl rfl (by omega) ?_ | refine S_ixa1 T.ar74 rfl rfl (by omega) (by omega) ?_
  refine S_ldK T.ag3 rfl (fun K' hK' => ?_)
  simp (disch := omega) only [wlT hB, wlLit hB, wlSize hB, wlUsed hB, wlFresh hB, wlWeak hB, wlList hB, wlVis hB, oP_some, Nat.add_zero]
  refine hK' _ ?_; clear hK' K'
  rw [hsz]
  refine S_as rfl ?_
  refine S_nil (hK4 _ _ (V_keep [0, 1, 5, 6] (by simp only [proj, lk, reduceIte, Nat.reduceEqDiff]; rfl) ?_)); clear hK4
  refine V_sr T.mix (by kernel_rfl) (fun K5 hK5 => ?_)
  refine S_as rfl ?_
  refine S_nil (hK5 _ _ (V_keep [0, 1, 5, 6, 7] (by simp only [proj, lk, reduceIte, Nat.reduceEqDiff]; rfl) ?_)); clear hK5
  refine V_seq (fun K6 hK6 => ?_)
  refine V_sr T.mix (by kernel_rfl) (fun K7 hK7 => ?_)
  refine S_as rfl ?_
  refine S_nil (hK7 _ _ (V_keep [0, 1, 5, 6, 7, 8] (by simp only [proj, lk, reduceIte, Nat.reduceEqDiff]; rfl) ?_)); clear hK7
  refine V_block ?_
  refine V_loop (fun m l h' => ∃ (i : Nat) (k : Nat) (hk : Heap) (lz : Nat → Int), (i ≤ cc.length) ∧ (k ≤ i) ∧ (k ≤ 2) ∧ (WB hk C X { W with vis := W.vis + 1, lits := lz }) ∧ (∀ j, (j < id * 12 ∨ id * 12 + 12 ≤ j) → lz j = W.lits j) ∧ (Arr (fun j => lz (id * 12 + j)) cc.length cc) ∧ (∀ j, k ≤ j → j < i → -(lz (id * 12 + j)) ∈ lits s.L) ∧ (∀ j, j < k → -(lz (id * 12 + j)) ∉ lits s.L) ∧ (Ext (fun x => x = C) h hk) ∧ m = cc.length - i ∧ l = [(0, .pointer (some ⟨C, 0, none⟩)), (1, .int .i64 (id : Int)), (5, .int .i64 ((id * 12 : Nat) : Int)), (6, .int .i64 (cc.length : Int)), (7, .int .i64 (k : Int)), (8, .int .i64 (i : Int))] ∧ hk = h') _ ⟨0, 0, h1, W.lits, by omega, by omega, by omega, hB, fun j _ => rfl, harr0, fun j h1 h2 => by omega, fun j h1 => by omega, hE, rfl, rfl, rfl⟩ ?_
  rintro m l h' ⟨i, k, hk, lz, hi, hki, hk2, hBk, hoth, harr, hfa, htr, hEk, rfl, rfl, rfl⟩ K8 hK8
  clear hB hE
  have hB := hBk
  have hE := hEk
  refine V_seq (fun K9 hK9 => ?_)
  refine V_sr T.mix (by kernel_rfl) (fun K10 hK10 => ?_)
  refine S_mv rfl ?_
  refine S_mv rfl ?_
  refine S_bin rfl rfl rfl ?_
  refine S_mv rfl ?_
  refine S_dec (fun g14 => ?_) (fun g14 => ?_)
  · skip
    refine S_gt rfl ?_
    refine S_mv rfl ?_
    refine S_gt rfl ?_
    refine S_bin rfl rfl rfl ?_
    refine S_pt rfl rfl ?_
    refine S_nil (hK10 _ _ (V_keep [0, 1, 5, 6, 7, 8, 35] (by simp only [proj, lk, reduceIte, Nat.reduceEqDiff]; rfl) ?_)); clear hK10
    refine V_condp rfl (fun c14 => ?_) (fun c14 => ?_)
    · skip
      have hgl : gd (lz (id * 12 + i)) := hnr.1 _ (harr.2.1 i (by omega))
      have hv3 := vO3 (s := s) hgl
      refine V_skipk [0, 1, 5, 6, 7, 8] (by simp only [proj, lk, reduceIte, Nat.reduceEqDiff]; rfl) ?_
      refine hK9 _ _ ?_; clear hK9
      refine V_seq (fun K11 hK11 => ?_)
      refine V_block ?_
      refine V_sr T.mix (by kernel_rfl) (fun K12 hK12 => ?_)
      refine S_mv rfl ?_
      refine S_mv rfl ?_
      refine S_mv rfl ?_
      first | refine S_add rfl rfl (by omega) (by omega) ?_ | refine S_bin rfl rfl rfl ?_
      refine S_nc rfl ?_
      first | refine S_fa0 T.f78_1 rfl ?_ | refine S_fa T.f78_1 rfl ?_
      first | refine S_ixan T.ar73 rfl rfl (by omega) ?_ | refine S_ixa1 T.ar73 rfl rfl (by omega) (by omega) ?_
      refine S_ldK T.ag3 rfl (fun K' hK' => ?_)
      simp (disch := omega) only [wlT hB, wlLit hB, wlSize hB, wlUsed hB, wlFresh hB, wlWeak hB, wlList hB, wlVis hB, oP_some, Nat.add_zero]
      refine hK' _ ?_; clear hK' K'
      refine S_as rfl ?_
      refine S_nil (hK12 _ _ (V_keep [0, 1, 5, 6, 7, 8, 9] (by simp only [proj, lk, reduceIte, Nat.reduceEqDiff]; rfl) ?_)); clear hK12
      refine V_sr T.mix (by kernel_rfl) (fun K13 hK13 => ?_)
      refine S_mv rfl ?_
      refine S_nc rfl ?_
      first | refine S_fa0 T.f78_0 rfl ?_ | refine S_fa T.f78_0 rfl ?_
      refine S_ldK T.ag30 rfl (fun K' hK' => ?_)
      simp (disch := omega) only [wlT hB, wlLit hB, wlSize hB, wlUsed hB, wlFresh hB, wlWeak hB, wlList hB, wlVis hB, oP_some, Nat.add_zero]
      refine hK' _ ?_; clear hK' K'
      refine S_mv rfl ?_
      refine S_call T.hb75 rfl ?_
      refine FC.mono (value_spec hk X s p (w.t.ext hE (fun e => w.ne e.symm)) (lz (id * 12 + i))) ?_
      rintro v' h' ⟨rfl, rfl⟩
      refine S_as rfl ?_
      refine S_nil (hK13 _ _ (V_keep [0, 1, 5, 6, 7, 8, 9, 10] (by simp only [proj, lk, reduceIte, Nat.reduceEqDiff]; rfl) ?_)); clear hK13
      refine V_sr T.mix (by kernel_rfl) (fun K14 hK14 => ?_)
      refine S_mv rfl ?_
      refine S_bin rfl rfl rfl ?_
      refine S_nil (hK14 _ _ (V_keep [0, 1, 5, 6, 7, 8, 9, 53] (by simp only [proj, lk, reduceIte, Nat.reduceEqDiff]; rfl) ?_)); clear hK14
      refine V_condp rfl (fun c17 => ?_) (fun c17 => ?_)
      · skip
        have hnf : -(lz (id * 12 + i)) ∉ lits s.L := by rcases hv3 with q | q | q; (exact hcon _ q.2); (omega); (exact q.2.2)
        refine V_sr T.mix (by kernel_rfl) (fun K15 hK15 => ?_)
        refine S_mv rfl ?_
        refine S_mv rfl ?_
        refine S_mv rfl ?_
        first | refine S_add rfl rfl (by omega) (by omega) ?_ | refine S_bin rfl rfl rfl ?_
        refine S_mv rfl ?_
        refine S_mv rfl ?_
        refine S_mv rfl ?_
        first | refine S_add rfl rfl (by omega) (by omega) ?_ | refine S_bin rfl rfl rfl ?_
        refine S_nc rfl ?_
        first | refine S_fa0 T.f78_1 rfl ?_ | refine S_fa T.f78_1 rfl ?_
        first | refine S_ixan T.ar73 rfl rfl (by omega) ?_ | refine S_ixa1 T.ar73 rfl rfl (by omega) (by omega) ?_
        refine S_ldK T.ag3 rfl (fun K' hK' => ?_)
        simp (disch := omega) only [wlT hB, wlLit hB, wlSize hB, wlUsed hB, wlFresh hB, wlWeak hB, wlList hB, wlVis hB, oP_some, Nat.add_zero]
        refine hK' _ ?_; clear hK' K'
        refine S_nc rfl ?_
        first | refine S_fa0 T.f78_1 rfl ?_ | refine S_fa T.f78_1 rfl ?_
        first | refine S_ixan T.ar73 rfl rfl (by omega) ?_ | refine S_ixa1 T.ar73 rfl rfl (by omega) (by omega) ?_
        refine S_st T.sz3 rfl rfl rfl rfl (by simp (disch := omega) only [wok hB]) ?_
        generalize hh : putH _ _ _ = hk1
        have hBhk1 : WB hk1 C X { W with vis := W.vis + 1, lits := upI lz (id * 12 + i) (lz (id * 12 + k)) } := by rw [← hh]; exact wsLit hB (id * 12 + i) (lz (id * 12 + k)) (by omega)
        have hEhk1 : Ext (fun x => x = C) hk hk1 := by rw [← hh]; exact Ext.put _ _ rfl
        clear hh
        replace hE := hE.trans hEhk1
        clear hB
        have hB := hBhk1
        refine S_nil (hK15 _ _ (V_keep [0, 1, 5, 6, 7, 8, 9] (by simp only [proj, lk, reduceIte, Nat.reduceEqDiff]; rfl) ?_)); clear hK15
        refine V_sr T.mix (by kernel_rfl) (fun K16 hK16 => ?_)
        refine S_mv rfl ?_
        refine S_mv rfl ?_
        refine S_mv rfl ?_
        first | refine S_add rfl rfl (by omega) (by omega) ?_ | refine S_bin rfl rfl rfl ?_
        refine S_mv rfl ?_
        refine S_nc rfl ?_
        first | refine S_fa0 T.f78_1 rfl ?_ | refine S_fa T.f78_1 rfl ?_
        first | refine S_ixan T.ar73 rfl rfl (by omega) ?_ | refine S_ixa1 T.ar73 rfl rfl (by omega) (by omega) ?_
        refine S_st T.sz3 rfl rfl rfl rfl (by simp (disch := omega) only [wok hB]) ?_
        generalize hh : putH _ _ _ = hk2
        have hBhk2 : WB hk2 C X { W with vis := W.vis + 1, lits := (upI (upI lz (id * 12 + i) (lz (id * 12 + k))) (id * 12 + k) (lz (id * 12 + i))) } := by rw [← hh]; exact wsLit hB (id * 12 + k) (lz (id * 12 + i)) (by omega)
        have hEhk2 : Ext (fun x => x = C) hk1 hk2 := by rw [← hh]; exact Ext.put _ _ rfl
        clear hh
        replace hE := hE.trans hEhk2
        clear hB
        have hB := hBhk2
        refine S_nil (hK16 _ _ (V_keep [0, 1, 5, 6, 7, 8] (by simp only [proj, lk, reduceIte, Nat.reduceEqDiff]; rfl) ?_)); clear hK16
        refine V_reg T.mix (by kernel_rfl) ?_
        refine S_mv rfl ?_
        first | refine S_add rfl rfl (by omega) (by omega) ?_ | refine S_bin rfl rfl rfl ?_
        refine S_as rfl ?_
        refine S_nilk [0, 1, 5, 6, 7, 8] (by simp only [proj, lk, reduceIte, Nat.reduceEqDiff]; rfl) ?_
        refine hK11 _ _ ?_; clear hK11
        refine V_reg T.mix (by kernel_rfl) ?_
        refine S_mv rfl ?_
        first | refine S_add rfl rfl (by omega) (by omega) ?_ | refine S_bin rfl rfl rfl ?_
        refine S_as rfl ?_
        refine S_nilk [0, 1, 5, 6, 7, 8] (by simp only [proj, lk, reduceIte, Nat.reduceEqDiff]; rfl) ?_
        exact hK8 _ _ ⟨_, by omega, i + 1, k + 1, hk2, _, by omega, by omega, by omega, hB, sw_oth (by omega) (by omega) hoth, sw_arr harr (by omega) (by omega), fun j h1 h2 => by rw [sw_val, if_neg (by omega)]; split; (exact hfa k (by omega) (by omega)); (exact hfa j (by omega) (by omega)), fun j h1 => by rw [sw_val]; split; (exact hnf); (rw [if_neg (by omega)]; exact htr j (by omega)), hE, rfl, rfl, rfl⟩
      · skip
        have hff : -(lz (id * 12 + i)) ∈ lits s.L := by rcases hv3 with q | q | q; (omega); (exact q.2); (omega)
        refine V_skipk [0, 1, 5, 6, 7, 8] (by simp only [proj, lk, reduceIte, Nat.reduceEqDiff]; rfl) ?_
        refine hK11 _ _ ?_; clear hK11
        refine V_reg T.mix (by kernel_rfl) ?_
        refine S_mv rfl ?_
        first | refine S_add rfl rfl (by omega) (by omega) ?_ | refine S_bin rfl rfl rfl ?_
        refine S_as rfl ?_
        refine S_nilk [0, 1, 5, 6, 7, 8] (by simp only [proj, lk, reduceIte, Nat.reduceEqDiff]; rfl) ?_
        exact hK8 _ _ ⟨_, by omega, i + 1, k, hk, lz, by omega, by omega, by omega, hB, hoth, harr, fun j h1 h2 => by by_cases e : j = i; (rw [e]; exact hff); (exact hfa j h1 (by omega)), htr, hE, rfl, rfl, rfl⟩
    · skip
      refine V_exitk [0, 1, 5, 7] rfl (by simp only [proj, lk, reduceIte, Nat.reduceEqDiff]; rfl) ?_
      refine hK6 _ _ ?_; clear hK6
      refine V_sr T.mix (by kernel_rfl) (fun K17 hK17 => ?_)
      refine S_mv rfl ?_
      refine S_call T.hb118 rfl ?_
      refine FC.mono (bit_spec hk id hid) ?_
      rintro v' h' ⟨rfl, rfl⟩
      refine S_as rfl ?_
      refine S_nil (hK17 _ _ (V_keep [0, 1, 5, 7, 11] (by simp only [proj, lk, reduceIte, Nat.reduceEqDiff]; rfl) ?_)); clear hK17
      refine V_sr T.mix (by kernel_rfl) (fun K18 hK18 => ?_)
      refine S_mv rfl ?_
      refine S_nc rfl ?_
      first | refine S_fa0 T.f78_4 rfl ?_ | refine S_fa T.f78_4 rfl ?_
      refine S_ldK T.ag75 rfl (fun K' hK' => ?_)
      simp (disch := omega) only [wlT hB, wlLit hB, wlSize hB, wlUsed hB, wlFresh hB, wlWeak hB, wlList hB, wlVis hB, oP_some, Nat.add_zero]
      refine hK' _ ?_; clear hK' K'
      refine S_mv rfl ?_
      refine S_nandn W.fresh (2 ^ id) rfl rfl rfl rfl rfl (b52 hlt.2.1) (b52 (p52 hid)) ?_
      refine S_nc rfl ?_
      first | refine S_fa0 T.f78_4 rfl ?_ | refine S_fa T.f78_4 rfl ?_
      refine S_st T.sz75 rfl rfl rfl rfl (by simp (disch := omega) only [wok hB]) ?_
      generalize hh : putH _ _ _ = h2
      have hBh2 : WB h2 C X { W with vis := W.vis + 1, lits := lz, fresh := wo W.fresh (2 ^ id) } := by rw [← hh]; exact wsFresh hB (wo W.fresh (2 ^ id))
      have hEh2 : Ext (fun x => x = C) hk h2 := by rw [← hh]; exact Ext.put _ _ rfl
      clear hh
      replace hE := hE.trans hEh2
      clear hB
      have hB := hBh2
      refine S_nil (hK18 _ _ (V_keep [0, 1, 5, 7, 11] (by simp only [proj, lk, reduceIte, Nat.reduceEqDiff]; rfl) ?_)); clear hK18
      refine V_seq (fun K19 hK19 => ?_)
      refine V_sr T.mix (by kernel_rfl) (fun K20 hK20 => ?_)
      refine S_mv rfl ?_
      refine S_bin rfl rfl rfl ?_
      refine S_nil (hK20 _ _ (V_keep [0, 1, 5, 7, 11, 90] (by simp only [proj, lk, reduceIte, Nat.reduceEqDiff]; rfl) ?_)); clear hK20
      refine V_condp rfl (fun c25 => ?_) (fun c25 => ?_)
      · skip
        refine V_sr T.mix (by kernel_rfl) (fun K21 hK21 => ?_)
        refine S_mv rfl ?_
        refine S_nc rfl ?_
        first | refine S_fa0 T.f78_5 rfl ?_ | refine S_fa T.f78_5 rfl ?_
        refine S_ldK T.ag75 rfl (fun K' hK' => ?_)
        simp (disch := omega) only [wlT hB, wlLit hB, wlSize hB, wlUsed hB, wlFresh hB, wlWeak hB, wlList hB, wlVis hB, oP_some, Nat.add_zero]
        refine hK' _ ?_; clear hK' K'
        refine S_mv rfl ?_
        refine S_nandn W.weak (2 ^ id) rfl rfl rfl rfl rfl (b52 hlt.2.2) (b52 (p52 hid)) ?_
        refine S_nc rfl ?_
        first | refine S_fa0 T.f78_5 rfl ?_ | refine S_fa T.f78_5 rfl ?_
        refine S_st T.sz75 rfl rfl rfl rfl (by simp (disch := omega) only [wok hB]) ?_
        generalize hh : putH _ _ _ = h3
        have hBh3 : WB h3 C X { W with vis := W.vis + 1, lits := lz, fresh := wo W.fresh (2 ^ id), weak := wo W.weak (2 ^ id) } := by rw [← hh]; exact wsWeak hB (wo W.weak (2 ^ id))
        have hEh3 : Ext (fun x => x = C) h2 h3 := by rw [← hh]; exact Ext.put _ _ rfl
        clear hh
        replace hE := hE.trans hEh3
        clear hB
        have hB := hBh3
        refine S_nil (hK21 _ _ (V_keep [0, 1] (by simp only [proj, lk, reduceIte, Nat.reduceEqDiff]; rfl) ?_)); clear hK21
        refine V_sr T.mix (by kernel_rfl) (fun K22 hK22 => ?_)
        refine S_mv rfl ?_
        refine S_mv rfl ?_
        refine S_call T.hb137 rfl ?_
        have hg0 : gd (lz (id * 12)) := hnr.1 _ (harr.2.1 0 (by omega))
        have hg1 : gd (lz (id * 12 + 1)) := hnr.1 _ (harr.2.1 1 (by omega))
        refine FC.mono (link_spec h3 C X _ hB id hid hg0 hg1 (fun q hq => w.i.llt hq)) ?_
        rintro v' h4 ⟨rfl, hB4, hE4⟩
        refine S_nil (hK22 _ _ (V_keep [] (by simp only [proj, lk, reduceIte, Nat.reduceEqDiff]; rfl) ?_)); clear hK22
        refine V_sr T.mix (by kernel_rfl) (fun K23 hK23 => ?_)
        refine S_as rfl ?_
        refine S_nil (hK23 _ _ (V_keep [4] (by simp only [proj, lk, reduceIte, Nat.reduceEqDiff]; rfl) ?_)); clear hK23
        refine V_ret ?_
        refine hR _ _ (ret1 rfl rfl ?_)
        obtain ⟨k1, k2, k3⟩ := look_s w.i hid hcl hoth harr hd (by omega) (htr 0 (by omega)) (htr 1 (by omega)) (v := W.vis + 1) rfl rfl
        exact ⟨_, s, -1, rfl, ⟨hB4, k1, w.t.ext (hE.trans hE4) (fun e => w.ne e.symm), w.ne⟩, ⟨rfl, rfl, .inl rfl, rfl, k2⟩, .inl ⟨rfl, fun e => by rw [k3] at e; cases e⟩, (hE.trans hE4).mono fun _ e => .inl e⟩
      · skip
        have hie : i = cc.length := by omega
        refine V_skipk [0, 1, 5, 7, 11] (by simp only [proj, lk, reduceIte, Nat.reduceEqDiff]; rfl) ?_
        refine hK19 _ _ ?_; clear hK19
        refine V_sr T.mix (by kernel_rfl) (fun K24 hK24 => ?_)
        refine S_mv rfl ?_
        refine S_nc rfl ?_
        first | refine S_fa0 T.f78_5 rfl ?_ | refine S_fa T.f78_5 rfl ?_
        refine S_ldK T.ag75 rfl (fun K' hK' => ?_)
        simp (disch := omega) only [wlT hB, wlLit hB, wlSize hB, wlUsed hB, wlFresh hB, wlWeak hB, wlList hB, wlVis hB, oP_some, Nat.add_zero]
        refine hK' _ ?_; clear hK' K'
        refine S_mv rfl ?_
        refine S_nor W.weak (2 ^ id) _ rfl rfl rfl rfl rfl (t52 hlt.2.2) (t52 (p52 hid)) ?_
        refine S_nc rfl ?_
        first | refine S_fa0 T.f78_5 rfl ?_ | refine S_fa T.f78_5 rfl ?_
        refine S_st T.sz75 rfl rfl rfl rfl (by simp (disch := omega) only [wok hB]) ?_
        generalize hh : putH _ _ _ = h3
        have hBh3 : WB h3 C X { W with vis := W.vis + 1, lits := lz, fresh := wo W.fresh (2 ^ id), weak := W.weak ||| 2 ^ id } := by rw [← hh]; exact wsWeak hB (W.weak ||| 2 ^ id)
        have hEh3 : Ext (fun x => x = C) h2 h3 := by rw [← hh]; exact Ext.put _ _ rfl
        clear hh
        replace hE := hE.trans hEh3
        clear hB
        have hB := hBh3
        refine S_nil (hK24 _ _ (V_keep [0, 1, 5, 7] (by simp only [proj, lk, reduceIte, Nat.reduceEqDiff]; rfl) ?_)); clear hK24
        refine V_seq (fun K25 hK25 => ?_)
        refine V_sr T.mix (by kernel_rfl) (fun K26 hK26 => ?_)
        refine S_mv rfl ?_
        refine S_bin rfl rfl rfl ?_
        refine S_nil (hK26 _ _ (V_keep [0, 1, 5, 111] (by simp only [proj, lk, reduceIte, Nat.reduceEqDiff]; rfl) ?_)); clear hK26
        refine V_condp rfl (fun c31 => ?_) (fun c31 => ?_)
        · skip
          refine V_sr T.mix (by kernel_rfl) (fun K27 hK27 => ?_)
          refine S_mv rfl ?_
          refine S_as rfl ?_
          refine S_nil (hK27 _ _ (V_keep [4] (by simp only [proj, lk, reduceIte, Nat.reduceEqDiff]; rfl) ?_)); clear hK27
          refine V_ret ?_
          refine hR _ _ (ret1 rfl rfl ?_)
          obtain ⟨k1, k2, k3⟩ := look_w w.i hid hcl hoth harr hd (v := W.vis + 1) rfl
          exact ⟨_, s, id, rfl, ⟨hB, k1, w.t.ext hE (fun e => w.ne e.symm), w.ne⟩, ⟨rfl, rfl, .inl rfl, rfl, k2⟩, .inr ⟨rfl, k3, cc, hcl, fun y hy => by obtain ⟨j, hj, q⟩ := harr.2.2.1 y hy; rw [← q]; exact hfa j (by omega) (by omega)⟩, hE.mono fun _ e => .inl e⟩
        · skip
          have hk1 : k = 1 := by omega
          have hbm : lz (id * 12) ∈ cc := harr.2.1 0 (by omega)
          have hbg : gd (lz (id * 12)) := hnr.1 _ hbm
          have hbo : ∀ y ∈ cc, y ≠ lz (id * 12) → -y ∈ lits s.L := fun y hy e => by
            obtain ⟨j, hj, q⟩ := harr.2.2.1 y hy
            have hj0 : j ≠ 0 := fun z => e (by rw [← q, z]; rfl)
            rw [← q]; exact hfa j (by omega) (by omega)
          have hv4 := vO3 (s := s) hbg
          refine V_skipk [0, 1, 5] (by simp only [proj, lk, reduceIte, Nat.reduceEqDiff]; rfl) ?_
          refine hK25 _ _ ?_; clear hK25
          refine V_sr T.mix (by kernel_rfl) (fun K28 hK28 => ?_)
          refine S_mv rfl ?_
          refine S_mv rfl ?_
          refine S_nc rfl ?_
          first | refine S_fa0 T.f78_1 rfl ?_ | refine S_fa T.f78_1 rfl ?_
          first | refine S_ixan T.ar73 rfl rfl (by omega) ?_ | refine S_ixa1 T.ar73 rfl rfl (by omega) (by omega) ?_
          refine S_ldK T.ag3 rfl (fun K' hK' => ?_)
          simp (disch := omega) only [wlT hB, wlLit hB, wlSize hB, wlUsed hB, wlFresh hB, wlWeak hB, wlList hB, wlVis hB, oP_some, Nat.add_zero]
          refine hK' _ ?_; clear hK' K'
          refine S_as rfl ?_
          refine S_nil (hK28 _ _ (V_keep [0, 1, 12] (by simp only [proj, lk, reduceIte, Nat.reduceEqDiff]; rfl) ?_)); clear hK28
          refine V_sr T.mix (by kernel_rfl) (fun K29 hK29 => ?_)
          refine S_mv rfl ?_
          refine S_nc rfl ?_
          first | refine S_fa0 T.f78_0 rfl ?_ | refine S_fa T.f78_0 rfl ?_
          refine S_ldK T.ag30 rfl (fun K' hK' => ?_)
          simp (disch := omega) only [wlT hB, wlLit hB, wlSize hB, wlUsed hB, wlFresh hB, wlWeak hB, wlList hB, wlVis hB, oP_some, Nat.add_zero]
          refine hK' _ ?_; clear hK' K'
          refine S_mv rfl ?_
          refine S_call T.hb75 rfl ?_
          refine FC.mono (value_spec h3 X s p (w.t.ext hE (fun e => w.ne e.symm)) (lz (id * 12))) ?_
          rintro v' h' ⟨rfl, rfl⟩
          refine S_as rfl ?_
          refine S_nil (hK29 _ _ (V_keep [0, 1, 12, 13] (by simp only [proj, lk, reduceIte, Nat.reduceEqDiff]; rfl) ?_)); clear hK29
          refine V_seq (fun K30 hK30 => ?_)
          refine V_sr T.mix (by kernel_rfl) (fun K31 hK31 => ?_)
          refine S_mv rfl ?_
          refine S_bin rfl rfl rfl ?_
          refine S_nil (hK31 _ _ (V_keep [0, 1, 12, 126] (by simp only [proj, lk, reduceIte, Nat.reduceEqDiff]; rfl) ?_)); clear hK31
          refine V_condp rfl (fun c36 => ?_) (fun c36 => ?_)
          · skip
            have hb0 : valO s (lz (id * 12)) = 0 := c36
            refine V_reg T.mix (by kernel_rfl) ?_
            refine S_mv rfl ?_
            refine S_nc rfl ?_
            first | refine S_fa0 T.f78_0 rfl ?_ | refine S_fa T.f78_0 rfl ?_
            refine S_ldK T.ag30 rfl (fun K' hK' => ?_)
            simp (disch := omega) only [wlT hB, wlLit hB, wlSize hB, wlUsed hB, wlFresh hB, wlWeak hB, wlList hB, wlVis hB, oP_some, Nat.add_zero]
            refine hK' _ ?_; clear hK' K'
            refine S_mv rfl ?_
            refine S_mv rfl ?_
            refine S_call T.hb138 rfl ?_
            have has := asg_one (s := s) w.ok hid hcl hbm hbg hb0 hbo
            refine FC.mono (assign_spec h3 X s p (w.t.ext hE (fun e => w.ne e.symm)) (lz (id * 12)) (id : Int)) ?_
            rintro v' h9 ⟨rfl, hRS, hE9⟩
            refine S_nilk [] (by simp only [proj, lk, reduceIte, Nat.reduceEqDiff]; rfl) ?_
            refine hK30 _ _ ?_; clear hK30
            refine V_sr T.mix (by kernel_rfl) (fun K32 hK32 => ?_)
            refine S_as rfl ?_
            refine S_nil (hK32 _ _ (V_keep [4] (by simp only [proj, lk, reduceIte, Nat.reduceEqDiff]; rfl) ?_)); clear hK32
            refine V_ret ?_
            refine hR _ _ (ret1 rfl rfl ?_)
            obtain ⟨k1, k2, k3⟩ := look_w w.i hid hcl hoth harr hd (v := W.vis + 1) rfl
            exact ⟨_, asgS s (lz (id * 12)) id, -1, rfl, ⟨hB.ext hE9 (fun e => w.ne e), by rw [has.2.2.2.1]; exact k1.ls (fun a b H => has.2.1.hold hcL H), hRS, w.ne⟩, ⟨has.2.2.1, has.2.2.2.1, has.2.1, rfl, k2⟩, .inl ⟨rfl, fun _ => ⟨k3, cc, hcl, lz (id * 12), hbm, has.2.2.2.2, fun y hy e => has.2.1.sub (hbo y hy e)⟩⟩, (hE.mono fun _ e => .inl e).trans (hE9.mono fun _ e => .inr e)⟩
          · skip
            have hbt : lz (id * 12) ∈ lits s.L := by rcases hv4 with q | q | q; (exact q.2); (exact absurd q.2 (htr 0 (by omega))); (omega)
            refine V_skipk [] (by simp only [proj, lk, reduceIte, Nat.reduceEqDiff]; rfl) ?_
            refine hK30 _ _ ?_; clear hK30
            refine V_sr T.mix (by kernel_rfl) (fun K33 hK33 => ?_)
            refine S_as rfl ?_
            refine S_nil (hK33 _ _ (V_keep [4] (by simp only [proj, lk, reduceIte, Nat.reduceEqDiff]; rfl) ?_)); clear hK33
            refine V_ret ?_
            refine hR _ _ (ret1 rfl rfl ?_)
            obtain ⟨k1, k2, k3⟩ := look_w w.i hid hcl hoth harr hd (v := W.vis + 1) rfl
            exact ⟨_, s, -1, rfl, ⟨hB, k1, w.t.ext hE (fun e => w.ne e.symm), w.ne⟩, ⟨rfl, rfl, .inl rfl, rfl, k2⟩, .inl ⟨rfl, fun _ => ⟨k3, cc, hcl, lz (id * 12), hbm, hbt, hbo⟩⟩, hE.mono fun _ e => .inl e⟩
  · skip
    refine S_gf rfl ?_
    refine S_gf rfl ?_
    refine S_pf rfl rfl ?_
    refine S_nil (hK10 _ _ (V_keep [0, 1, 5, 6, 7, 8, 35] (by simp only [proj, lk, reduceIte, Nat.reduceEqDiff]; rfl) ?_)); clear hK10
    refine V_condf rfl ?_
    refine V_exitk [0, 1, 5, 7] rfl (by simp only [proj, lk, reduceIte, Nat.reduceEqDiff]; rfl) ?_
    refine hK6 _ _ ?_; clear hK6
    refine V_sr T.mix (by kernel_rfl) (fun K34 hK34 => ?_)
    refine S_mv rfl ?_
    refine S_call T.hb118 rfl ?_
    refine FC.mono (bit_spec hk id hid) ?_
    rintro v' h' ⟨rfl, rfl⟩
    refine S_as rfl ?_
    refine S_nil (hK34 _ _ (V_keep [0, 1, 5, 7, 11] (by simp only [proj, lk, reduceIte, Nat.reduceEqDiff]; rfl) ?_)); clear hK34
    refine V_sr T.mix (by kernel_rfl) (fun K35 hK35 => ?_)
    refine S_mv rfl ?_
    refine S_nc rfl ?_
    first | refine S_fa0 T.f78_4 rfl ?_ | refine S_fa T.f78_4 rfl ?_
    refine S_ldK T.ag75 rfl (fun K' hK' => ?_)
    simp (disch := omega) only [wlT hB, wlLit hB, wlSize hB, wlUsed hB, wlFresh hB, wlWeak hB, wlList hB, wlVis hB, oP_some, Nat.add_zero]
    refine hK' _ ?_; clear hK' K'
    refine S_mv rfl ?_
    refine S_nandn W.fresh (2 ^ id) rfl rfl rfl rfl rfl (b52 hlt.2.1) (b52 (p52 hid)) ?_
    refine S_nc rfl ?_
    first | refine S_fa0 T.f78_4 rfl ?_ | refine S_fa T.f78_4 rfl ?_
    refine S_st T.sz75 rfl rfl rfl rfl (by simp (disch := omega) only [wok hB]) ?_
    generalize hh : putH _ _ _ = h2
    have hBh2 : WB h2 C X { W with vis := W.vis + 1, lits := lz, fresh := wo W.fresh (2 ^ id) } := by rw [← hh]; exact wsFresh hB (wo W.fresh (2 ^ id))
    have hEh2 : Ext (fun x => x = C) hk h2 := by rw [← hh]; exact Ext.put _ _ rfl
    clear hh
    replace hE := hE.trans hEh2
    clear hB
    have hB := hBh2
    refine S_nil (hK35 _ _ (V_keep [0, 1, 5, 7, 11] (by simp only [proj, lk, reduceIte, Nat.reduceEqDiff]; rfl) ?_)); clear hK35
    refine V_seq (fun K36 hK36 => ?_)
    refine V_sr T.mix (by kernel_rfl) (fun K37 hK37 => ?_)
    refine S_mv rfl ?_
    refine S_bin rfl rfl rfl ?_
    refine S_nil (hK37 _ _ (V_keep [0, 1, 5, 7, 11, 90] (by simp only [proj, lk, reduceIte, Nat.reduceEqDiff]; rfl) ?_)); clear hK37
    refine V_condp rfl (fun c25a => ?_) (fun c25a => ?_)
    · skip
      refine V_sr T.mix (by kernel_rfl) (fun K38 hK38 => ?_)
      refine S_mv rfl ?_
      refine S_nc rfl ?_
      first | refine S_fa0 T.f78_5 rfl ?_ | refine S_fa T.f78_5 rfl ?_
      refine S_ldK T.ag75 rfl (fun K' hK' => ?_)
      simp (disch := omega) only [wlT hB, wlLit hB, wlSize hB, wlUsed hB, wlFresh hB, wlWeak hB, wlList hB, wlVis hB, oP_some, Nat.add_zero]
      refine hK' _ ?_; clear hK' K'
      refine S_mv rfl ?_
      refine S_nandn W.weak (2 ^ id) rfl rfl rfl rfl rfl (b52 hlt.2.2) (b52 (p52 hid)) ?_
      refine S_nc rfl ?_
      first | refine S_fa0 T.f78_5 rfl ?_ | refine S_fa T.f78_5 rfl ?_
      refine S_st T.sz75 rfl rfl rfl rfl (by simp (disch := omega) only [wok hB]) ?_
      generalize hh : putH _ _ _ = h3
      have hBh3 : WB h3 C X { W with vis := W.vis + 1, lits := lz, fresh := wo W.fresh (2 ^ id), weak := wo W.weak (2 ^ id) } := by rw [← hh]; exact wsWeak hB (wo W.weak (2 ^ id))
      have hEh3 : Ext (fun x => x = C) h2 h3 := by rw [← hh]; exact Ext.put _ _ rfl
      clear hh
      replace hE := hE.trans hEh3
      clear hB
      have hB := hBh3
      refine S_nil (hK38 _ _ (V_keep [0, 1] (by simp only [proj, lk, reduceIte, Nat.reduceEqDiff]; rfl) ?_)); clear hK38
      refine V_sr T.mix (by kernel_rfl) (fun K39 hK39 => ?_)
      refine S_mv rfl ?_
      refine S_mv rfl ?_
      refine S_call T.hb137 rfl ?_
      have hg0 : gd (lz (id * 12)) := hnr.1 _ (harr.2.1 0 (by omega))
      have hg1 : gd (lz (id * 12 + 1)) := hnr.1 _ (harr.2.1 1 (by omega))
      refine FC.mono (link_spec h3 C X _ hB id hid hg0 hg1 (fun q hq => w.i.llt hq)) ?_
      rintro v' h4 ⟨rfl, hB4, hE4⟩
      refine S_nil (hK39 _ _ (V_keep [] (by simp only [proj, lk, reduceIte, Nat.reduceEqDiff]; rfl) ?_)); clear hK39
      refine V_sr T.mix (by kernel_rfl) (fun K40 hK40 => ?_)
      refine S_as rfl ?_
      refine S_nil (hK40 _ _ (V_keep [4] (by simp only [proj, lk, reduceIte, Nat.reduceEqDiff]; rfl) ?_)); clear hK40
      refine V_ret ?_
      refine hR _ _ (ret1 rfl rfl ?_)
      obtain ⟨k1, k2, k3⟩ := look_s w.i hid hcl hoth harr hd (by omega) (htr 0 (by omega)) (htr 1 (by omega)) (v := W.vis + 1) rfl rfl
      exact ⟨_, s, -1, rfl, ⟨hB4, k1, w.t.ext (hE.trans hE4) (fun e => w.ne e.symm), w.ne⟩, ⟨rfl, rfl, .inl rfl, rfl, k2⟩, .inl ⟨rfl, fun e => by rw [k3] at e; cases e⟩, (hE.trans hE4).mono fun _ e => .inl e⟩
    · skip
      have hie : i = cc.length := by omega
      refine V_skipk [0, 1, 5, 7, 11] (by simp only [proj, lk, reduceIte, Nat.reduceEqDiff]; rfl) ?_
      refine hK36 _ _ ?_; clear hK36
      refine V_sr T.mix (by kernel_rfl) (fun K41 hK41 => ?_)
      refine S_mv rfl ?_
      refine S_nc rfl ?_
      first | refine S_fa0 T.f78_5 rfl ?_ | refine S_fa T.f78_5 rfl ?_
      refine S_ldK T.ag75 rfl (fun K' hK' => ?_)
      simp (disch := omega) only [wlT hB, wlLit hB, wlSize hB, wlUsed hB, wlFresh hB, wlWeak hB, wlList hB, wlVis hB, oP_some, Nat.add_zero]
      refine hK' _ ?_; clear hK' K'
      refine S_mv rfl ?_
      refine S_nor W.weak (2 ^ id) _ rfl rfl rfl rfl rfl (t52 hlt.2.2) (t52 (p52 hid)) ?_
      refine S_nc rfl ?_
      first | refine S_fa0 T.f78_5 rfl ?_ | refine S_fa T.f78_5 rfl ?_
      refine S_st T.sz75 rfl rfl rfl rfl (by simp (disch := omega) only [wok hB]) ?_
      generalize hh : putH _ _ _ = h3
      have hBh3 : WB h3 C X { W with vis := W.vis + 1, lits := lz, fresh := wo W.fresh (2 ^ id), weak := W.weak ||| 2 ^ id } := by rw [← hh]; exact wsWeak hB (W.weak ||| 2 ^ id)
      have hEh3 : Ext (fun x => x = C) h2 h3 := by rw [← hh]; exact Ext.put _ _ rfl
      clear hh
      replace hE := hE.trans hEh3
      clear hB
      have hB := hBh3
      refine S_nil (hK41 _ _ (V_keep [0, 1, 5, 7] (by simp only [proj, lk, reduceIte, Nat.reduceEqDiff]; rfl) ?_)); clear hK41
      refine V_seq (fun K42 hK42 => ?_)
      refine V_sr T.mix (by kernel_rfl) (fun K43 hK43 => ?_)
      refine S_mv rfl ?_
      refine S_bin rfl rfl rfl ?_
      refine S_nil (hK43 _ _ (V_keep [0, 1, 5, 111] (by simp only [proj, lk, reduceIte, Nat.reduceEqDiff]; rfl) ?_)); clear hK43
      refine V_condp rfl (fun c31a => ?_) (fun c31a => ?_)
      · skip
        refine V_sr T.mix (by kernel_rfl) (fun K44 hK44 => ?_)
        refine S_mv rfl ?_
        refine S_as rfl ?_
        refine S_nil (hK44 _ _ (V_keep [4] (by simp only [proj, lk, reduceIte, Nat.reduceEqDiff]; rfl) ?_)); clear hK44
        refine V_ret ?_
        refine hR _ _ (ret1 rfl rfl ?_)
        obtain ⟨k1, k2, k3⟩ := look_w w.i hid hcl hoth harr hd (v := W.vis + 1) rfl
        exact ⟨_, s, id, rfl, ⟨hB, k1, w.t.ext hE (fun e => w.ne e.symm), w.ne⟩, ⟨rfl, rfl, .inl rfl, rfl, k2⟩, .inr ⟨rfl, k3, cc, hcl, fun y hy => by obtain ⟨j, hj, q⟩ := harr.2.2.1 y hy; rw [← q]; exact hfa j (by omega) (by omega)⟩, hE.mono fun _ e => .inl e⟩
      · skip
        have hk1 : k = 1 := by omega
        have hbm : lz (id * 12) ∈ cc := harr.2.1 0 (by omega)
        have hbg : gd (lz (id * 12)) := hnr.1 _ hbm
        have hbo : ∀ y ∈ cc, y ≠ lz (id * 12) → -y ∈ lits s.L := fun y hy e => by
          obtain ⟨j, hj, q⟩ := harr.2.2.1 y hy
          have hj0 : j ≠ 0 := fun z => e (by rw [← q, z]; rfl)
          rw [← q]; exact hfa j (by omega) (by omega)
        have hv4 := vO3 (s := s) hbg
        refine V_skipk [0, 1, 5] (by simp only [proj, lk, reduceIte, Nat.reduceEqDiff]; rfl) ?_
        refine hK42 _ _ ?_; clear hK42
        refine V_sr T.mix (by kernel_rfl) (fun K45 hK45 => ?_)
        refine S_mv rfl ?_
        refine S_mv rfl ?_
        refine S_nc rfl ?_
        first | refine S_fa0 T.f78_1 rfl ?_ | refine S_fa T.f78_1 rfl ?_
        first | refine S_ixan T.ar73 rfl rfl (by omega) ?_ | refine S_ixa1 T.ar73 rfl rfl (by omega) (by omega) ?_
        refine S_ldK T.ag3 rfl (fun K' hK' => ?_)
        simp (disch := omega) only [wlT hB, wlLit hB, wlSize hB, wlUsed hB, wlFresh hB, wlWeak hB, wlList hB, wlVis hB, oP_some, Nat.add_zero]
        refine hK' _ ?_; clear hK' K'
        refine S_as rfl ?_
        refine S_nil (hK45 _ _ (V_keep [0, 1, 12] (by simp only [proj, lk, reduceIte, Nat.reduceEqDiff]; rfl) ?_)); clear hK45
        refine V_sr T.mix (by kernel_rfl) (fun K46 hK46 => ?_)
        refine S_mv rfl ?_
        refine S_nc rfl ?_
        first | refine S_fa0 T.f78_0 rfl ?_ | refine S_fa T.f78_0 rfl ?_
        refine S_ldK T.ag30 rfl (fun K' hK' => ?_)
        simp (disch := omega) only [wlT hB, wlLit hB, wlSize hB, wlUsed hB, wlFresh hB, wlWeak hB, wlList hB, wlVis hB, oP_some, Nat.add_zero]
        refine hK' _ ?_; clear hK' K'
        refine S_mv rfl ?_
        refine S_call T.hb75 rfl ?_
        refine FC.mono (value_spec h3 X s p (w.t.ext hE (fun e => w.ne e.symm)) (lz (id * 12))) ?_
        rintro v' h' ⟨rfl, rfl⟩
        refine S_as rfl ?_
        refine S_nil (hK46 _ _ (V_keep [0, 1, 12, 13] (by simp only [proj, lk, reduceIte, Nat.reduceEqDiff]; rfl) ?_)); clear hK46
        refine V_seq (fun K47 hK47 => ?_)
        refine V_sr T.mix (by kernel_rfl) (fun K48 hK48 => ?_)
        refine S_mv rfl ?_
        refine S_bin rfl rfl rfl ?_
        refine S_nil (hK48 _ _ (V_keep [0, 1, 12, 126] (by simp only [proj, lk, reduceIte, Nat.reduceEqDiff]; rfl) ?_)); clear hK48
        refine V_condp rfl (fun c36a => ?_) (fun c36a => ?_)
        · skip
          have hb0 : valO s (lz (id * 12)) = 0 := c36a
          refine V_reg T.mix (by kernel_rfl) ?_
          refine S_mv rfl ?_
          refine S_nc rfl ?_
          first | refine S_fa0 T.f78_0 rfl ?_ | refine S_fa T.f78_0 rfl ?_
          refine S_ldK T.ag30 rfl (fun K' hK' => ?_)
          simp (disch := omega) only [wlT hB, wlLit hB, wlSize hB, wlUsed hB, wlFresh hB, wlWeak hB, wlList hB, wlVis hB, oP_some, Nat.add_zero]
          refine hK' _ ?_; clear hK' K'
          refine S_mv rfl ?_
          refine S_mv rfl ?_
          refine S_call T.hb138 rfl ?_
          have has := asg_one (s := s) w.ok hid hcl hbm hbg hb0 hbo
          refine FC.mono (assign_spec h3 X s p (w.t.ext hE (fun e => w.ne e.symm)) (lz (id * 12)) (id : Int)) ?_
          rintro v' h9 ⟨rfl, hRS, hE9⟩
          refine S_nilk [] (by simp only [proj, lk, reduceIte, Nat.reduceEqDiff]; rfl) ?_
          refine hK47 _ _ ?_; clear hK47
          refine V_sr T.mix (by kernel_rfl) (fun K49 hK49 => ?_)
          refine S_as rfl ?_
          refine S_nil (hK49 _ _ (V_keep [4] (by simp only [proj, lk, reduceIte, Nat.reduceEqDiff]; rfl) ?_)); clear hK49
          refine V_ret ?_
          refine hR _ _ (ret1 rfl rfl ?_)
          obtain ⟨k1, k2, k3⟩ := look_w w.i hid hcl hoth harr hd (v := W.vis + 1) rfl
          exact ⟨_, asgS s (lz (id * 12)) id, -1, rfl, ⟨hB.ext hE9 (fun e => w.ne e), by rw [has.2.2.2.1]; exact k1.ls (fun a b H => has.2.1.hold hcL H), hRS, w.ne⟩, ⟨has.2.2.1, has.2.2.2.1, has.2.1, rfl, k2⟩, .inl ⟨rfl, fun _ => ⟨k3, cc, hcl, lz (id * 12), hbm, has.2.2.2.2, fun y hy e => has.2.1.sub (hbo y hy e)⟩⟩, (hE.mono fun _ e => .inl e).trans (hE9.mono fun _ e => .inr e)⟩
        · skip
          have hbt : lz (id * 12) ∈ lits s.L := by rcases hv4 with q | q | q; (exact q.2); (exact absurd q.2 (htr 0 (by omega))); (omega)
          refine V_skipk [] (by simp only [proj, lk, reduceIte, Nat.reduceEqDiff]; rfl) ?_
          refine hK47 _ _ ?_; clear hK47
          refine V_sr T.mix (by kernel_rfl) (fun K50 hK50 => ?_)
          refine S_as rfl ?_
          refine S_nil (hK50 _ _ (V_keep [4] (by simp only [proj, lk, reduceIte, Nat.reduceEqDiff]; rfl) ?_)); clear hK50
          refine V_ret ?_
          refine hR _ _ (ret1 rfl rfl ?_)
          obtain ⟨k1, k2, k3⟩ := look_w w.i hid hcl hoth harr hd (v := W.vis + 1) rfl
          exact ⟨_, s, -1, rfl, ⟨hB, k1, w.t.ext hE (fun e => w.ne e.symm), w.ne⟩, ⟨rfl, rfl, .inl rfl, rfl, k2⟩, .inl ⟨rfl, fun _ => ⟨k3, cc, hcl, lz (id * 12), hbm, hbt, hbo⟩⟩, hE.mono fun _ e => .inl e⟩
set_option maxHeartbeats 3200000 in
theorem visit_spec (h : Heap) (C X : Nat) (W : WC) (cl : Nat → Option (List Int)) (s : TS) (p : Nat) (w : WX h C X W cl s p) (id : Nat) (hid : id < 52) (p0 : Int) (hp : (lits s.L)[s.c]? = some p0) (hlb : (W.list (cdn (-p0))).testBit id = true) (cc : List Int) (hcl : cl id = some cc) (hv : W.vis ≤ 100000) :
    FC Tryz.prog 140 (#[.pointer (some ⟨C, 0, none⟩), .int .i64 (id : Int), .int .i64 p0] : Array Value) h fun rv h' => ∃ (W' : WC) (s' : TS) (r : Int), rv = .int .i64 r ∧ WX h' C X W' cl s' p ∧ (s'.k = s.k ∧ s'.c = s.c ∧ One cl s.k s.L s'.L ∧ W'.vis = W.vis + 1 ∧ (∀ j, j ≠ id → vw W' j = vw W j)) ∧ ((r = -1 ∧ Go.Wat.Loc (vw W' id) (cl id) (lits s'.L) (s.c + 1) ∧ (dueW W' id = true → W'.fresh.testBit id = false ∧ WK cl id (lits s'.L))) ∨ (r = id ∧ W'.fresh.testBit id = false ∧ AF cl id (lits s'.L))) ∧ Ext (FX C X) h h' := by
  have hB := w.b
  have hE := Ext.refl (fun x => x = C) h
  have hlt := w.i.lt
  obtain ⟨hnr, hsz, harr0⟩ := wi_arr w.i hid hcl
  have hln := hnr.len
  have hcon := con_lits w.ok
  have hcL := w.ok.c
  have hgp : gd p0 := gd_lits w.ok (mem_idx.2 ⟨_, hp⟩)
  have hgp2 := hgp
  unfold gd at hgp2
  have hgm : gd (-p0) := by unfold gd; omega
  have hpm : p0 ∈ lits s.L := mem_idx.2 ⟨_, hp⟩
  have hnp : -p0 ∉ lits s.L := hcon _ hpm
  have hLo := w.i.lo id hid
  have hc26 := cdn_lt hgm
  obtain ⟨hs, hn2, hor⟩ := Go.Wat.Loc.hit (by rw [hcl] at hLo; exact hLo) hgp (by rw [vw_l hc26]; exact hlb)
  replace hn2 : 2 ≤ cc.length := by rw [← hsz]; exact hn2
  rw [vw_a (by omega), vw_a (by omega)] at hor
  simp only [Nat.add_zero] at hor
  have hne01 : W.lits (id * 12) ≠ W.lits (id * 12 + 1) := fun e => by have h9 := harr0.2.2.2 0 1 (by omega) (by omega) (by simpa using e); omega
  have hcl1 : s.c < s.L.length := lits_lt hp
  refine FC_of [(0, .pointer (some ⟨C, 0, none⟩)), (1, .int .i64 (id : Int)), (2, .int .i64 p0)] Tryz.func140 rfl Tryz.ntmps140 (by simp) rfl (fun R hR => ?_)
  refine V_sr T.mix (by kernel_rfl) (fun K1 hK1 => ?_)
  refine S_as rfl ?_
  refine S_nil (hK1 _ _ (V_keep [0, 1, 2] (by simp only [proj, lk, reduceIte, Nat.reduceEqDiff]; rfl) ?_)); clear hK1
  refine V_sr T.mix (by kernel_rfl) (fun K2 hK2 => ?_)
  refine S_mv rfl ?_
  refine S_nc rfl ?_
  first | refine S_fa0 T.f78_7 rfl ?_ | refine S_fa T.f78_7 rfl ?_
  refine S_ldK T.ag3 rfl (fun K' hK' => ?_)
  simp (disch := omega) only [wlT hB, wlLit hB, wlSize hB, wlUsed hB, wlFresh hB, wlWeak hB, wlList hB, wlVis hB, oP_some, Nat.add_zero]
  refine hK' _ ?_; clear hK' K'
  first | refine S_add rfl rfl (by omega) (by omega) ?_ | refine S_bin rfl rfl rfl ?_
  refine S_nc rfl ?_
  first | refine S_fa0 T.f78_7 rfl ?_ | refine S_fa T.f78_7 rfl ?_
  refine S_st T.sz3 rfl rfl rfl rfl (by simp (disch := omega) only [wok hB]) ?_
  generalize hh : putH _ _ _ = h1
  have hBh1 : WB h1 C X { W with vis := W.vis + 1 } := by rw [← hh]; exact wsVis hB (W.vis + 1)
  have hEh1 : Ext (fun x => x = C) h h1 := by rw [← hh]; exact Ext.put _ _ rfl
  clear hh
  replace hE := hE.trans hEh1
  clear hB
  have hB := hBh1
  refine S_nil (hK2 _ _ (V_keep [0, 1, 2] (by simp only [proj, lk, reduceIte, Nat.reduceEqDiff]; rfl) ?_)); clear hK2
  refine V_sr T.mix (by kernel_rfl) (fun K3 hK3 => ?_)
  refine S_mv rfl ?_
  first | refine S_mul rfl rfl (by omega) (by omega) ?_ | refine S_bin rfl rfl rfl ?_
  refine S_as rfl ?_
  refine S_nil (hK3 _ _ (V_keep [0, 1, 2, 7] (by simp only [proj, lk, reduceIte, Nat.reduceEqDiff]; rfl) ?_)); clear hK3
  refine V_sr T.mix (by kernel_rfl) (fun K4 hK4 => ?_)
  refine S_mv rfl ?_
  first | refine S_neg rfl (by omega) (by omega) ?_ | refine S_un rfl rfl ?_
  refine S_as rfl ?_
  refine S_nil (hK4 _ _ (V_keep [0, 1, 2, 7, 8] (by simp only [proj, lk, reduceIte, Nat.reduceEqDiff]; rfl) ?_)); clear hK4
  refine V_seqJ (fun l h' => ∃ (h3 : Heap) (lz : Nat → Int), (WB h3 C X { W with vis := W.vis + 1, lits := lz }) ∧ (∀ j, (j < id * 12 ∨ id * 12 + 12 ≤ j) → lz j = W.lits j) ∧ (Arr (fun j => lz (id * 12 + j)) cc.length cc) ∧ (lz (id * 12 + 1) = -p0) ∧ ((lz (id * 12) = W.lits (id * 12) ∧ lz (id * 12 + 1) = W.lits (id * 12 + 1)) ∨ (lz (id * 12) = W.lits (id * 12 + 1) ∧ lz (id * 12 + 1) = W.lits (id * 12))) ∧ (Ext (fun x => x = C) h h3) ∧ l = [(0, .pointer (some ⟨C, 0, none⟩)), (1, .int .i64 (id : Int)), (2, .int .i64 p0), (7, .int .i64 ((id * 12 : Nat) : Int)), (8, .int .i64 (-p0))] ∧ h3 = h') ?_ ?_
  · skip
    refine V_sr T.mix (by kernel_rfl) (fun K6 hK6 => ?_)
    refine S_mv rfl ?_
    refine S_mv rfl ?_
    refine S_nc rfl ?_
    first | refine S_fa0 T.f78_1 rfl ?_ | refine S_fa T.f78_1 rfl ?_
    first | refine S_ixan T.ar73 rfl rfl (by omega) ?_ | refine S_ixa1 T.ar73 rfl rfl (by omega) (by omega) ?_
    refine S_ldK T.ag3 rfl (fun K' hK' => ?_)
    simp (disch := omega) only [wlT hB, wlLit hB, wlSize hB, wlUsed hB, wlFresh hB, wlWeak hB, wlList hB, wlVis hB, oP_some, Nat.add_zero]
    refine hK' _ ?_; clear hK' K'
    refine S_mv rfl ?_
    refine S_bin rfl rfl rfl ?_
    refine S_nil (hK6 _ _ (V_keep [0, 1, 2, 7, 8, 40] (by simp only [proj, lk, reduceIte, Nat.reduceEqDiff]; rfl) ?_)); clear hK6
    refine V_condp rfl (fun c49 => ?_) (fun c49 => ?_)
    · skip
      rw [show ((id : Int) * 12).toNat = id * 12 by omega] at c49
      refine V_sr T.mix (by kernel_rfl) (fun K7 hK7 => ?_)
      refine S_mv rfl ?_
      refine S_mv rfl ?_
      refine S_mv rfl ?_
      refine S_mv rfl ?_
      first | refine S_add rfl rfl (by omega) (by omega) ?_ | refine S_bin rfl rfl rfl ?_
      refine S_nc rfl ?_
      first | refine S_fa0 T.f78_1 rfl ?_ | refine S_fa T.f78_1 rfl ?_
      first | refine S_ixan T.ar73 rfl rfl (by omega) ?_ | refine S_ixa1 T.ar73 rfl rfl (by omega) (by omega) ?_
      refine S_ldK T.ag3 rfl (fun K' hK' => ?_)
      simp (disch := omega) only [wlT hB, wlLit hB, wlSize hB, wlUsed hB, wlFresh hB, wlWeak hB, wlList hB, wlVis hB, oP_some, Nat.add_zero]
      refine hK' _ ?_; clear hK' K'
      refine S_nc rfl ?_
      first | refine S_fa0 T.f78_1 rfl ?_ | refine S_fa T.f78_1 rfl ?_
      first | refine S_ixan T.ar73 rfl rfl (by omega) ?_ | refine S_ixa1 T.ar73 rfl rfl (by omega) (by omega) ?_
      refine S_st T.sz3 rfl rfl rfl rfl (by simp (disch := omega) only [wok hB]) ?_
      generalize hh : putH _ _ _ = h2
      have hBh2 : WB h2 C X { W with vis := W.vis + 1, lits := upI W.lits (id * 12) (W.lits (id * 12 + 1)) } := by rw [← hh]; exact wsLit hB (id * 12) (W.lits (id * 12 + 1)) (by omega)
      have hEh2 : Ext (fun x => x = C) h1 h2 := by rw [← hh]; exact Ext.put _ _ rfl
      clear hh
      replace hE := hE.trans hEh2
      clear hB
      have hB := hBh2
      refine S_nil (hK7 _ _ (V_keep [0, 1, 2, 7, 8] (by simp only [proj, lk, reduceIte, Nat.reduceEqDiff]; rfl) ?_)); clear hK7
      refine V_reg T.mix (by kernel_rfl) ?_
      refine S_mv rfl ?_
      refine S_mv rfl ?_
      first | refine S_add rfl rfl (by omega) (by omega) ?_ | refine S_bin rfl rfl rfl ?_
      refine S_mv rfl ?_
      refine S_nc rfl ?_
      first | refine S_fa0 T.f78_1 rfl ?_ | refine S_fa T.f78_1 rfl ?_
      first | refine S_ixan T.ar73 rfl rfl (by omega) ?_ | refine S_ixa1 T.ar73 rfl rfl (by omega) (by omega) ?_
      refine S_st T.sz3 rfl rfl rfl rfl (by simp (disch := omega) only [wok hB]) ?_
      generalize hh : putH _ _ _ = h3
      have hBh3 : WB h3 C X { W with vis := W.vis + 1, lits := upI (upI W.lits (id * 12) (W.lits (id * 12 + 1))) (id * 12 + 1) (-p0) } := by rw [← hh]; exact wsLit hB (id * 12 + 1) (-p0) (by omega)
      have hEh3 : Ext (fun x => x = C) h2 h3 := by rw [← hh]; exact Ext.put _ _ rfl
      clear hh
      replace hE := hE.trans hEh3
      clear hB
      have hB := hBh3
      refine S_nilk [0, 1, 2, 7, 8] (by simp only [proj, lk, reduceIte, Nat.reduceEqDiff]; rfl) ?_
      exact ⟨h3, _, hB, fun j hj => by rw [upI_ne (by omega), upI_ne (by omega)], by have h9 := sw_arr harr0 (p := 0) (q := 1) (by omega) (by omega); simp only [Nat.add_zero] at h9; rw [c49] at h9; exact h9, upI_self _ _ _, .inr ⟨by rw [upI_ne (by omega), upI_self], by rw [upI_self, c49]⟩, hE, rfl, rfl⟩
    · skip
      rw [show ((id : Int) * 12).toNat = id * 12 by omega] at c49
      refine V_skipk [0, 1, 2, 7, 8] (by simp only [proj, lk, reduceIte, Nat.reduceEqDiff]; rfl) ?_
      exact ⟨h1, W.lits, hB, fun j hj => rfl, harr0, hor.resolve_left c49, .inl ⟨rfl, rfl⟩, hE, rfl, rfl⟩
  rintro l h' ⟨h3, lz, hB3, hoth, harr, e1, hset, hE3, rfl, rfl⟩
  clear hB hE
  have hB := hB3
  have hE := hE3
  have hgq : gd (lz (id * 12)) := hnr.1 _ (harr.2.1 0 (by omega))
  have hgq2 := hgq
  unfold gd at hgq2
  have hv3 := vO3 (s := s) hgq
  have hq0 : (lz (id * 12)) ≠ -p0 := fun e => by have h9 := harr.2.2.2 0 1 (by omega) (by omega) (by simp only [Nat.add_zero]; rw [e, e1]); omega
  refine V_sr T.mix (by kernel_rfl) (fun K8 hK8 => ?_)
  refine S_mv rfl ?_
  refine S_mv rfl ?_
  refine S_nc rfl ?_
  first | refine S_fa0 T.f78_1 rfl ?_ | refine S_fa T.f78_1 rfl ?_
  first | refine S_ixan T.ar73 rfl rfl (by omega) ?_ | refine S_ixa1 T.ar73 rfl rfl (by omega) (by omega) ?_
  refine S_ldK T.ag3 rfl (fun K' hK' => ?_)
  simp (disch := omega) only [wlT hB, wlLit hB, wlSize hB, wlUsed hB, wlFresh hB, wlWeak hB, wlList hB, wlVis hB, oP_some, Nat.add_zero]
  refine hK' _ ?_; clear hK' K'
  refine S_as rfl ?_
  refine S_nil (hK8 _ _ (V_keep [0, 1, 2, 7, 8, 9] (by simp only [proj, lk, reduceIte, Nat.reduceEqDiff]; rfl) ?_)); clear hK8
  refine V_sr T.mix (by kernel_rfl) (fun K9 hK9 => ?_)
  refine S_mv rfl ?_
  refine S_nc rfl ?_
  first | refine S_fa0 T.f78_0 rfl ?_ | refine S_fa T.f78_0 rfl ?_
  refine S_ldK T.ag30 rfl (fun K' hK' => ?_)
  simp (disch := omega) only [wlT hB, wlLit hB, wlSize hB, wlUsed hB, wlFresh hB, wlWeak hB, wlList hB, wlVis hB, oP_some, Nat.add_zero]
  refine hK' _ ?_; clear hK' K'
  refine S_mv rfl ?_
  refine S_call T.hb75 rfl ?_
  refine FC.mono (value_spec h3 X s p (w.t.ext hE (fun e => w.ne e.symm)) (lz (id * 12))) ?_
  rintro v' h' ⟨rfl, rfl⟩
  refine S_as rfl ?_
  refine S_nil (hK9 _ _ (V_keep [0, 1, 2, 7, 8, 9, 10] (by simp only [proj, lk, reduceIte, Nat.reduceEqDiff]; rfl) ?_)); clear hK9
  refine V_seqJ (fun l h' => (True) ∧ l = [(0, .pointer (some ⟨C, 0, none⟩)), (1, .int .i64 (id : Int)), (7, .int .i64 ((id * 12 : Nat) : Int)), (8, .int .i64 (-p0)), (9, .int .i64 (lz (id * 12))), (10, .int .i64 (valO s (lz (id * 12))))] ∧ h3 = h') ?_ ?_
  · skip
    refine V_sr T.mix (by kernel_rfl) (fun K11 hK11 => ?_)
    refine S_mv rfl ?_
    refine S_bin rfl rfl rfl ?_
    refine S_nil (hK11 _ _ (V_keep [0, 1, 2, 7, 8, 9, 10, 73] (by simp only [proj, lk, reduceIte, Nat.reduceEqDiff]; rfl) ?_)); clear hK11
    refine V_condp rfl (fun c55 => ?_) (fun c55 => ?_)
    · skip
      refine V_sr T.mix (by kernel_rfl) (fun K12 hK12 => ?_)
      refine S_mv rfl ?_
      refine S_call T.hb52 rfl ?_
      refine FC.mono (var_spec _ ((lz (id * 12))) (by omega) (by omega)) ?_
      rintro v' h' ⟨rfl, rfl⟩
      refine S_as rfl ?_
      refine S_nil (hK12 _ _ (V_keep [0, 1, 2, 7, 8, 9, 10, 11] (by simp only [proj, lk, reduceIte, Nat.reduceEqDiff]; rfl) ?_)); clear hK12
      refine V_sr T.mix (by kernel_rfl) (fun K13 hK13 => ?_)
      refine S_mv rfl ?_
      refine S_nc rfl ?_
      first | refine S_fa0 T.f78_0 rfl ?_ | refine S_fa T.f78_0 rfl ?_
      refine S_ldK T.ag30 rfl (fun K' hK' => ?_)
      simp (disch := omega) only [wlT hB, wlLit hB, wlSize hB, wlUsed hB, wlFresh hB, wlWeak hB, wlList hB, wlVis hB, oP_some, Nat.add_zero]
      refine hK' _ ?_; clear hK' K'
      refine S_mv rfl ?_
      refine S_call T.hb146 rfl ?_
      refine FC.mono (place_spec h3 X s p (w.t.ext hE (fun e => w.ne e.symm)) ((lz (id * 12)).natAbs : Int)) ?_
      rintro v' h' ⟨rfl, rfl⟩
      refine S_as rfl ?_
      refine S_nil (hK13 _ _ (V_keep [0, 1, 2, 7, 8, 9, 10, 12] (by simp only [proj, lk, reduceIte, Nat.reduceEqDiff]; rfl) ?_)); clear hK13
      refine V_sr T.mix (by kernel_rfl) (fun K14 hK14 => ?_)
      refine S_mv rfl ?_
      refine S_call T.hb52 rfl ?_
      refine FC.mono (var_spec _ (p0) (by omega) (by omega)) ?_
      rintro v' h' ⟨rfl, rfl⟩
      refine S_as rfl ?_
      refine S_nil (hK14 _ _ (V_keep [0, 1, 7, 8, 9, 10, 12, 13] (by simp only [proj, lk, reduceIte, Nat.reduceEqDiff]; rfl) ?_)); clear hK14
      refine V_sr T.mix (by kernel_rfl) (fun K15 hK15 => ?_)
      refine S_mv rfl ?_
      refine S_nc rfl ?_
      first | refine S_fa0 T.f78_0 rfl ?_ | refine S_fa T.f78_0 rfl ?_
      refine S_ldK T.ag30 rfl (fun K' hK' => ?_)
      simp (disch := omega) only [wlT hB, wlLit hB, wlSize hB, wlUsed hB, wlFresh hB, wlWeak hB, wlList hB, wlVis hB, oP_some, Nat.add_zero]
      refine hK' _ ?_; clear hK' K'
      refine S_mv rfl ?_
      refine S_call T.hb146 rfl ?_
      refine FC.mono (place_spec h3 X s p (w.t.ext hE (fun e => w.ne e.symm)) (p0.natAbs : Int)) ?_
      rintro v' h' ⟨rfl, rfl⟩
      refine S_as rfl ?_
      refine S_nil (hK15 _ _ (V_keep [0, 1, 7, 8, 9, 10, 12, 14] (by simp only [proj, lk, reduceIte, Nat.reduceEqDiff]; rfl) ?_)); clear hK15
      refine V_sr T.mix (by kernel_rfl) (fun K16 hK16 => ?_)
      refine S_mv rfl ?_
      refine S_mv rfl ?_
      refine S_bin rfl rfl rfl ?_
      refine S_nil (hK16 _ _ (V_keep [0, 1, 7, 8, 9, 10, 92] (by simp only [proj, lk, reduceIte, Nat.reduceEqDiff]; rfl) ?_)); clear hK16
      refine V_condp rfl (fun c60 => ?_) (fun c60 => ?_)
      · skip
        refine V_sr T.mix (by kernel_rfl) (fun K17 hK17 => ?_)
        refine S_as rfl ?_
        refine S_nil (hK17 _ _ (V_keep [6] (by simp only [proj, lk, reduceIte, Nat.reduceEqDiff]; rfl) ?_)); clear hK17
        refine V_ret ?_
        refine hR _ _ (ret1 rfl rfl ?_)
        obtain ⟨j, hj⟩ : ∃ j, (lits s.L)[j]? = some (lz (id * 12)) := mem_idx.1 (by rcases hv3 with q | q | q; (exact q.2); (omega); (omega))
        rw [pla_nat w.ok hj, pla_nat w.ok hp] at c60
        obtain ⟨k1, k2, k3, k4⟩ := visit_a w.i hid hcl hoth harr hs hn2 hcon hp (fun i hi => (lits_one w.ok hi hp (.inl rfl)).1) e1 hset (j := j) (by omega) hj (v := W.vis + 1) rfl
        exact ⟨_, s, -1, rfl, ⟨hB, k1, (w.t.ext hE (fun e => w.ne e.symm)), w.ne⟩, ⟨rfl, rfl, .inl rfl, rfl, k2⟩, .inl ⟨rfl, k4, fun e => by rw [k3] at e; cases e⟩, hE.mono fun _ e => .inl e⟩
      · skip
        refine V_skipk [0, 1, 7, 8, 9, 10] (by simp only [proj, lk, reduceIte, Nat.reduceEqDiff]; rfl) ?_
        exact ⟨trivial, rfl, rfl⟩
    · skip
      refine V_skipk [0, 1, 7, 8, 9, 10] (by simp only [proj, lk, reduceIte, Nat.reduceEqDiff]; rfl) ?_
      exact ⟨trivial, rfl, rfl⟩
  rintro l h' ⟨htt, rfl, rfl⟩
  refine V_sr T.mix (by kernel_rfl) (fun K18 hK18 => ?_)
  refine S_mv rfl ?_
  refine S_call T.hb118 rfl ?_
  refine FC.mono (bit_spec h3 id hid) ?_
  rintro v' h' ⟨rfl, rfl⟩
  refine S_as rfl ?_
  refine S_nil (hK18 _ _ (V_keep [0, 1, 7, 8, 9, 10, 15] (by simp only [proj, lk, reduceIte, Nat.reduceEqDiff]; rfl) ?_)); clear hK18
  refine V_sr T.mix (by kernel_rfl) (fun K19 hK19 => ?_)
  refine S_mv rfl ?_
  refine S_mv rfl ?_
  refine S_nc rfl ?_
  first | refine S_fa0 T.f78_2 rfl ?_ | refine S_fa T.f78_2 rfl ?_
  first | refine S_ixan T.ar74 rfl rfl (by omega) ?_ | refine S_ixa1 T.ar74 rfl rfl (by omega) (by omega) ?_
  refine S_ldK T.ag3 rfl (fun K' hK' => ?_)
  simp (disch := omega) only [wlT hB, wlLit hB, wlSize hB, wlUsed hB, wlFresh hB, wlWeak hB, wlList hB, wlVis hB, oP_some, Nat.add_zero]
  refine hK' _ ?_; clear hK' K'
  rw [hsz]
  refine S_as rfl ?_
  refine S_nil (hK19 _ _ (V_keep [0, 1, 7, 8, 9, 10, 15, 16] (by simp only [proj, lk, reduceIte, Nat.reduceEqDiff]; rfl) ?_)); clear hK19
  refine V_seq (fun K20 hK20 => ?_)
  refine V_sr T.mix (by kernel_rfl) (fun K21 hK21 => ?_)
  refine S_as rfl ?_
  refine S_nil (hK21 _ _ (V_keep [0, 1, 7, 8, 9, 10, 15, 16, 17] (by simp only [proj, lk, reduceIte, Nat.reduceEqDiff]; rfl) ?_)); clear hK21
  refine V_block ?_
  refine V_loop (fun m l h' => ∃ (k : Nat), (2 ≤ k) ∧ (k ≤ cc.length) ∧ (∀ j, 2 ≤ j → j < k → -(lz (id * 12 + j)) ∈ lits s.L) ∧ m = cc.length - k ∧ l = [(0, .pointer (some ⟨C, 0, none⟩)), (1, .int .i64 (id : Int)), (7, .int .i64 ((id * 12 : Nat) : Int)), (8, .int .i64 (-p0)), (9, .int .i64 (lz (id * 12))), (10, .int .i64 (valO s (lz (id * 12)))), (15, .int .u64 ((2 ^ id : Nat) : Int)), (16, .int .i64 (cc.length : Int)), (17, .int .i64 (k : Int))] ∧ h3 = h') _ ⟨2, by omega, by omega, fun j h1 h2 => by omega, rfl, rfl, rfl⟩ ?_
  rintro m l h' ⟨k, hk1, hk2, hfa, rfl, rfl, rfl⟩ K22 hK22
  refine V_seq (fun K23 hK23 => ?_)
  refine V_sr T.mix (by kernel_rfl) (fun K24 hK24 => ?_)
  refine S_mv rfl ?_
  refine S_mv rfl ?_
  refine S_bin rfl rfl rfl ?_
  refine S_nil (hK24 _ _ (V_keep [0, 1, 7, 8, 9, 10, 15, 16, 17, 103] (by simp only [proj, lk, reduceIte, Nat.reduceEqDiff]; rfl) ?_)); clear hK24
  refine V_condp rfl (fun c66 => ?_) (fun c66 => ?_)
  · skip
    have hgl : gd (lz (id * 12 + k)) := hnr.1 _ (harr.2.1 k (by omega))
    have hv4 := vO3 (s := s) hgl
    have hcl26 := cdn_lt hgl
    refine V_skipk [0, 1, 7, 8, 9, 10, 15, 16, 17] (by simp only [proj, lk, reduceIte, Nat.reduceEqDiff]; rfl) ?_
    refine hK23 _ _ ?_; clear hK23
    refine V_seq (fun K25 hK25 => ?_)
    refine V_block ?_
    refine V_sr T.mix (by kernel_rfl) (fun K26 hK26 => ?_)
    refine S_mv rfl ?_
    refine S_mv rfl ?_
    refine S_mv rfl ?_
    first | refine S_add rfl rfl (by omega) (by omega) ?_ | refine S_bin rfl rfl rfl ?_
    refine S_nc rfl ?_
    first | refine S_fa0 T.f78_1 rfl ?_ | refine S_fa T.f78_1 rfl ?_
    first | refine S_ixan T.ar73 rfl rfl (by omega) ?_ | refine S_ixa1 T.ar73 rfl rfl (by omega) (by omega) ?_
    refine S_ldK T.ag3 rfl (fun K' hK' => ?_)
    simp (disch := omega) only [wlT hB, wlLit hB, wlSize hB, wlUsed hB, wlFresh hB, wlWeak hB, wlList hB, wlVis hB, oP_some, Nat.add_zero]
    refine hK' _ ?_; clear hK' K'
    refine S_as rfl ?_
    refine S_nil (hK26 _ _ (V_keep [0, 1, 7, 8, 9, 10, 15, 16, 17, 18] (by simp only [proj, lk, reduceIte, Nat.reduceEqDiff]; rfl) ?_)); clear hK26
    refine V_sr T.mix (by kernel_rfl) (fun K27 hK27 => ?_)
    refine S_mv rfl ?_
    refine S_nc rfl ?_
    first | refine S_fa0 T.f78_0 rfl ?_ | refine S_fa T.f78_0 rfl ?_
    refine S_ldK T.ag30 rfl (fun K' hK' => ?_)
    simp (disch := omega) only [wlT hB, wlLit hB, wlSize hB, wlUsed hB, wlFresh hB, wlWeak hB, wlList hB, wlVis hB, oP_some, Nat.add_zero]
    refine hK' _ ?_; clear hK' K'
    refine S_mv rfl ?_
    refine S_call T.hb75 rfl ?_
    refine FC.mono (value_spec h3 X s p (w.t.ext hE (fun e => w.ne e.symm)) (lz (id * 12 + k))) ?_
    rintro v' h' ⟨rfl, rfl⟩
    refine S_as rfl ?_
    refine S_nil (hK27 _ _ (V_keep [0, 1, 7, 8, 9, 10, 15, 16, 17, 18, 19] (by simp only [proj, lk, reduceIte, Nat.reduceEqDiff]; rfl) ?_)); clear hK27
    refine V_sr T.mix (by kernel_rfl) (fun K28 hK28 => ?_)
    refine S_mv rfl ?_
    refine S_bin rfl rfl rfl ?_
    refine S_nil (hK28 _ _ (V_keep [0, 1, 7, 8, 9, 10, 15, 16, 17, 18, 121] (by simp only [proj, lk, reduceIte, Nat.reduceEqDiff]; rfl) ?_)); clear hK28
    refine V_condp rfl (fun c69 => ?_) (fun c69 => ?_)
    · skip
      have hnf : -(lz (id * 12 + k)) ∉ lits s.L := by rcases hv4 with q | q | q; (exact hcon _ q.2); (omega); (exact q.2.2)
      refine V_sr T.mix (by kernel_rfl) (fun K29 hK29 => ?_)
      refine S_mv rfl ?_
      refine S_mv rfl ?_
      first | refine S_add rfl rfl (by omega) (by omega) ?_ | refine S_bin rfl rfl rfl ?_
      refine S_mv rfl ?_
      refine S_nc rfl ?_
      first | refine S_fa0 T.f78_1 rfl ?_ | refine S_fa T.f78_1 rfl ?_
      first | refine S_ixan T.ar73 rfl rfl (by omega) ?_ | refine S_ixa1 T.ar73 rfl rfl (by omega) (by omega) ?_
      refine S_st T.sz3 rfl rfl rfl rfl (by simp (disch := omega) only [wok hB]) ?_
      generalize hh : putH _ _ _ = h4
      have hBh4 : WB h4 C X { W with vis := W.vis + 1, lits := upI lz (id * 12 + 1) (lz (id * 12 + k)) } := by rw [← hh]; exact wsLit hB (id * 12 + 1) (lz (id * 12 + k)) (by omega)
      have hEh4 : Ext (fun x => x = C) h3 h4 := by rw [← hh]; exact Ext.put _ _ rfl
      clear hh
      replace hE := hE.trans hEh4
      clear hB
      have hB := hBh4
      refine S_nil (hK29 _ _ (V_keep [0, 7, 8, 15, 17, 18] (by simp only [proj, lk, reduceIte, Nat.reduceEqDiff]; rfl) ?_)); clear hK29
      refine V_sr T.mix (by kernel_rfl) (fun K30 hK30 => ?_)
      refine S_mv rfl ?_
      refine S_mv rfl ?_
      refine S_mv rfl ?_
      first | refine S_add rfl rfl (by omega) (by omega) ?_ | refine S_bin rfl rfl rfl ?_
      refine S_mv rfl ?_
      refine S_nc rfl ?_
      first | refine S_fa0 T.f78_1 rfl ?_ | refine S_fa T.f78_1 rfl ?_
      first | refine S_ixan T.ar73 rfl rfl (by omega) ?_ | refine S_ixa1 T.ar73 rfl rfl (by omega) (by omega) ?_
      refine S_st T.sz3 rfl rfl rfl rfl (by simp (disch := omega) only [wok hB]) ?_
      generalize hh : putH _ _ _ = h5
      have hBh5 : WB h5 C X { W with vis := W.vis + 1, lits := (upI (upI lz (id * 12 + 1) (lz (id * 12 + k))) (id * 12 + k) (-p0)) } := by rw [← hh]; exact wsLit hB (id * 12 + k) (-p0) (by omega)
      have hEh5 : Ext (fun x => x = C) h4 h5 := by rw [← hh]; exact Ext.put _ _ rfl
      clear hh
      replace hE := hE.trans hEh5
      clear hB
      have hB := hBh5
      refine S_nil (hK30 _ _ (V_keep [0, 8, 15, 18] (by simp only [proj, lk, reduceIte, Nat.reduceEqDiff]; rfl) ?_)); clear hK30
      refine V_sr T.mix (by kernel_rfl) (fun K31 hK31 => ?_)
      refine S_mv rfl ?_
      refine S_call T.hb139 rfl ?_
      refine FC.mono (code_spec h5 (-p0) hgm) ?_
      rintro v' h' ⟨rfl, rfl⟩
      refine S_as rfl ?_
      refine S_nil (hK31 _ _ (V_keep [0, 15, 18, 20] (by simp only [proj, lk, reduceIte, Nat.reduceEqDiff]; rfl) ?_)); clear hK31
      refine V_sr T.mix (by kernel_rfl) (fun K32 hK32 => ?_)
      refine S_mv rfl ?_
      refine S_mv rfl ?_
      refine S_nc rfl ?_
      first | refine S_fa0 T.f78_6 rfl ?_ | refine S_fa T.f78_6 rfl ?_
      first | refine S_ixan T.ar76 rfl rfl (by omega) ?_ | refine S_ixa1 T.ar76 rfl rfl (by omega) (by omega) ?_
      refine S_ldK T.ag75 rfl (fun K' hK' => ?_)
      simp (disch := omega) only [wlT hB, wlLit hB, wlSize hB, wlUsed hB, wlFresh hB, wlWeak hB, wlList hB, wlVis hB, oP_some, Nat.add_zero]
      refine hK' _ ?_; clear hK' K'
      refine S_mv rfl ?_
      refine S_nandn (W.list (cdn (-p0))) (2 ^ id) rfl rfl rfl rfl rfl (b52 (w.i.llt hc26)) (b52 (p52 hid)) ?_
      refine S_nc rfl ?_
      first | refine S_fa0 T.f78_6 rfl ?_ | refine S_fa T.f78_6 rfl ?_
      first | refine S_ixan T.ar76 rfl rfl (by omega) ?_ | refine S_ixa1 T.ar76 rfl rfl (by omega) (by omega) ?_
      refine S_st T.sz75 rfl rfl rfl rfl (by simp (disch := omega) only [wok hB]) ?_
      generalize hh : putH _ _ _ = h6
      have hBh6 : WB h6 C X { W with vis := W.vis + 1, lits := (upI (upI lz (id * 12 + 1) (lz (id * 12 + k))) (id * 12 + k) (-p0)), list := (upN W.list (cdn (-p0)) (wo (W.list (cdn (-p0))) (2 ^ id))) } := by rw [← hh]; exact wsList hB (cdn (-p0)) (wo (W.list (cdn (-p0))) (2 ^ id)) hc26
      have hEh6 : Ext (fun x => x = C) h5 h6 := by rw [← hh]; exact Ext.put _ _ rfl
      clear hh
      replace hE := hE.trans hEh6
      clear hB
      have hB := hBh6
      refine S_nil (hK32 _ _ (V_keep [0, 15, 18] (by simp only [proj, lk, reduceIte, Nat.reduceEqDiff]; rfl) ?_)); clear hK32
      refine V_sr T.mix (by kernel_rfl) (fun K33 hK33 => ?_)
      refine S_mv rfl ?_
      refine S_call T.hb139 rfl ?_
      refine FC.mono (code_spec h6 (lz (id * 12 + k)) hgl) ?_
      rintro v' h' ⟨rfl, rfl⟩
      have hl26 : (upN W.list (cdn (-p0)) (wo (W.list (cdn (-p0))) (2 ^ id))) (cdn (lz (id * 12 + k))) < 4503599627370496 := by unfold upN; split; (exact wo52 (w.i.llt hc26)); (exact w.i.llt hcl26)
      refine S_as rfl ?_
      refine S_nil (hK33 _ _ (V_keep [0, 15, 21] (by simp only [proj, lk, reduceIte, Nat.reduceEqDiff]; rfl) ?_)); clear hK33
      refine V_sr T.mix (by kernel_rfl) (fun K34 hK34 => ?_)
      refine S_mv rfl ?_
      refine S_mv rfl ?_
      refine S_nc rfl ?_
      first | refine S_fa0 T.f78_6 rfl ?_ | refine S_fa T.f78_6 rfl ?_
      first | refine S_ixan T.ar76 rfl rfl (by omega) ?_ | refine S_ixa1 T.ar76 rfl rfl (by omega) (by omega) ?_
      refine S_ldK T.ag75 rfl (fun K' hK' => ?_)
      simp (disch := omega) only [wlT hB, wlLit hB, wlSize hB, wlUsed hB, wlFresh hB, wlWeak hB, wlList hB, wlVis hB, oP_some, Nat.add_zero]
      refine hK' _ ?_; clear hK' K'
      refine S_mv rfl ?_
      refine S_nor ((upN W.list (cdn (-p0)) (wo (W.list (cdn (-p0))) (2 ^ id))) (cdn (lz (id * 12 + k)))) (2 ^ id) _ rfl rfl rfl rfl rfl (t52 hl26) (t52 (p52 hid)) ?_
      refine S_nc rfl ?_
      first | refine S_fa0 T.f78_6 rfl ?_ | refine S_fa T.f78_6 rfl ?_
      first | refine S_ixan T.ar76 rfl rfl (by omega) ?_ | refine S_ixa1 T.ar76 rfl rfl (by omega) (by omega) ?_
      refine S_st T.sz75 rfl rfl rfl rfl (by simp (disch := omega) only [wok hB]) ?_
      generalize hh : putH _ _ _ = h7
      have hBh7 : WB h7 C X { W with vis := W.vis + 1, lits := (upI (upI lz (id * 12 + 1) (lz (id * 12 + k))) (id * 12 + k) (-p0)), list := (upN (upN W.list (cdn (-p0)) (wo (W.list (cdn (-p0))) (2 ^ id))) (cdn (lz (id * 12 + k))) ((upN W.list (cdn (-p0)) (wo (W.list (cdn (-p0))) (2 ^ id))) (cdn (lz (id * 12 + k))) ||| 2 ^ id)) } := by rw [← hh]; exact wsList hB (cdn (lz (id * 12 + k))) ((upN W.list (cdn (-p0)) (wo (W.list (cdn (-p0))) (2 ^ id))) (cdn (lz (id * 12 + k))) ||| 2 ^ id) hcl26
      have hEh7 : Ext (fun x => x = C) h6 h7 := by rw [← hh]; exact Ext.put _ _ rfl
      clear hh
      replace hE := hE.trans hEh7
      clear hB
      have hB := hBh7
      refine S_nil (hK34 _ _ (V_keep [] (by simp only [proj, lk, reduceIte, Nat.reduceEqDiff]; rfl) ?_)); clear hK34
      refine V_sr T.mix (by kernel_rfl) (fun K35 hK35 => ?_)
      refine S_as rfl ?_
      refine S_nil (hK35 _ _ (V_keep [6] (by simp only [proj, lk, reduceIte, Nat.reduceEqDiff]; rfl) ?_)); clear hK35
      refine V_ret ?_
      refine hR _ _ (ret1 rfl rfl ?_)
      have hlp : (lz (id * 12 + k)) ≠ -p0 := fun e => by have h9 := harr.2.2.2 k 1 (by omega) (by omega) (by simp only []; rw [e, e1]); omega
      have ha2 : Arr (fun j => (upI (upI lz (id * 12 + 1) (lz (id * 12 + k))) (id * 12 + k) (-p0)) (id * 12 + j)) cc.length cc := by have h9 := sw_arr harr (p := 1) (q := k) (by omega) (by omega); rw [e1] at h9; exact h9
      have hse : (W.lits (id * 12) = (lz (id * 12)) ∧ W.lits (id * 12 + 1) = -p0) ∨ (W.lits (id * 12) = -p0 ∧ W.lits (id * 12 + 1) = (lz (id * 12))) := by rcases hset with ⟨q1, q2⟩ | ⟨q1, q2⟩; (exact .inl ⟨q1.symm, by rw [← q2]; exact e1⟩); (exact .inr ⟨by rw [← q2]; exact e1, q1.symm⟩)
      obtain ⟨k1, k2, k3, k4⟩ := visit_b w.i hid hcl (sw_oth (by omega) (by omega) hoth) ha2 hs hn2 hp hnp hgp hgq hgl (show _ = (lz (id * 12)) by have h9 := sw_val (lz := lz) (id := id) (p := 1) (q := k) (j := 0) (x := (lz (id * 12 + k))) (y := -p0); rw [if_neg (by omega), if_neg (by omega)] at h9; simpa using h9) (show _ = (lz (id * 12 + k)) by rw [sw_val, if_neg (by omega), if_pos rfl]) hse hq0 hlp hnf (v := W.vis + 1) rfl
      exact ⟨_, s, -1, rfl, ⟨hB, k1, (w.t.ext hE (fun e => w.ne e.symm)), w.ne⟩, ⟨rfl, rfl, .inl rfl, rfl, k2⟩, .inl ⟨rfl, k4, fun e => by rw [k3] at e; cases e⟩, hE.mono fun _ e => .inl e⟩
    · skip
      have hff : -(lz (id * 12 + k)) ∈ lits s.L := by rcases hv4 with q | q | q; (omega); (exact q.2); (omega)
      refine V_skipk [0, 1, 7, 8, 9, 10, 15, 16, 17] (by simp only [proj, lk, reduceIte, Nat.reduceEqDiff]; rfl) ?_
      refine hK25 _ _ ?_; clear hK25
      refine V_reg T.mix (by kernel_rfl) ?_
      refine S_mv rfl ?_
      first | refine S_add rfl rfl (by omega) (by omega) ?_ | refine S_bin rfl rfl rfl ?_
      refine S_as rfl ?_
      refine S_nilk [0, 1, 7, 8, 9, 10, 15, 16, 17] (by simp only [proj, lk, reduceIte, Nat.reduceEqDiff]; rfl) ?_
      exact hK22 _ _ ⟨_, by omega, k + 1, by omega, by omega, fun j h1 h2 => by by_cases e : j = k; (rw [e]; exact hff); (exact hfa j h1 (by omega)), rfl, rfl, rfl⟩
  · skip
    have hke : k = cc.length := by omega
    refine V_exitk [0, 1, 9, 10, 15] rfl (by simp only [proj, lk, reduceIte, Nat.reduceEqDiff]; rfl) ?_
    refine hK20 _ _ ?_; clear hK20
    refine V_sr T.mix (by kernel_rfl) (fun K36 hK36 => ?_)
    refine S_mv rfl ?_
    refine S_mv rfl ?_
    refine S_call T.hb145 rfl ?_
    have hg1 : gd (lz (id * 12 + 1)) := by rw [e1]; exact hgm
    refine FC.mono (unlink_spec h3 C X _ hB id hid hgq hg1 (fun q hq => w.i.llt hq)) ?_
    rintro v' h8 ⟨rfl, hB8, hE8⟩
    clear hB
    have hB := hB8
    replace hE := hE.trans hE8
    obtain ⟨k1, k2, k3, k4⟩ := visit_c w.i hid hcl hoth harr hs hset (v := W.vis + 1) rfl rfl
    have hcc : ∀ y ∈ cc, y ≠ lz (id * 12) → -y ∈ lits s.L := fun y hy e => by
      obtain ⟨j, hj, q⟩ := harr.2.2.1 y hy
      have hj0 : j ≠ 0 := fun z => e (by rw [← q, z]; rfl)
      by_cases hj1 : j = 1
      · rw [← q, hj1]; simp only []; rw [e1, Int.neg_neg]; exact hpm
      · rw [← q]; exact hfa j (by omega) (by omega)
    have hbm : lz (id * 12) ∈ cc := harr.2.1 0 (by omega)
    refine S_nil (hK36 _ _ (V_keep [0, 1, 9, 10, 15] (by simp only [proj, lk, reduceIte, Nat.reduceEqDiff]; rfl) ?_)); clear hK36
    refine V_sr T.mix (by kernel_rfl) (fun K37 hK37 => ?_)
    refine S_mv rfl ?_
    refine S_nc rfl ?_
    first | refine S_fa0 T.f78_5 rfl ?_ | refine S_fa T.f78_5 rfl ?_
    refine S_ldK T.ag75 rfl (fun K' hK' => ?_)
    simp (disch := omega) only [wlT hB, wlLit hB, wlSize hB, wlUsed hB, wlFresh hB, wlWeak hB, wlList hB, wlVis hB, oP_some, Nat.add_zero]
    refine hK' _ ?_; clear hK' K'
    refine S_mv rfl ?_
    refine S_nor W.weak (2 ^ id) _ rfl rfl rfl rfl rfl (t52 hlt.2.2) (t52 (p52 hid)) ?_
    refine S_nc rfl ?_
    first | refine S_fa0 T.f78_5 rfl ?_ | refine S_fa T.f78_5 rfl ?_
    refine S_st T.sz75 rfl rfl rfl rfl (by simp (disch := omega) only [wok hB]) ?_
    generalize hh : putH _ _ _ = h10
    have hBh10 : WB h10 C X { W with vis := W.vis + 1, lits := lz, list := ulL { W with vis := W.vis + 1, lits := lz } id (cdn (lz (id * 12))) (cdn (lz (id * 12 + 1))), weak := W.weak ||| 2 ^ id } := by rw [← hh]; exact wsWeak hB (W.weak ||| 2 ^ id)
    have hEh10 : Ext (fun x => x = C) h8 h10 := by rw [← hh]; exact Ext.put _ _ rfl
    clear hh
    replace hE := hE.trans hEh10
    clear hB
    have hB := hBh10
    refine S_nil (hK37 _ _ (V_keep [0, 1, 9, 10] (by simp only [proj, lk, reduceIte, Nat.reduceEqDiff]; rfl) ?_)); clear hK37
    refine V_seq (fun K38 hK38 => ?_)
    refine V_sr T.mix (by kernel_rfl) (fun K39 hK39 => ?_)
    refine S_mv rfl ?_
    refine S_bin rfl rfl rfl ?_
    refine S_nil (hK39 _ _ (V_keep [0, 1, 9, 10, 175] (by simp only [proj, lk, reduceIte, Nat.reduceEqDiff]; rfl) ?_)); clear hK39
    refine V_condp rfl (fun c81 => ?_) (fun c81 => ?_)
    · skip
      refine V_sr T.mix (by kernel_rfl) (fun K40 hK40 => ?_)
      refine S_mv rfl ?_
      refine S_as rfl ?_
      refine S_nil (hK40 _ _ (V_keep [6] (by simp only [proj, lk, reduceIte, Nat.reduceEqDiff]; rfl) ?_)); clear hK40
      refine V_ret ?_
      refine hR _ _ (ret1 rfl rfl ?_)
      exact ⟨_, s, id, rfl, ⟨hB, k1, (w.t.ext hE (fun e => w.ne e.symm)), w.ne⟩, ⟨rfl, rfl, .inl rfl, rfl, k2⟩, .inr ⟨rfl, k3, cc, hcl, fun y hy => by by_cases e : y = (lz (id * 12)); (rw [e]; rcases hv3 with q | q | q; (omega); (exact q.2); (omega)); (exact hcc y hy e)⟩, hE.mono fun _ e => .inl e⟩
    · skip
      refine V_skipk [0, 1, 9, 10] (by simp only [proj, lk, reduceIte, Nat.reduceEqDiff]; rfl) ?_
      refine hK38 _ _ ?_; clear hK38
      refine V_seq (fun K41 hK41 => ?_)
      refine V_sr T.mix (by kernel_rfl) (fun K42 hK42 => ?_)
      refine S_mv rfl ?_
      refine S_bin rfl rfl rfl ?_
      refine S_nil (hK42 _ _ (V_keep [0, 1, 9, 178] (by simp only [proj, lk, reduceIte, Nat.reduceEqDiff]; rfl) ?_)); clear hK42
      refine V_condp rfl (fun c84 => ?_) (fun c84 => ?_)
      · skip
        have hb0 : valO s (lz (id * 12)) = 0 := c84
        refine V_reg T.mix (by kernel_rfl) ?_
        refine S_mv rfl ?_
        refine S_nc rfl ?_
        first | refine S_fa0 T.f78_0 rfl ?_ | refine S_fa T.f78_0 rfl ?_
        refine S_ldK T.ag30 rfl (fun K' hK' => ?_)
        simp (disch := omega) only [wlT hB, wlLit hB, wlSize hB, wlUsed hB, wlFresh hB, wlWeak hB, wlList hB, wlVis hB, oP_some, Nat.add_zero]
        refine hK' _ ?_; clear hK' K'
        refine S_mv rfl ?_
        refine S_mv rfl ?_
        refine S_call T.hb138 rfl ?_
        have hbg := hgq
        have hbo := hcc
        have has := asg_one (s := s) w.ok hid hcl hbm hbg hb0 hbo
        refine FC.mono (assign_spec h10 X s p (w.t.ext hE (fun e => w.ne e.symm)) ((lz (id * 12))) (id : Int)) ?_
        rintro v' h9 ⟨rfl, hRS, hE9⟩
        refine S_nilk [] (by simp only [proj, lk, reduceIte, Nat.reduceEqDiff]; rfl) ?_
        refine hK41 _ _ ?_; clear hK41
        refine V_sr T.mix (by kernel_rfl) (fun K43 hK43 => ?_)
        refine S_as rfl ?_
        refine S_nil (hK43 _ _ (V_keep [6] (by simp only [proj, lk, reduceIte, Nat.reduceEqDiff]; rfl) ?_)); clear hK43
        refine V_ret ?_
        refine hR _ _ (ret1 rfl rfl ?_)
        exact ⟨_, asgS s (lz (id * 12)) id, -1, rfl, ⟨hB.ext hE9 (fun e => w.ne e), by rw [has.2.2.2.1]; exact k1.ls (fun a b H => has.2.1.hold hcL H), hRS, w.ne⟩, ⟨has.2.2.1, has.2.2.2.1, has.2.1, rfl, k2⟩, .inl ⟨rfl, (k4 (s.c + 1)).ls (fun a b H => has.2.1.hold (by omega) H), fun _ => ⟨k3, cc, hcl, (lz (id * 12)), hbm, has.2.2.2.2, fun y hy e => has.2.1.sub (hcc y hy e)⟩⟩, (hE.mono fun _ e => .inl e).trans (hE9.mono fun _ e => .inr e)⟩
      · skip
        refine V_skipk [] (by simp only [proj, lk, reduceIte, Nat.reduceEqDiff]; rfl) ?_
        refine hK41 _ _ ?_; clear hK41
        refine V_sr T.mix (by kernel_rfl) (fun K44 hK44 => ?_)
        refine S_as rfl ?_
        refine S_nil (hK44 _ _ (V_keep [6] (by simp only [proj, lk, reduceIte, Nat.reduceEqDiff]; rfl) ?_)); clear hK44
        refine V_ret ?_
        refine hR _ _ (ret1 rfl rfl ?_)
        exact ⟨_, s, -1, rfl, ⟨hB, k1, (w.t.ext hE (fun e => w.ne e.symm)), w.ne⟩, ⟨rfl, rfl, .inl rfl, rfl, k2⟩, .inl ⟨rfl, k4 _, fun _ => ⟨k3, cc, hcl, (lz (id * 12)), hbm, by rcases hv3 with q | q | q; (exact q.2); (exact absurd q.1 c81); (exact absurd q.1 c84), hcc⟩⟩, hE.mono fun _ e => .inl e⟩
set_option maxHeartbeats 400000 in
theorem wake_spec (h : Heap) (C X : Nat) (W : WC) (cl : Nat → Option (List Int)) (s : TS) (p : Nat) (w : WX h C X W cl s p) (hv : W.vis = 0) :
    FC Tryz.prog 91 (#[.pointer (some ⟨C, 0, none⟩)] : Array Value) h fun rv h' => ∃ (W' : WC) (s' : TS) (r : Int), rv = .int .i64 r ∧ WX h' C X W' cl s' p ∧ PR cl s s' ∧ s'.c = s.c ∧ W'.vis ≤ sumN (visA W 52) 52 ∧ ((r = -1 ∧ ∀ j, j < 52 → Wk cl W' (lits s'.L) j) ∨ (∃ id : Nat, id < 52 ∧ r = id ∧ AF cl id (lits s'.L) ∧ ∀ j, j < 52 → dueW W' j = true → dueW W j = true ∨ TG cl j (lits s'.L))) ∧ Ext (FX C X) h h' := by
  have hB := w.b
  have hE := Ext.refl (fun x => x = C) h
  have hlt := w.i.lt
  refine FC_of [(0, .pointer (some ⟨C, 0, none⟩))] Tryz.func91 rfl Tryz.ntmps91 (by simp) rfl (fun R hR => ?_)
  refine V_sr T.mix (by kernel_rfl) (fun K1 hK1 => ?_)
  refine S_as rfl ?_
  refine S_nil (hK1 _ _ (V_keep [0] (by simp only [proj, lk, reduceIte, Nat.reduceEqDiff]; rfl) ?_)); clear hK1
  refine V_sr T.mix (by kernel_rfl) (fun K2 hK2 => ?_)
  refine S_mv rfl ?_
  refine S_nc rfl ?_
  first | refine S_fa0 T.f78_4 rfl ?_ | refine S_fa T.f78_4 rfl ?_
  refine S_ldK T.ag75 rfl (fun K' hK' => ?_)
  simp (disch := omega) only [wlT hB, wlLit hB, wlSize hB, wlUsed hB, wlFresh hB, wlWeak hB, wlList hB, wlVis hB, oP_some, Nat.add_zero]
  refine hK' _ ?_; clear hK' K'
  refine S_mv rfl ?_
  refine S_nc rfl ?_
  first | refine S_fa0 T.f78_5 rfl ?_ | refine S_fa T.f78_5 rfl ?_
  refine S_ldK T.ag75 rfl (fun K' hK' => ?_)
  simp (disch := omega) only [wlT hB, wlLit hB, wlSize hB, wlUsed hB, wlFresh hB, wlWeak hB, wlList hB, wlVis hB, oP_some, Nat.add_zero]
  refine hK' _ ?_; clear hK' K'
  refine S_nor W.fresh W.weak _ rfl rfl rfl rfl rfl (t52 hlt.2.1) (t52 hlt.2.2) ?_
  refine S_as rfl ?_
  refine S_nil (hK2 _ _ (V_keep [0, 3] (by simp only [proj, lk, reduceIte, Nat.reduceEqDiff]; rfl) ?_)); clear hK2
  refine V_seq (fun K3 hK3 => ?_)
  refine V_sr T.mix (by kernel_rfl) (fun K4 hK4 => ?_)
  refine S_as rfl ?_
  refine S_nil (hK4 _ _ (V_keep [0, 3, 4] (by simp only [proj, lk, reduceIte, Nat.reduceEqDiff]; rfl) ?_)); clear hK4
  refine V_block ?_
  refine V_loop (fun m l h' => ∃ (i : Nat) (hk : Heap) (Wj : WC) (sk : TS), (i ≤ 52) ∧ (WX hk C X Wj cl sk p) ∧ (PR cl s sk) ∧ (sk.c = s.c) ∧ (Wj.vis ≤ sumN (visA W i) 52) ∧ (∀ j, j < i → Wk cl Wj (lits sk.L) j) ∧ (∀ j, i ≤ j → vw Wj j = vw W j) ∧ (Ext (FX C X) h hk) ∧ m = 52 - i ∧ l = [(0, .pointer (some ⟨C, 0, none⟩)), (3, .int .u64 ((W.fresh ||| W.weak : Nat) : Int)), (4, .int .i64 (i : Int))] ∧ hk = h') _ ⟨0, h, W, s, by omega, w, PR.refl _ _, rfl, by omega, fun j hj => by omega, fun j _ => rfl, Ext.refl _ _, rfl, rfl, rfl⟩ ?_
  rintro m l h' ⟨i, hk, Wj, sk, hi, wk, hpr, hcc, hvi, hlo, hhi, hEk, rfl, rfl, rfl⟩ K5 hK5
  refine V_seq (fun K6 hK6 => ?_)
  refine V_sr T.mix (by kernel_rfl) (fun K7 hK7 => ?_)
  refine S_mv rfl ?_
  refine S_bin rfl rfl rfl ?_
  refine S_nil (hK7 _ _ (V_keep [0, 3, 4, 16] (by simp only [proj, lk, reduceIte, Nat.reduceEqDiff]; rfl) ?_)); clear hK7
  refine V_condp rfl (fun c93 => ?_) (fun c93 => ?_)
  · skip
    refine V_skipk [0, 3, 4] (by simp only [proj, lk, reduceIte, Nat.reduceEqDiff]; rfl) ?_
    refine hK6 _ _ ?_; clear hK6
    refine V_seq (fun K8 hK8 => ?_)
    refine V_block ?_
    refine V_sr T.mix (by kernel_rfl) (fun K9 hK9 => ?_)
    refine S_mv rfl ?_
    refine S_mv rfl ?_
    refine S_call T.hb46 rfl ?_
    refine FC.mono (has_spec hk (W.fresh ||| W.weak) (i) ((or52 hlt.2.1 hlt.2.2)) (by omega)) ?_
    rintro v' h' ⟨g, rfl, hg, rfl⟩
    refine S_nil (hK9 _ _ (V_keep [0, 3, 4, 21] (by simp only [proj, lk, reduceIte, Nat.reduceEqDiff]; rfl) ?_)); clear hK9
    refine V_condb rfl (fun c94 => ?_) (fun c94 => ?_)
    · skip
      have hdw : dueW W i = true := by unfold dueW; rw [← Nat.testBit_or, ← hg]; simpa using c94
      refine V_sr T.mix (by kernel_rfl) (fun K10 hK10 => ?_)
      refine S_mv rfl ?_
      refine S_mv rfl ?_
      refine S_call T.hb119 rfl ?_
      have hdi : dueW Wj i = true := by rw [(dueW_vw (hhi i (Nat.le_refl _))).1]; exact hdw
      have hvs := visA_sum W i
      refine FC.mono (look_spec hk C X Wj cl sk p wk i (by omega) hdi (by omega)) ?_
      rintro v' h2 ⟨W2, s2, r, rfl, w2, ⟨k1, k2, k3, k4, k5⟩, hres, hE2⟩
      have hpr2 := hpr.one k1 k3
      have hE2b := hEk.trans hE2
      have hvi2 : W2.vis ≤ sumN (visA W (i + 1)) 52 := by
        have h8 := sumN_lt (f := visA W i) (g := visA W (i + 1)) (k := i) 52 (fun j _ => visA_mono W i j) (by omega) (visA_one hdw)
        omega
      have hlo2 : ∀ j, j < i → Wk cl W2 (lits s2.L) j := fun j hj => (hlo j hj).mono (k5 j (by omega)) (fun x hx => k3.sub hx)
      have hhi2 : ∀ j, i + 1 ≤ j → vw W2 j = vw W j := fun j hj => by rw [k5 j (by omega)]; exact hhi j (by omega)
      refine S_as rfl ?_
      refine S_nil (hK10 _ _ (V_keep [0, 3, 4, 5] (by simp only [proj, lk, reduceIte, Nat.reduceEqDiff]; rfl) ?_)); clear hK10
      refine V_sr T.mix (by kernel_rfl) (fun K11 hK11 => ?_)
      refine S_mv rfl ?_
      refine S_bin rfl rfl rfl ?_
      refine S_nil (hK11 _ _ (V_keep [0, 3, 4, 5, 26] (by simp only [proj, lk, reduceIte, Nat.reduceEqDiff]; rfl) ?_)); clear hK11
      refine V_condp rfl (fun c96 => ?_) (fun c96 => ?_)
      · skip
        refine V_sr T.mix (by kernel_rfl) (fun K12 hK12 => ?_)
        refine S_mv rfl ?_
        refine S_as rfl ?_
        refine S_nil (hK12 _ _ (V_keep [2] (by simp only [proj, lk, reduceIte, Nat.reduceEqDiff]; rfl) ?_)); clear hK12
        refine V_ret ?_
        refine hR _ _ (ret1 rfl rfl ?_)
        obtain ⟨e1, e2, e3⟩ := hres.resolve_left (fun q => by omega)
        refine ⟨W2, s2, r, rfl, w2, hpr2, by rw [k2, hcc], Nat.le_trans hvi2 (sumN_le 52 (fun j hj => Nat.le_trans (visA_le W (i + 1) j) (visA_top W j hj))), .inr ⟨i, by omega, e1, e3, fun j hj hd2 => ?_⟩, hE2b⟩
        by_cases q : j < i
        · exact .inr ((hlo2 j q) hd2).2.tg
        · by_cases q2 : j = i
          · subst q2; exact .inr e3.tg
          · left; rw [← (dueW_vw (hhi2 j (by omega))).1]; exact hd2
      · skip
        refine V_skipk [0, 3, 4] (by simp only [proj, lk, reduceIte, Nat.reduceEqDiff]; rfl) ?_
        refine hK8 _ _ ?_; clear hK8
        refine V_reg T.mix (by kernel_rfl) ?_
        refine S_mv rfl ?_
        first | refine S_add rfl rfl (by omega) (by omega) ?_ | refine S_bin rfl rfl rfl ?_
        refine S_as rfl ?_
        refine S_nilk [0, 3, 4] (by simp only [proj, lk, reduceIte, Nat.reduceEqDiff]; rfl) ?_
        exact hK5 _ _ ⟨_, by omega, i + 1, h2, W2, s2, by omega, w2, hpr2, by rw [k2, hcc], hvi2, fun j hj => by by_cases e : j = i; (subst e; rcases hres with q | q; (exact q.2); (omega)); (exact hlo2 j (by omega)), hhi2, hE2b, rfl, rfl, rfl⟩
    · skip
      have hdw : dueW W i = false := by unfold dueW; rw [← Nat.testBit_or, ← hg]; simpa using c94
      refine V_skipk [0, 3, 4] (by simp only [proj, lk, reduceIte, Nat.reduceEqDiff]; rfl) ?_
      refine hK8 _ _ ?_; clear hK8
      refine V_reg T.mix (by kernel_rfl) ?_
      refine S_mv rfl ?_
      first | refine S_add rfl rfl (by omega) (by omega) ?_ | refine S_bin rfl rfl rfl ?_
      refine S_as rfl ?_
      refine S_nilk [0, 3, 4] (by simp only [proj, lk, reduceIte, Nat.reduceEqDiff]; rfl) ?_
      exact hK5 _ _ ⟨_, by omega, i + 1, hk, Wj, sk, by omega, wk, hpr, hcc, Nat.le_trans hvi (sumN_le 52 (fun j _ => visA_mono W i j)), fun j hj => by by_cases e : j = i; (subst e; intro z; rw [(dueW_vw (hhi j (Nat.le_refl _))).1, hdw] at z; cases z); (exact hlo j (by omega)), fun j hj => hhi j (by omega), hEk, rfl, rfl, rfl⟩
  · skip
    refine V_exitk [] rfl (by simp only [proj, lk, reduceIte, Nat.reduceEqDiff]; rfl) ?_
    refine hK3 _ _ ?_; clear hK3
    refine V_sr T.mix (by kernel_rfl) (fun K13 hK13 => ?_)
    refine S_as rfl ?_
    refine S_nil (hK13 _ _ (V_keep [2] (by simp only [proj, lk, reduceIte, Nat.reduceEqDiff]; rfl) ?_)); clear hK13
    refine V_ret ?_
    refine hR _ _ (ret1 rfl rfl ?_)
    have hi52 : i = 52 := by omega
    subst hi52
    exact ⟨Wj, sk, -1, rfl, wk, hpr, hcc, hvi, .inl ⟨rfl, fun j hj => hlo j hj⟩, hEk⟩
set_option maxHeartbeats 400000 in
theorem through_spec (h : Heap) (C X : Nat) (W : WC) (cl : Nat → Option (List Int)) (s : TS) (p : Nat) (w : WX h C X W cl s p) (p0 : Int) (hp : (lits s.L)[s.c]? = some p0) (hw0 : ∀ j, j < 52 → Wk cl W (lits s.L) j) (bb : Nat → Nat) (hv0 : W.vis ≤ sumN bb 52) (hv : W.vis ≤ 90000) :
    FC Tryz.prog 120 (#[.pointer (some ⟨C, 0, none⟩), .int .i64 p0] : Array Value) h fun rv h' => ∃ (W' : WC) (s' : TS) (r : Int), rv = .int .i64 r ∧ WX h' C X W' cl s' p ∧ PR cl s s' ∧ s'.c = s.c ∧ W'.vis ≤ sumN (visB bb cl (-p0) 52) 52 ∧ W'.vis ≤ W.vis + 52 ∧ ((r = -1 ∧ (∀ j, j < 52 → Go.Wat.Loc (vw W' j) (cl j) (lits s'.L) (s.c + 1)) ∧ ∀ j, j < 52 → Wk cl W' (lits s'.L) j) ∨ (∃ id : Nat, id < 52 ∧ r = id ∧ AF cl id (lits s'.L) ∧ ∀ j, j < 52 → dueW W' j = true → TG cl j (lits s'.L))) ∧ Ext (FX C X) h h' := by
  have hB := w.b
  have hE := Ext.refl (fun x => x = C) h
  have hlt := w.i.lt
  have hgp : gd p0 := gd_lits w.ok (mem_idx.2 ⟨_, hp⟩)
  have hgp2 := hgp
  unfold gd at hgp2
  have hgm : gd (-p0) := by unfold gd; omega
  have hc26 := cdn_lt hgm
  refine FC_of [(0, .pointer (some ⟨C, 0, none⟩)), (1, .int .i64 p0)] Tryz.func120 rfl Tryz.ntmps120 (by simp) rfl (fun R hR => ?_)
  refine V_sr T.mix (by kernel_rfl) (fun K1 hK1 => ?_)
  refine S_as rfl ?_
  refine S_nil (hK1 _ _ (V_keep [0, 1] (by simp only [proj, lk, reduceIte, Nat.reduceEqDiff]; rfl) ?_)); clear hK1
  refine V_sr T.mix (by kernel_rfl) (fun K2 hK2 => ?_)
  refine S_mv rfl ?_
  first | refine S_neg rfl (by omega) (by omega) ?_ | refine S_un rfl rfl ?_
  refine S_call T.hb139 rfl ?_
  refine FC.mono (code_spec h (-p0) hgm) ?_
  rintro v' h' ⟨rfl, rfl⟩
  refine S_as rfl ?_
  refine S_nil (hK2 _ _ (V_keep [0, 1, 5] (by simp only [proj, lk, reduceIte, Nat.reduceEqDiff]; rfl) ?_)); clear hK2
  refine V_sr T.mix (by kernel_rfl) (fun K3 hK3 => ?_)
  refine S_mv rfl ?_
  refine S_mv rfl ?_
  refine S_nc rfl ?_
  first | refine S_fa0 T.f78_6 rfl ?_ | refine S_fa T.f78_6 rfl ?_
  first | refine S_ixan T.ar76 rfl rfl (by omega) ?_ | refine S_ixa1 T.ar76 rfl rfl (by omega) (by omega) ?_
  refine S_ldK T.ag75 rfl (fun K' hK' => ?_)
  simp (disch := omega) only [wlT hB, wlLit hB, wlSize hB, wlUsed hB, wlFresh hB, wlWeak hB, wlList hB, wlVis hB, oP_some, Nat.add_zero]
  refine hK' _ ?_; clear hK' K'
  refine S_as rfl ?_
  refine S_nil (hK3 _ _ (V_keep [0, 1, 6] (by simp only [proj, lk, reduceIte, Nat.reduceEqDiff]; rfl) ?_)); clear hK3
  refine V_seq (fun K4 hK4 => ?_)
  refine V_sr T.mix (by kernel_rfl) (fun K5 hK5 => ?_)
  refine S_as rfl ?_
  refine S_nil (hK5 _ _ (V_keep [0, 1, 6, 7] (by simp only [proj, lk, reduceIte, Nat.reduceEqDiff]; rfl) ?_)); clear hK5
  refine V_block ?_
  refine V_loop (fun m l h' => ∃ (i : Nat) (hk : Heap) (Wj : WC) (sk : TS), (i ≤ 52) ∧ (WX hk C X Wj cl sk p) ∧ (PR cl s sk) ∧ (sk.c = s.c) ∧ (Wj.vis ≤ sumN (visB bb cl (-p0) i) 52) ∧ (Wj.vis ≤ W.vis + i) ∧ (∀ j, j < i → Go.Wat.Loc (vw Wj j) (cl j) (lits sk.L) (s.c + 1)) ∧ (∀ j, j < 52 → Wk cl Wj (lits sk.L) j) ∧ (∀ j, i ≤ j → vw Wj j = vw W j) ∧ (Ext (FX C X) h hk) ∧ m = 52 - i ∧ l = [(0, .pointer (some ⟨C, 0, none⟩)), (1, .int .i64 p0), (6, .int .u64 ((W.list (cdn (-p0)) : Nat) : Int)), (7, .int .i64 (i : Int))] ∧ hk = h') _ ⟨0, h, W, s, by omega, w, PR.refl _ _, rfl, by rw [show sumN (visB bb cl (-p0) 0) 52 = sumN bb 52 from congrArg (fun f => sumN f 52) (funext fun j => visB_zero bb cl (-p0) j)]; exact hv0, by omega, fun j hj => by omega, hw0, fun j _ => rfl, Ext.refl _ _, rfl, rfl, rfl⟩ ?_
  rintro m l h' ⟨i, hk, Wj, sk, hi, wk, hpr, hcc, hvi, hvb, hlo, hwk, hhi, hEk, rfl, rfl, rfl⟩ K6 hK6
  refine V_seq (fun K7 hK7 => ?_)
  refine V_sr T.mix (by kernel_rfl) (fun K8 hK8 => ?_)
  refine S_mv rfl ?_
  refine S_bin rfl rfl rfl ?_
  refine S_nil (hK8 _ _ (V_keep [0, 1, 6, 7, 19] (by simp only [proj, lk, reduceIte, Nat.reduceEqDiff]; rfl) ?_)); clear hK8
  refine V_condp rfl (fun c108 => ?_) (fun c108 => ?_)
  · skip
    refine V_skipk [0, 1, 6, 7] (by simp only [proj, lk, reduceIte, Nat.reduceEqDiff]; rfl) ?_
    refine hK7 _ _ ?_; clear hK7
    refine V_seq (fun K9 hK9 => ?_)
    refine V_block ?_
    refine V_sr T.mix (by kernel_rfl) (fun K10 hK10 => ?_)
    refine S_mv rfl ?_
    refine S_mv rfl ?_
    refine S_call T.hb46 rfl ?_
    refine FC.mono (has_spec hk (W.list (cdn (-p0))) (i) ((w.i.llt hc26)) (by omega)) ?_
    rintro v' h' ⟨g, rfl, hg, rfl⟩
    refine S_nil (hK10 _ _ (V_keep [0, 1, 6, 7, 24] (by simp only [proj, lk, reduceIte, Nat.reduceEqDiff]; rfl) ?_)); clear hK10
    refine V_condb rfl (fun c109 => ?_) (fun c109 => ?_)
    · skip
      have hbi : (W.list (cdn (-p0))).testBit i = true := by rw [← hg]; simpa using c109
      refine V_sr T.mix (by kernel_rfl) (fun K11 hK11 => ?_)
      refine S_mv rfl ?_
      refine S_mv rfl ?_
      refine S_mv rfl ?_
      refine S_call T.hb140 rfl ?_
      have hlbi : (Wj.list (cdn (-p0))).testBit i = true := by have h8 : (vw Wj i).l (cdn (-p0)) = (vw W i).l (cdn (-p0)) := (by rw [hhi i (Nat.le_refl _)]); rw [vw_l hc26, vw_l hc26] at h8; rw [h8]; exact hbi
      have hpi := lits_take_at hpr.ch hp
      rw [← hcc] at hpi
      obtain ⟨cc, hci⟩ : ∃ cc, cl i = some cc := by
        cases e : cl i with
        | some cc => exact ⟨cc, rfl⟩
        | none =>
          have hl9 := wk.i.lo i (by omega)
          rw [e] at hl9
          have h7 := (loc_sdn hl9 hl9.u).2.2.2 _ hc26
          rw [vw_l hc26, hlbi] at h7; cases h7
      have hin : -p0 ∈ cc := by
        have hl9 := wk.i.lo i (by omega)
        rw [hci] at hl9
        obtain ⟨q1, q2, q3⟩ := hl9.hit hgp (by rw [vw_l hc26]; exact hlbi)
        have ha := (hl9.a cc rfl).2
        rcases q3 with q | q
        · rw [← q]; exact ha.2.1 0 (by omega)
        · rw [← q]; exact ha.2.1 1 (by omega)
      refine FC.mono (visit_spec hk C X Wj cl sk p wk i (by omega) p0 hpi hlbi cc hci (by omega)) ?_
      rintro v' h2 ⟨W2, s2, r, rfl, w2, ⟨k1, k2, k3, k4, k5⟩, hres, hE2⟩
      have hpr2 := hpr.one k1 k3
      have hE2b := hEk.trans hE2
      have hvi2 : W2.vis ≤ sumN (visB bb cl (-p0) (i + 1)) 52 := by
        have h8 := sumN_lt (f := visB bb cl (-p0) i) (g := visB bb cl (-p0) (i + 1)) (k := i) 52 (fun j _ => visB_mono _ _ _ i j) (by omega) (visB_one hci hin)
        omega
      have hcL2 : s.c + 1 ≤ sk.L.length := by have h8 := hpr.ch.1; have h9 := lits_lt hp; omega
      have hlo2 : ∀ j, j < i → Go.Wat.Loc (vw W2 j) (cl j) (lits s2.L) (s.c + 1) := fun j hj => by rw [k5 j (by omega)]; exact (hlo j hj).ls (fun a b H => k3.hold hcL2 H)
      have hwk2 : ∀ j, j < 52 → j ≠ i → Wk cl W2 (lits s2.L) j := fun j hj e => (hwk j hj).mono (k5 j e) (fun x hx => k3.sub hx)
      have hhi2 : ∀ j, i + 1 ≤ j → vw W2 j = vw W j := fun j hj => by rw [k5 j (by omega)]; exact hhi j (by omega)
      refine S_as rfl ?_
      refine S_nil (hK11 _ _ (V_keep [0, 1, 6, 7, 8] (by simp only [proj, lk, reduceIte, Nat.reduceEqDiff]; rfl) ?_)); clear hK11
      refine V_sr T.mix (by kernel_rfl) (fun K12 hK12 => ?_)
      refine S_mv rfl ?_
      refine S_bin rfl rfl rfl ?_
      refine S_nil (hK12 _ _ (V_keep [0, 1, 6, 7, 8, 30] (by simp only [proj, lk, reduceIte, Nat.reduceEqDiff]; rfl) ?_)); clear hK12
      refine V_condp rfl (fun c111 => ?_) (fun c111 => ?_)
      · skip
        refine V_sr T.mix (by kernel_rfl) (fun K13 hK13 => ?_)
        refine S_mv rfl ?_
        refine S_as rfl ?_
        refine S_nil (hK13 _ _ (V_keep [4] (by simp only [proj, lk, reduceIte, Nat.reduceEqDiff]; rfl) ?_)); clear hK13
        refine V_ret ?_
        refine hR _ _ (ret1 rfl rfl ?_)
        obtain ⟨e1, e2, e3⟩ := hres.resolve_left (fun q => by omega)
        refine ⟨W2, s2, r, rfl, w2, hpr2, by rw [k2, hcc], Nat.le_trans hvi2 (visB_top _ _ _ (show i + 1 ≤ 52 by omega)), by omega, .inr ⟨i, by omega, e1, e3, fun j hj hd2 => ?_⟩, hE2b⟩
        by_cases q2 : j = i
        · subst q2; exact e3.tg
        · exact (hwk2 j hj q2 hd2).2.tg
      · skip
        refine V_skipk [0, 1, 6, 7] (by simp only [proj, lk, reduceIte, Nat.reduceEqDiff]; rfl) ?_
        refine hK9 _ _ ?_; clear hK9
        refine V_reg T.mix (by kernel_rfl) ?_
        refine S_mv rfl ?_
        first | refine S_add rfl rfl (by omega) (by omega) ?_ | refine S_bin rfl rfl rfl ?_
        refine S_as rfl ?_
        refine S_nilk [0, 1, 6, 7] (by simp only [proj, lk, reduceIte, Nat.reduceEqDiff]; rfl) ?_
        exact hK6 _ _ ⟨_, by omega, i + 1, h2, W2, s2, by omega, w2, hpr2, by rw [k2, hcc], hvi2, by omega, fun j hj => by by_cases e : j = i; (subst e; rcases hres with q | q; (rw [← hcc]; exact q.2.1); (omega)); (exact hlo2 j (by omega)), fun j hj => by by_cases e : j = i; (subst e; rcases hres with q | q; (exact q.2.2); (omega)); (exact hwk2 j hj e), hhi2, hE2b, rfl, rfl, rfl⟩
    · skip
      have hbi : (W.list (cdn (-p0))).testBit i = false := by rw [← hg]; simpa using c109
      refine V_skipk [0, 1, 6, 7] (by simp only [proj, lk, reduceIte, Nat.reduceEqDiff]; rfl) ?_
      refine hK9 _ _ ?_; clear hK9
      refine V_reg T.mix (by kernel_rfl) ?_
      refine S_mv rfl ?_
      first | refine S_add rfl rfl (by omega) (by omega) ?_ | refine S_bin rfl rfl rfl ?_
      refine S_as rfl ?_
      refine S_nilk [0, 1, 6, 7] (by simp only [proj, lk, reduceIte, Nat.reduceEqDiff]; rfl) ?_
      exact hK6 _ _ ⟨_, by omega, i + 1, hk, Wj, sk, by omega, wk, hpr, hcc, Nat.le_trans hvi (sumN_le 52 (fun j _ => visB_mono _ _ _ i j)), by omega, fun j hj => by by_cases e : j = i; (subst e; rw [← hcc]; exact (wk.i.lo j (by omega)).up (by rw [hcc]; exact lits_take_at hpr.ch hp) hgp (by rw [hhi j (Nat.le_refl _), vw_l hc26]; exact hbi)); (exact hlo j (by omega)), hwk, fun j hj => hhi j (by omega), hEk, rfl, rfl, rfl⟩
  · skip
    refine V_exitk [] rfl (by simp only [proj, lk, reduceIte, Nat.reduceEqDiff]; rfl) ?_
    refine hK4 _ _ ?_; clear hK4
    refine V_sr T.mix (by kernel_rfl) (fun K14 hK14 => ?_)
    refine S_as rfl ?_
    refine S_nil (hK14 _ _ (V_keep [4] (by simp only [proj, lk, reduceIte, Nat.reduceEqDiff]; rfl) ?_)); clear hK14
    refine V_ret ?_
    refine hR _ _ (ret1 rfl rfl ?_)
    have hi52 : i = 52 := by omega
    subst hi52
    exact ⟨Wj, sk, -1, rfl, wk, hpr, hcc, hvi, by omega, .inl ⟨rfl, fun j hj => hlo j hj, hwk⟩, hEk⟩
set_option maxHeartbeats 400000 in
theorem drain_spec (h : Heap) (C X : Nat) (W : WC) (cl : Nat → Option (List Int)) (s : TS) (p : Nat) (w : WX h C X W cl s p) (c0 : Nat) (hc0 : c0 ≤ s.c) (hw0 : ∀ j, j < 52 → Wk cl W (lits s.L) j) (dd : Nat → Nat) (hv0 : W.vis ≤ sumN (fun j => dd j + nc (cl j) (lits s.L) c0 s.c) 52) (hv : W.vis ≤ 52 + 52 * s.c) :
    FC Tryz.prog 92 (#[.pointer (some ⟨C, 0, none⟩)] : Array Value) h fun rv h' => ∃ (W' : WC) (s' : TS) (r : Int), rv = .int .i64 r ∧ WX h' C X W' cl s' p ∧ PR cl s s' ∧ s.c ≤ s'.c ∧ W'.vis ≤ sumN (fun j => dd j + nc (cl j) (lits s'.L) c0 s'.L.length) 52 ∧ ((r = -1 ∧ s'.c = s'.L.length ∧ ∀ j, j < 52 → Wk cl W' (lits s'.L) j) ∨ (∃ id : Nat, id < 52 ∧ r = id ∧ AF cl id (lits s'.L) ∧ ∀ j, j < 52 → dueW W' j = true → TG cl j (lits s'.L))) ∧ Ext (FX C X) h h' := by
  have hB := w.b
  have hE := Ext.refl (fun x => x = C) h
  have hlt := w.i.lt
  have hEF := Ext.refl (FX C X) h
  refine FC_of [(0, .pointer (some ⟨C, 0, none⟩))] Tryz.func92 rfl Tryz.ntmps92 (by simp) rfl (fun R hR => ?_)
  refine V_sr T.mix (by kernel_rfl) (fun K1 hK1 => ?_)
  refine S_as rfl ?_
  refine S_nil (hK1 _ _ (V_keep [0] (by simp only [proj, lk, reduceIte, Nat.reduceEqDiff]; rfl) ?_)); clear hK1
  refine V_sr T.mix (by kernel_rfl) (fun K2 hK2 => ?_)
  refine S_mv rfl ?_
  refine S_nc rfl ?_
  first | refine S_fa0 T.f78_0 rfl ?_ | refine S_fa T.f78_0 rfl ?_
  refine S_ldK T.ag30 rfl (fun K' hK' => ?_)
  simp (disch := omega) only [wlT hB, wlLit hB, wlSize hB, wlUsed hB, wlFresh hB, wlWeak hB, wlList hB, wlVis hB, oP_some, Nat.add_zero]
  refine hK' _ ?_; clear hK' K'
  refine S_call T.hb49 rfl ?_
  refine FC.mono (pending_spec h X s p w.t) ?_
  rintro v' h' ⟨rfl, rfl⟩
  refine S_as rfl ?_
  refine S_nil (hK2 _ _ (V_keep [0, 3] (by simp only [proj, lk, reduceIte, Nat.reduceEqDiff]; rfl) ?_)); clear hK2
  refine V_seq (fun K3 hK3 => ?_)
  refine V_block ?_
  refine V_loop (fun m l h' => ∃ (hk : Heap) (Wj : WC) (sk : TS), (WX hk C X Wj cl sk p) ∧ (PR cl s sk) ∧ (s.c ≤ sk.c) ∧ (Wj.vis ≤ sumN (fun j => dd j + nc (cl j) (lits sk.L) c0 sk.c) 52) ∧ (Wj.vis ≤ 52 + 52 * sk.c) ∧ (∀ j, j < 52 → Wk cl Wj (lits sk.L) j) ∧ (Ext (FX C X) h hk) ∧ m = 13 - sk.c ∧ l = [(0, .pointer (some ⟨C, 0, none⟩)), (3, .int .i64 ((sk.L.length : Int) - sk.c))] ∧ hk = h') _ ⟨h, W, s, w, PR.refl _ _, by omega, hv0, hv, hw0, hEF, rfl, rfl, rfl⟩ ?_
  rintro m l h' ⟨hk, Wj, sk, wk, hpr, hcc, hvi, hvb, hwk, hEk, rfl, rfl, rfl⟩ K4 hK4
  clear hB
  have hB := wk.b
  have hl12 := wk.ok.len
  have hc12 := wk.ok.c
  refine V_seq (fun K5 hK5 => ?_)
  refine V_sr T.mix (by kernel_rfl) (fun K6 hK6 => ?_)
  refine S_mv rfl ?_
  refine S_bin rfl rfl rfl ?_
  refine S_nil (hK6 _ _ (V_keep [0, 3, 13] (by simp only [proj, lk, reduceIte, Nat.reduceEqDiff]; rfl) ?_)); clear hK6
  refine V_condp rfl (fun c123 => ?_) (fun c123 => ?_)
  · skip
    obtain ⟨p0, hp⟩ : ∃ p0, (lits sk.L)[sk.c]? = some p0 := ⟨_, List.getElem?_eq_getElem (by rw [lits_len]; omega)⟩
    have hat : atL sk.L ((sk.L.length : Int) - ((sk.L.length : Int) - sk.c)) = p0 := by
      obtain ⟨y, h1, h2⟩ := lits_get hp
      unfold atL; rw [if_pos (by omega), show ((sk.L.length : Int) - ((sk.L.length : Int) - sk.c)).toNat = sk.c by omega, List.getD_eq_getElem?_getD, h1]; exact h2
    refine V_skipk [0, 3] (by simp only [proj, lk, reduceIte, Nat.reduceEqDiff]; rfl) ?_
    refine hK5 _ _ ?_; clear hK5
    refine V_block ?_
    refine V_sr T.mix (by kernel_rfl) (fun K7 hK7 => ?_)
    refine S_mv rfl ?_
    refine S_nc rfl ?_
    first | refine S_fa0 T.f78_0 rfl ?_ | refine S_fa T.f78_0 rfl ?_
    refine S_ldK T.ag30 rfl (fun K' hK' => ?_)
    simp (disch := omega) only [wlT hB, wlLit hB, wlSize hB, wlUsed hB, wlFresh hB, wlWeak hB, wlList hB, wlVis hB, oP_some, Nat.add_zero]
    refine hK' _ ?_; clear hK' K'
    refine S_call T.hb48 rfl ?_
    refine FC.mono (len_spec hk X sk p wk.t) ?_
    rintro v' h' ⟨rfl, rfl⟩
    refine S_as rfl ?_
    refine S_nil (hK7 _ _ (V_keep [0, 3, 4] (by simp only [proj, lk, reduceIte, Nat.reduceEqDiff]; rfl) ?_)); clear hK7
    refine V_sr T.mix (by kernel_rfl) (fun K8 hK8 => ?_)
    refine S_mv rfl ?_
    refine S_nc rfl ?_
    first | refine S_fa0 T.f78_0 rfl ?_ | refine S_fa T.f78_0 rfl ?_
    refine S_ldK T.ag30 rfl (fun K' hK' => ?_)
    simp (disch := omega) only [wlT hB, wlLit hB, wlSize hB, wlUsed hB, wlFresh hB, wlWeak hB, wlList hB, wlVis hB, oP_some, Nat.add_zero]
    refine hK' _ ?_; clear hK' K'
    refine S_mv rfl ?_
    refine S_mv rfl ?_
    first | refine S_sub rfl rfl (by omega) (by omega) ?_ | refine S_bin rfl rfl rfl ?_
    refine S_call T.hb51 rfl ?_
    refine FC.mono (at_spec hk X sk p wk.t ((sk.L.length : Int) - ((sk.L.length : Int) - sk.c))) ?_
    rintro v' h' ⟨rfl, rfl⟩
    rw [hat]
    refine S_as rfl ?_
    refine S_nil (hK8 _ _ (V_keep [0, 5] (by simp only [proj, lk, reduceIte, Nat.reduceEqDiff]; rfl) ?_)); clear hK8
    refine V_sr T.mix (by kernel_rfl) (fun K9 hK9 => ?_)
    refine S_mv rfl ?_
    refine S_mv rfl ?_
    refine S_call T.hb120 rfl ?_
    refine FC.mono (through_spec hk C X Wj cl sk p wk p0 hp hwk _ hvi (by omega)) ?_
    rintro v' h2 ⟨W2, s2, r, rfl, w2, hpr2, k2, k3, k4, hres, hE2⟩
    have hch2 := hpr2.ch
    have hE2b := hEk.trans hE2
    have hgd := lits_getD hp
    have hvis2 : W2.vis ≤ sumN (fun j => dd j + nc (cl j) (lits s2.L) c0 (sk.c + 1)) 52 := by
      refine Nat.le_trans k3 (sumN_le 52 fun j _ => ?_)
      have h8 := visB_nc (d := dd) (cl := cl) (ls := lits sk.L) (c0 := c0) (c := sk.c) (i := 52) (j := j) (by omega)
      rw [hgd] at h8
      rw [nc_chn hch2 (cl j) (by omega)]; exact h8
    have hlen2 := hch2.1
    clear hB
    have hB := w2.b
    refine S_as rfl ?_
    refine S_nil (hK9 _ _ (V_keep [0, 6] (by simp only [proj, lk, reduceIte, Nat.reduceEqDiff]; rfl) ?_)); clear hK9
    refine V_seq (fun K10 hK10 => ?_)
    refine V_sr T.mix (by kernel_rfl) (fun K11 hK11 => ?_)
    refine S_mv rfl ?_
    refine S_bin rfl rfl rfl ?_
    refine S_nil (hK11 _ _ (V_keep [0, 6, 31] (by simp only [proj, lk, reduceIte, Nat.reduceEqDiff]; rfl) ?_)); clear hK11
    refine V_condp rfl (fun c127 => ?_) (fun c127 => ?_)
    · skip
      refine V_sr T.mix (by kernel_rfl) (fun K12 hK12 => ?_)
      refine S_mv rfl ?_
      refine S_as rfl ?_
      refine S_nil (hK12 _ _ (V_keep [2] (by simp only [proj, lk, reduceIte, Nat.reduceEqDiff]; rfl) ?_)); clear hK12
      refine V_ret ?_
      refine hR _ _ (ret1 rfl rfl ?_)
      obtain ⟨id, e1, e2, e3, e4⟩ := hres.resolve_left (fun q => by omega)
      refine ⟨W2, s2, r, rfl, w2, hpr.trans hpr2, by omega, Nat.le_trans hvis2 (sumN_le 52 fun j _ => ?_), .inr ⟨id, e1, e2, e3, e4⟩, hE2b⟩
      have h9 := nc_mono (cl j) (lits s2.L) (show c0 ≤ sk.c + 1 by omega) (s2.L.length - (sk.c + 1))
      rw [show sk.c + 1 + (s2.L.length - (sk.c + 1)) = s2.L.length by omega] at h9
      omega
    · skip
      refine V_skipk [0] (by simp only [proj, lk, reduceIte, Nat.reduceEqDiff]; rfl) ?_
      refine hK10 _ _ ?_; clear hK10
      refine V_sr T.mix (by kernel_rfl) (fun K13 hK13 => ?_)
      refine S_mv rfl ?_
      refine S_nc rfl ?_
      first | refine S_fa0 T.f78_0 rfl ?_ | refine S_fa T.f78_0 rfl ?_
      refine S_ldK T.ag30 rfl (fun K' hK' => ?_)
      simp (disch := omega) only [wlT hB, wlLit hB, wlSize hB, wlUsed hB, wlFresh hB, wlWeak hB, wlList hB, wlVis hB, oP_some, Nat.add_zero]
      refine hK' _ ?_; clear hK' K'
      refine S_call T.hb121 rfl ?_
      refine FC.mono (take_spec h2 X s2 p w2.t) ?_
      rintro v' h3 ⟨rfl, hRS, hE3⟩
      have hts : takeS s2 = ⟨s2.L, s2.k, s2.c + 1⟩ := by unfold takeS; rw [if_pos (by omega)]
      rw [hts] at hRS
      obtain ⟨_, hl9, hw9⟩ := hres.resolve_right (fun ⟨q, _, e, _⟩ => by omega)
      have w3 : WX h3 C X W2 cl ⟨s2.L, s2.k, s2.c + 1⟩ p := ⟨w2.b.ext hE3 (fun e => w2.ne e), ⟨w2.i.hi, fun j hj => by rw [k2]; exact hl9 j hj⟩, hRS, w2.ne⟩
      have hpr3 : PR cl sk ⟨s2.L, s2.k, s2.c + 1⟩ := ⟨hpr2.k, hpr2.ch⟩
      have hE3b := hE2b.trans (hE3.mono fun _ e => .inr e)
      clear hB
      have hB := w3.b
      refine S_nil (hK13 _ _ (V_keep [0] (by simp only [proj, lk, reduceIte, Nat.reduceEqDiff]; rfl) ?_)); clear hK13
      refine V_reg T.mix (by kernel_rfl) ?_
      refine S_mv rfl ?_
      refine S_nc rfl ?_
      first | refine S_fa0 T.f78_0 rfl ?_ | refine S_fa T.f78_0 rfl ?_
      refine S_ldK T.ag30 rfl (fun K' hK' => ?_)
      simp (disch := omega) only [wlT hB, wlLit hB, wlSize hB, wlUsed hB, wlFresh hB, wlWeak hB, wlList hB, wlVis hB, oP_some, Nat.add_zero]
      refine hK' _ ?_; clear hK' K'
      refine S_call T.hb49 rfl ?_
      refine FC.mono (pending_spec h3 X _ p w3.t) ?_
      rintro v' h' ⟨rfl, rfl⟩
      refine S_as rfl ?_
      refine S_nilk [0, 3] (by simp only [proj, lk, reduceIte, Nat.reduceEqDiff]; rfl) ?_
      exact hK4 _ _ ⟨_, by simp only []; omega, h3, W2, ⟨s2.L, s2.k, s2.c + 1⟩, w3, hpr.trans hpr3, by simp only []; omega, (by simp only []; rw [k2]; exact hvis2), (by simp only []; omega), hw9, hE3b, rfl, rfl, rfl⟩
  · skip
    refine V_exitk [] rfl (by simp only [proj, lk, reduceIte, Nat.reduceEqDiff]; rfl) ?_
    refine hK3 _ _ ?_; clear hK3
    refine V_sr T.mix (by kernel_rfl) (fun K14 hK14 => ?_)
    refine S_as rfl ?_
    refine S_nil (hK14 _ _ (V_keep [2] (by simp only [proj, lk, reduceIte, Nat.reduceEqDiff]; rfl) ?_)); clear hK14
    refine V_ret ?_
    refine hR _ _ (ret1 rfl rfl ?_)
    have hce : sk.c = sk.L.length := by omega
    exact ⟨Wj, sk, -1, rfl, wk, hpr, hcc, by rw [← hce]; exact hvi, .inl ⟨rfl, hce, hwk⟩, hEk⟩
set_option maxHeartbeats 400000 in
theorem propagate_spec (h : Heap) (C X : Nat) (W : WC) (cl : Nat → Option (List Int)) (s : TS) (p : Nat) (w : WX h C X W cl s p) :
    FC Tryz.prog 59 (#[.pointer (some ⟨C, 0, none⟩)] : Array Value) h fun rv h' => ∃ (W' : WC) (s' : TS) (r : Int), rv = .int .i64 r ∧ WX h' C X W' cl s' p ∧ PR cl s s' ∧ s.c ≤ s'.c ∧ W'.vis ≤ sumN (fun j => (if dueW W j = true then 1 else 0) + nc (cl j) (lits s'.L) s.c s'.L.length) 52 ∧ ((r = -1 ∧ s'.c = s'.L.length ∧ (∀ j, j < 52 → dueW W' j = true → TG cl j (lits s'.L)) ∧ ∀ j, j < 52 → ∀ cc, cl j = some cc → Done (· ∈ lits s'.L) cc) ∨ (∃ id : Nat, id < 52 ∧ r = id ∧ AF cl id (lits s'.L) ∧ ∀ j, j < 52 → dueW W' j = true → dueW W j = true ∨ TG cl j (lits s'.L))) ∧ Ext (FX C X) h h' := by
  have hB := w.b
  have hE := Ext.refl (fun x => x = C) h
  have hlt := w.i.lt
  refine FC_of [(0, .pointer (some ⟨C, 0, none⟩))] Tryz.func59 rfl Tryz.ntmps59 (by simp) rfl (fun R hR => ?_)
  refine V_sr T.mix (by kernel_rfl) (fun K1 hK1 => ?_)
  refine S_as rfl ?_
  refine S_nil (hK1 _ _ (V_keep [0] (by simp only [proj, lk, reduceIte, Nat.reduceEqDiff]; rfl) ?_)); clear hK1
  refine V_sr T.mix (by kernel_rfl) (fun K2 hK2 => ?_)
  refine S_mv rfl ?_
  refine S_nc rfl ?_
  first | refine S_fa0 T.f78_7 rfl ?_ | refine S_fa T.f78_7 rfl ?_
  refine S_st T.sz3 rfl rfl rfl rfl (by simp (disch := omega) only [wok hB]) ?_
  generalize hh : putH _ _ _ = h1
  have hBh1 : WB h1 C X { W with vis := 0 } := by rw [← hh]; exact wsVis hB 0
  have hEh1 : Ext (fun x => x = C) h h1 := by rw [← hh]; exact Ext.put _ _ rfl
  clear hh
  replace hE := hE.trans hEh1
  clear hB
  have hB := hBh1
  have w1 : WX h1 C X { W with vis := 0 } cl s p := ⟨hB, w.i.vis, w.t.ext hE (fun e => w.ne e.symm), w.ne⟩
  refine S_nil (hK2 _ _ (V_keep [0] (by simp only [proj, lk, reduceIte, Nat.reduceEqDiff]; rfl) ?_)); clear hK2
  refine V_sr T.mix (by kernel_rfl) (fun K3 hK3 => ?_)
  refine S_mv rfl ?_
  refine S_call T.hb91 rfl ?_
  refine FC.mono (wake_spec h1 C X _ cl s p w1 rfl) ?_
  rintro v' h2 ⟨W2, s2, r, rfl, w2, hpr2, k2, k3, hres, hE2⟩
  have hva := visA_sum { W with vis := 0 } 52
  have hE1b : Ext (FX C X) h h1 := hE.mono fun _ e => .inl e
  have hE2b := hE1b.trans hE2
  have hsum : W2.vis ≤ sumN (fun j => (if dueW W j = true then 1 else 0) + nc (cl j) (lits s2.L) s.c s2.c) 52 := by
    refine Nat.le_trans k3 (sumN_le 52 fun j _ => ?_)
    rw [k2, nc_self]
    exact visA_le _ 52 j
  refine S_as rfl ?_
  refine S_nil (hK3 _ _ (V_keep [0, 3] (by simp only [proj, lk, reduceIte, Nat.reduceEqDiff]; rfl) ?_)); clear hK3
  refine V_seq (fun K4 hK4 => ?_)
  refine V_sr T.mix (by kernel_rfl) (fun K5 hK5 => ?_)
  refine S_mv rfl ?_
  refine S_bin rfl rfl rfl ?_
  refine S_nil (hK5 _ _ (V_keep [0, 3, 10] (by simp only [proj, lk, reduceIte, Nat.reduceEqDiff]; rfl) ?_)); clear hK5
  refine V_condp rfl (fun c140 => ?_) (fun c140 => ?_)
  · skip
    refine V_sr T.mix (by kernel_rfl) (fun K6 hK6 => ?_)
    refine S_mv rfl ?_
    refine S_as rfl ?_
    refine S_nil (hK6 _ _ (V_keep [2] (by simp only [proj, lk, reduceIte, Nat.reduceEqDiff]; rfl) ?_)); clear hK6
    refine V_ret ?_
    refine hR _ _ (ret1 rfl rfl ?_)
    obtain ⟨id, e1, e2, e3, e4⟩ := hres.resolve_left (fun q => by omega)
    refine ⟨W2, s2, r, rfl, w2, hpr2, by omega, Nat.le_trans hsum (sumN_le 52 fun j _ => ?_), .inr ⟨id, e1, e2, e3, e4⟩, hE2b⟩
    rw [k2, nc_self]
    omega
  · skip
    refine V_skipk [0] (by simp only [proj, lk, reduceIte, Nat.reduceEqDiff]; rfl) ?_
    refine hK4 _ _ ?_; clear hK4
    refine V_sr T.mix (by kernel_rfl) (fun K7 hK7 => ?_)
    refine S_mv rfl ?_
    refine S_call T.hb92 rfl ?_
    obtain ⟨_, hw2⟩ := hres.resolve_right (fun ⟨q, _, e, _⟩ => by omega)
    refine FC.mono (drain_spec h2 C X W2 cl s2 p w2 s.c (by omega) hw2 (fun j => if dueW W j = true then 1 else 0) hsum (by omega)) ?_
    rintro v' h3 ⟨W3, s3, r3, rfl, w3, hpr3, j2, j3, hres3, hE3⟩
    refine S_as rfl ?_
    refine S_nil (hK7 _ _ (V_keep [2] (by simp only [proj, lk, reduceIte, Nat.reduceEqDiff]; rfl) ?_)); clear hK7
    refine V_ret ?_
    refine hR _ _ (ret1 rfl rfl ?_)
    refine ⟨W3, s3, r3, rfl, w3, hpr2.trans hpr3, by omega, j3, ?_, hE2b.trans hE3⟩
    rcases hres3 with ⟨q1, q2, q3⟩ | ⟨id, q1, q2, q3, q4⟩
    · refine .inl ⟨q1, q2, fun j hj e => (q3 j hj e).2.tg, fun j hj cc hc => ?_⟩
      by_cases e : dueW W3 j = true
      · obtain ⟨c2, z1, z2, z3, z4, _⟩ := (q3 j hj e).2
        rw [hc] at z1; cases z1; exact .inl ⟨z2, z3, z4⟩
      · have hl9 := w3.i.lo j hj
        rw [hc] at hl9
        refine hl9.done (by rw [lits_len, q2]; exact Nat.le_refl _) ?_
        have hu := hl9.u
        unfold dueW at e
        simp only [Vw.sd, vw] at hu ⊢
        rw [hu]
        rw [Bool.not_eq_true, Bool.or_eq_false_iff] at e
        rw [e.1, e.2]; rfl
    · exact .inr ⟨id, q1, q2, q3, fun j hj e => .inr (q4 j hj e)⟩
end Go.Proofs.Qxb6500401aGreat
