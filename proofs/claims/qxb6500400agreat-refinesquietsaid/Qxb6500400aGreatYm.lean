import Derived.Test.Qxb6500400aGreatSl
set_option linter.unusedVariables false
set_option linter.unusedSimpArgs false
namespace Go.Proofs.Qxb6500400aGreat
open Go.Eng Go.Trl Go.Chk Go.Wat
theorem wi_dec {W : WC} {cl : Nat → Option (List Int)} {s : TS} (hw : WI W cl (lits s.L) s.c) (hc : s.c ≤ s.L.length) (x : Int) : WI W cl (lits (decS s x).L) (decS s x).c := by
  unfold decS; split
  · simp only [lits_app]; exact hw.ls fun a b H => H.app (by rw [lits_len]; exact hc)
  · exact hw
theorem wi_asg {W : WC} {cl : Nat → Option (List Int)} {s : TS} (hw : WI W cl (lits s.L) s.c) (hc : s.c ≤ s.L.length) (x r : Int) : WI W cl (lits (asgS s x r).L) (asgS s x r).c := by
  unfold asgS; split
  · simp only [lits_app]; exact hw.ls fun a b H => H.app (by rw [lits_len]; exact hc)
  · exact hw
theorem wi_bj {W : WC} {cl : Nat → Option (List Int)} {s : TS} (hw : WI W cl (lits s.L) s.c) (j : Int) : WI W cl (lits (bjS s j).L) (bjS s j).c := by
  unfold bjS; split
  · simp only [backL, lits_take]; exact hw.ls fun a b H => H.take
  · exact hw
theorem wi_nil {W : WC} {cl : Nat → Option (List Int)} {s : TS} (hw : WI W cl (lits s.L) s.c) : WI W cl (lits []) 0 := hw.ls fun a b H => Hold.nil 0 a b
theorem wi_zero {W : WC} (hu : W.used = 0) (hf : W.fresh = 0) (hk : W.weak = 0) (hl : ∀ q, q < 26 → W.list q = 0) (hs : ∀ i, i < 52 → W.size i = 0) (ls : List Int) (c : Nat) : WI W (fun _ => none) ls c := by
  have key : ∀ i, (vw W i).u = false ∧ (vw W i).f = false ∧ (vw W i).k = false ∧ ∀ q, (vw W i).l q = false := fun i => by
    refine ⟨by simp [vw, hu], by simp [vw, hf], by simp [vw, hk], fun q => ?_⟩
    simp only [vw]; split
    · rename_i e; rw [hl q e]; simp
    · rfl
  exact ⟨fun i _ => key i, fun i hi => Go.Wat.Loc.dead (key i).1 (key i).2.1 (key i).2.2.1 (hs i hi) (fun q _ => (key i).2.2.2 q)⟩
theorem asg_eq {cl : Nat → Option (List Int)} {L : List It} {k c : Nat} {x : It} {i : Nat} {L' : List It} (hL : L = L'.take i) (hx : L'[i]? = some x) (hk : x.lev = (k : Int)) {id : Nat} (hr : x.rea = id) (e : asgE ⟨L, k, c⟩ x.lit id = 0) : asgS ⟨L, k, c⟩ x.lit id = ⟨L'.take (i + 1), k, c⟩ := by
  unfold asgS; rw [if_pos e]
  have : L'.take (i + 1) = L'.take i ++ [x] := by rw [List.take_add_one, hx]; rfl
  rw [this, hL]
  congr 2
  cases x; simp at hk hr ⊢; exact ⟨hk.symm, hr.symm⟩
theorem vis_bud {W : WC} {cl : Nat → Option (List Int)} {due : Nat → Bool} {ls ls0 : List Int} {c0 c n : Nat} (hw : WI W cl ls0 c) (hd : ∀ i, i < 52 → dueW W i = true → due i = true) : sumN (fun j => (if dueW W j = true then 1 else 0) + nc (cl j) ls c0 n) 52 ≤ sumN (bud cl due ls c0 n) 52 := sumN_le 52 fun j hj => by
  by_cases e : dueW W j = true
  · obtain ⟨cc, hc⟩ := due_some hw hj e
    rw [if_pos e, bud_some hc, hc, if_pos (hd j hj e)]; exact Nat.le_refl _
  · rw [if_neg e]
    cases hc : cl j with
    | none => simp [nc]
    | some cc => rw [bud_some hc]; omega

/-- the trails turn -/
theorem UI.trl {h h1 h2 h3 : Heap} {tg : Nat → Nat} {A : UA} {u : US} {nb : Nat} (w : UI h tg A u nb) {s' : TS} {p' : Nat} {F' : Nat → Prop} {la : Int} {lo : Bool} (hr : RS h1 A.X s' p') (he : Ext (fun x => x = A.X) h h1) (hm : MS h2 A.Y F' s') (hx : MX u.F F' h1 h2) (he3 : Ext (fun b => b = A.U) h2 h3) (hd : B h3 A.U (ucs A { u with last := la, loose := lo }) 42) (hwi : WI u.W u.cl (lits s'.L) s'.c) (hp : p' ≤ nb + 12) (hsd : lo = false → Sn u.cl s'.L) :
    ∃ tg', UI h3 tg' A { u with s := s', p := p', F := F', last := la, loose := lo } (nb + 12) ∧ KP tg tg' h h3 := by
  have nX : ∀ b, tg b ≠ 3 → b ≠ A.X := fun b e z => e (by rw [z]; exact w.tX)
  have nF : ∀ b, tg b ≠ 5 → ¬ u.F b := fun b e z => e (w.tF b z)
  have nU : ∀ b, tg b ≠ 1 → b ≠ A.U := fun b e z => e (by rw [z]; exact w.tU)
  have hl := he.1
  have hlt := w.lt1
  have mv1 := w.mv.ext he (nX _ (by rw [w.tM]; omega)) (fun b hb => nX b (by rw [w.tG b hb]; omega)) (fun b hb => nX b (by rw [w.tF b hb]; omega))
  have mv2 : MV h2 A.M A.Y u.mm u.cl u.G F' s' := by
    refine ⟨mv1.b.ext hx.1 mv1.nM.2, mv1.r.ext hx.1 mv1.nG, hm, ⟨mv1.nM.1, fun e => ?_⟩, fun b hb e => ?_, fun b hb => Nat.lt_of_lt_of_le (mv1.lt b hb) hx.1.1⟩
    · rcases hx.2 _ e with q | q
      · exact mv1.nM.2 q
      · have := mv1.b.lt; omega
    · rcases hx.2 b e with q | q
      · exact mv1.nG b hb q
      · have := mv1.lt b hb; omega
  have mv3 := mv2.ext he3 (nU _ (by rw [w.tM]; omega)) (fun b hb => nU b (by rw [w.tG b hb]; omega)) (fun b hb => by rcases hx.2 b hb with q | q; (exact nU b (by rw [w.tF b q]; omega)); (exact fun z => by omega))
  have wx2 : WX h2 A.C A.X u.W u.cl s' p' := ⟨(w.wx.b.ext he (nX _ (by rw [w.tC]; omega))).ext hx.1 (nF _ (by rw [w.tC]; omega)), hwi, hr.ext hx.1 (nF _ (by rw [w.tX]; omega)), w.wx.ne⟩
  have wx3 := wx2.ext he3 (nU _ (by rw [w.tC]; omega)) (nU _ (by rw [w.tX]; omega))
  have hE : Ext (fun b => b = A.X ∨ u.F b ∨ b = A.U) h h3 := ((he.mono fun _ e => .inl e).trans (hx.1.mono fun _ e => .inr (.inl e))).trans (he3.mono fun _ e => .inr (.inr e))
  have hS : ∀ b, b = A.X ∨ u.F b ∨ b = A.U → tg b ≠ 0 ∧ tg b ≤ 6 := fun b e => by
    rcases e with e | e | e
    · rw [e, w.tX]; omega
    · rw [w.tF b e]; omega
    · rw [e, w.tU]; omega
  obtain ⟨tg', w', ht⟩ := w.turn hE (fun b e => (hS b e).2) hd wx3 mv3 (fun b e => by rcases hx.2 b e with q | q; (exact .inl q); (exact .inr (by omega))) (fun b e => .inl e) w.du w.vs w.sb hp hsd
  exact ⟨tg', w', KP.of hE (fun b e => (hS b e).1) ht⟩
theorem bj_len (s : TS) (j : Int) : (bjS s j).L.length ≤ s.L.length := by
  unfold bjS; split
  · simp only [backL]; rw [List.length_take]; omega
  · exact Nat.le_refl _
theorem asg_no {s : TS} {x r : Int} (h : ¬ asgE s x r = 0) : asgS s x r = s := by unfold asgS; rw [if_neg h]
theorem shL {l : List (Option Addr × Nat)} {i : Nat} (hi : i < l.length) : (l.drop 1).take i = (l.take (i + 1)).drop 1 := by rw [List.drop_take]; simp

/-- the kept lists, shifted down by one up to place k -/
def shf (l : List (Option Addr × Nat)) (k : Nat) : List (Option Addr × Nat) := (l.take k).drop 1 ++ l.drop (k - 1)
theorem shf_len {l : List (Option Addr × Nat)} {k : Nat} (h1 : 1 ≤ k) (h2 : k ≤ l.length) : (shf l k).length = l.length := by
  unfold shf; simp; omega
theorem shf_one (l : List (Option Addr × Nat)) : shf l 1 = l := by
  unfold shf
  cases l with
  | nil => rfl
  | cons a l => simp
theorem shf_get {l : List (Option Addr × Nat)} {k : Nat} (h1 : 1 ≤ k) (h2 : k < l.length) : (shf l k).getD k (none, 0) = l.getD k (none, 0) := by
  unfold shf
  have hl : ((l.take k).drop 1).length = k - 1 := by simp; omega
  rw [List.getD_eq_getElem?_getD, List.getElem?_append_right (by omega), hl, List.getElem?_drop, List.getD_eq_getElem?_getD]
  congr 2; omega
theorem shf_set {l : List (Option Addr × Nat)} {k : Nat} (h1 : 1 ≤ k) (h2 : k < l.length) : (shf l k).set (k - 1) (l.getD k (none, 0)) = shf l (k + 1) := by
  unfold shf
  have hl : ((l.take k).drop 1).length = k - 1 := by simp; omega
  rw [List.set_append, if_neg (by omega), hl, Nat.sub_self]
  have e1 : l.drop (k - 1) = l[k - 1] :: l.drop k := by
    have := List.drop_eq_getElem_cons (l := l) (i := k - 1) (by omega)
    rw [this]; congr 2; omega
  have e2 : (l.take (k + 1)).drop 1 = (l.take k).drop 1 ++ [l.getD k (none, 0)] := by
    have : l.take (k + 1) = l.take k ++ [l.getD k (none, 0)] := by rw [List.take_add_one, List.getElem?_eq_getElem h2, List.getD_eq_getElem?_getD, List.getElem?_eq_getElem h2]; rfl
    rw [this, List.drop_append_of_le_length (by rw [List.length_take]; omega)]
  rw [e1, List.set_cons_zero, e2, Nat.add_sub_cancel, List.append_assoc]; rfl
theorem shf_mem {l : List (Option Addr × Nat)} {k : Nat} {q : Option Addr × Nat} (h : q ∈ shf l k) : q ∈ l := by
  unfold shf at h
  rcases List.mem_append.1 h with e | e
  · exact List.mem_of_mem_take (List.mem_of_mem_drop e)
  · exact List.mem_of_mem_drop e
theorem set_mem {l : List (Option Addr × Nat)} {i : Nat} {x q : Option Addr × Nat} (h : q ∈ l.set i x) : q ∈ l ∨ q = x := List.mem_or_eq_of_mem_set h
set_option maxHeartbeats 400000 in
theorem setsalike_spec (h : Heap) (tg : Nat → Nat) (A : UA) (u : US) (nb : Nat) (w : UI h tg A u nb) :
    FC Tryz.prog 11 (#[.pointer (some ⟨A.U, 0, none⟩)] : Array Value) h fun rv h' => rv = .bool true ∧ Ext (fun _ => False) h h' := by
  try clear u0 u1 u2 u3 u4 u5 u6 u7 u8 u9 huok
  obtain ⟨u0, u1, u2, u3, u4, u5, u6, u7, u8, u9, huok⟩ := uq (w.dd)
  have hsl := shotF_len (s := u.s) (mr_nl w.mv.r)
  refine FC_of [(0, .pointer (some ⟨A.U, 0, none⟩))] Tryz.func11 rfl Tryz.ntmps11 (by simp) rfl (fun R hR => ?_)
  refine V_sr T.mix (by kernel_rfl) (fun K1 hK1 => ?_)
  refine S_as rfl ?_
  refine S_nil (hK1 _ _ (V_keep [0] (by simp only [proj, lk, reduceIte, Nat.reduceEqDiff]; rfl) ?_)); clear hK1
  refine V_sr T.mix (by kernel_rfl) (fun K2 hK2 => ?_)
  refine S_mv rfl ?_
  refine S_nc rfl ?_
  first | refine S_fa0 T.f42_0 rfl ?_ | refine S_fa T.f42_0 rfl ?_
  refine S_ldnK T.ag31 rfl (fun K' hK' => ?_)
  simp (disch := omega) only [u0, u1, u2, u3, u4, u5, u6, u7, u8, u9, oPs_cons, oPs_nil, oP_some, Nat.reduceAdd, Nat.add_zero]
  refine hK' _ ?_; clear hK' K'
  refine S_call T.hb22 rfl ?_
  refine FC.mono (shotb_spec h A.C A.X u.W u.cl u.s u.p w.wx) ?_
  rintro v' h1 ⟨a1, c1, rfl, hI1, _, hE1⟩
  have w1 := w.new hE1
  try clear u0 u1 u2 u3 u4 u5 u6 u7 u8 u9 huok
  obtain ⟨u0, u1, u2, u3, u4, u5, u6, u7, u8, u9, huok⟩ := uq (w1.dd)
  refine S_as rfl ?_
  refine S_nil (hK2 _ _ (V_keep [0, 3] (by simp only [proj, lk, reduceIte, Nat.reduceEqDiff]; rfl) ?_)); clear hK2
  refine V_sr T.mix (by kernel_rfl) (fun K3 hK3 => ?_)
  refine S_mv rfl ?_
  refine S_nc rfl ?_
  first | refine S_fa0 T.f42_2 rfl ?_ | refine S_fa T.f42_2 rfl ?_
  refine S_ldnK T.ag38 rfl (fun K' hK' => ?_)
  simp (disch := omega) only [u0, u1, u2, u3, u4, u5, u6, u7, u8, u9, oPs_cons, oPs_nil, oP_some, Nat.reduceAdd, Nat.add_zero]
  refine hK' _ ?_; clear hK' K'
  refine S_call T.hb23 rfl ?_
  refine FC.mono (shotm_spec h1 A.D A.M A.Y u.mm u.cl u.G u.F u.s w1.mv) ?_
  rintro v' h2 ⟨a2, c2, rfl, hI2, _, hE2⟩
  refine S_as rfl ?_
  refine S_nil (hK3 _ _ (V_keep [3, 4] (by simp only [proj, lk, reduceIte, Nat.reduceEqDiff]; rfl) ?_)); clear hK3
  refine V_sr T.mix (by kernel_rfl) (fun K4 hK4 => ?_)
  refine S_mv rfl ?_
  refine S_mv rfl ?_
  refine S_call T.hb24 rfl ?_
  refine FC.mono (sameints_spec h2 a1 a2 c1 c2 _ _ (hI1.ext hE2 (fun _ _ f => f)) hI2 (by omega) (by omega)) ?_
  rintro v' h' ⟨rfl, rfl⟩
  refine S_as rfl ?_
  refine S_nil (hK4 _ _ (V_keep [2] (by simp only [proj, lk, reduceIte, Nat.reduceEqDiff]; rfl) ?_)); clear hK4
  refine V_ret ?_
  refine hR _ _ (ret1 rfl rfl ?_)
  exact ⟨by simp, hE1.trans hE2⟩
set_option maxHeartbeats 400000 in
theorem untouched_spec (h : Heap) (tg : Nat → Nat) (A : UA) (u : US) (nb : Nat) (w : UI h tg A u nb) :
    FC Tryz.prog 16 (#[.pointer (some ⟨A.U, 0, none⟩)] : Array Value) h fun rv h' => rv = .bool true ∧ h = h' := by
  try clear u0 u1 u2 u3 u4 u5 u6 u7 u8 u9 huok
  obtain ⟨u0, u1, u2, u3, u4, u5, u6, u7, u8, u9, huok⟩ := uq (w.dd)
  have hml := w.ml
  refine FC_of [(0, .pointer (some ⟨A.U, 0, none⟩))] Tryz.func16 rfl Tryz.ntmps16 (by simp) rfl (fun R hR => ?_)
  refine V_sr T.mix (by kernel_rfl) (fun K1 hK1 => ?_)
  refine S_as rfl ?_
  refine S_nil (hK1 _ _ (V_keep [0] (by simp only [proj, lk, reduceIte, Nat.reduceEqDiff]; rfl) ?_)); clear hK1
  refine V_seq (fun K2 hK2 => ?_)
  refine V_sr T.mix (by kernel_rfl) (fun K3 hK3 => ?_)
  refine S_as rfl ?_
  refine S_nil (hK3 _ _ (V_keep [0, 3] (by simp only [proj, lk, reduceIte, Nat.reduceEqDiff]; rfl) ?_)); clear hK3
  refine V_block ?_
  refine V_loop (fun m l h' => ∃ (j : Nat), (j ≤ u.mine.length) ∧ m = u.mine.length - j ∧ l = [(0, .pointer (some ⟨A.U, 0, none⟩)), (3, .int .i64 (j : Int))] ∧ h = h') _ ⟨0, by omega, rfl, rfl, rfl⟩ ?_
  rintro m l h' ⟨j, hj, rfl, rfl, rfl⟩ K4 hK4
  refine V_seq (fun K5 hK5 => ?_)
  refine V_sr T.mix (by kernel_rfl) (fun K6 hK6 => ?_)
  refine S_mv rfl ?_
  refine S_mv rfl ?_
  refine S_nc rfl ?_
  first | refine S_fa0 T.f42_6 rfl ?_ | refine S_fa T.f42_6 rfl ?_
  refine S_ldK T.ag40 rfl (fun K' hK' => ?_)
  simp (disch := omega) only [u0, u1, u2, u3, u4, u5, u6, u7, u8, u9, oP_some, Nat.add_zero]
  refine hK' _ ?_; clear hK' K'
  refine S_lenl T.el40 rfl ?_
  refine S_bin rfl rfl rfl ?_
  refine S_nil (hK6 _ _ (V_keep [0, 3, 11] (by simp only [proj, lk, reduceIte, Nat.reduceEqDiff]; rfl) ?_)); clear hK6
  refine V_condp rfl (fun c60 => ?_) (fun c60 => ?_)
  · skip
    obtain ⟨bm, hbm, _, hcm, _⟩ := w.mi.get (show 0 < u.mine.length by omega)
    have hcl := hcm j (by omega)
    have hkp := w.kp _ (rmem (show j < u.mine.length by omega))
    have hkb := hkp.2
    refine V_skipk [0, 3] (by simp only [proj, lk, reduceIte, Nat.reduceEqDiff]; rfl) ?_
    refine hK5 _ _ ?_; clear hK5
    refine V_seq (fun K7 hK7 => ?_)
    refine V_block ?_
    refine V_sr T.mix (by kernel_rfl) (fun K8 hK8 => ?_)
    refine S_as rfl ?_
    refine S_nil (hK8 _ _ (V_keep [0, 3, 4] (by simp only [proj, lk, reduceIte, Nat.reduceEqDiff]; rfl) ?_)); clear hK8
    refine V_block ?_
    refine V_loop (fun m l h' => ∃ (i : Nat), (i ≤ (u.mine.getD j (none, 0)).2) ∧ m = (u.mine.getD j (none, 0)).2 - i ∧ l = [(0, .pointer (some ⟨A.U, 0, none⟩)), (3, .int .i64 (j : Int)), (4, .int .i64 (i : Int))] ∧ h = h') _ ⟨0, by omega, rfl, rfl, rfl⟩ ?_
    rintro m l h' ⟨i, hi, rfl, rfl, rfl⟩ K9 hK9
    refine V_seq (fun K10 hK10 => ?_)
    refine V_sr T.mix (by kernel_rfl) (fun K11 hK11 => ?_)
    refine S_mv rfl ?_
    refine S_mv rfl ?_
    refine S_nc rfl ?_
    first | refine S_fa0 T.f42_6 rfl ?_ | refine S_fa T.f42_6 rfl ?_
    refine S_ldK T.ag40 rfl (fun K' hK' => ?_)
    simp (disch := omega) only [u9, oP_some, Nat.add_zero]
    refine hK' _ ?_; clear hK' K'
    rw [hbm]
    refine S_mv rfl ?_
    first | refine S_ixn T.el40 rfl rfl (by omega) ?_ | refine S_ix1 T.el40 rfl rfl (by omega) (by omega) ?_ | refine S_ix T.el40 rfl rfl (by omega) (by omega) ?_
    refine S_ldK T.ag39 rfl (fun K' hK' => ?_)
    simp (disch := omega) only [u9, hcl, oP_some, Nat.add_zero]
    refine hK' _ ?_; clear hK' K'
    refine S_lenl T.el39 rfl ?_
    refine S_bin rfl rfl rfl ?_
    refine S_nil (hK11 _ _ (V_keep [0, 3, 4, 23] (by simp only [proj, lk, reduceIte, Nat.reduceEqDiff]; rfl) ?_)); clear hK11
    refine V_condp rfl (fun c61 => ?_) (fun c61 => ?_)
    · skip
      obtain ⟨bq, hbq, _, _, _⟩ := hkp.1.get (by rw [List.length_replicate]; omega)
      have hIq := hkp.1
      rw [hbq] at hIq
      have hat : ∀ i, i < (u.mine.getD j (none, 0)).2 → cellH h ⟨bq, i, none⟩ = some (.int .i64 (-99)) := fun i hi => by rw [hIq.at (by rw [List.length_replicate]; exact hi), rep_get _ _ hi]
      refine V_skipk [0, 3, 4] (by simp only [proj, lk, reduceIte, Nat.reduceEqDiff]; rfl) ?_
      refine hK10 _ _ ?_; clear hK10
      refine V_seq (fun K12 hK12 => ?_)
      refine V_block ?_
      refine V_sr T.mix (by kernel_rfl) (fun K13 hK13 => ?_)
      refine S_mv rfl ?_
      refine S_nc rfl ?_
      first | refine S_fa0 T.f42_6 rfl ?_ | refine S_fa T.f42_6 rfl ?_
      refine S_ldK T.ag40 rfl (fun K' hK' => ?_)
      simp (disch := omega) only [u9, oP_some, Nat.add_zero]
      refine hK' _ ?_; clear hK' K'
      rw [hbm]
      refine S_mv rfl ?_
      first | refine S_ixn T.el40 rfl rfl (by omega) ?_ | refine S_ix1 T.el40 rfl rfl (by omega) (by omega) ?_ | refine S_ix T.el40 rfl rfl (by omega) (by omega) ?_
      refine S_ldK T.ag39 rfl (fun K' hK' => ?_)
      simp (disch := omega) only [hcl, oP_some, Nat.add_zero]
      refine hK' _ ?_; clear hK' K'
      rw [hbq]
      refine S_mv rfl ?_
      first | refine S_ixn T.el39 rfl rfl (by omega) ?_ | refine S_ix1 T.el39 rfl rfl (by omega) (by omega) ?_ | refine S_ix T.el39 rfl rfl (by omega) (by omega) ?_
      refine S_ldK T.ag3 rfl (fun K' hK' => ?_)
      simp (disch := omega) only [u9, hcl, hat, oP_some, Nat.add_zero]
      refine hK' _ ?_; clear hK' K'
      refine S_bin rfl rfl rfl ?_
      refine S_nil (hK13 _ _ (V_keep [0, 3, 4, 36] (by simp only [proj, lk, reduceIte, Nat.reduceEqDiff]; rfl) ?_)); clear hK13
      refine V_condp rfl (fun c62 => ?_) (fun c62 => ?_)
      · skip
        exfalso; exact c62 rfl
      · skip
        refine V_skipk [0, 3, 4] (by simp only [proj, lk, reduceIte, Nat.reduceEqDiff]; rfl) ?_
        refine hK12 _ _ ?_; clear hK12
        refine V_reg T.mix (by kernel_rfl) ?_
        refine S_mv rfl ?_
        first | refine S_add rfl rfl (by omega) (by omega) ?_ | refine S_bin rfl rfl rfl ?_
        refine S_as rfl ?_
        refine S_nilk [0, 3, 4] (by simp only [proj, lk, reduceIte, Nat.reduceEqDiff]; rfl) ?_
        exact hK9 _ _ ⟨_, by omega, i + 1, by omega, rfl, rfl, rfl⟩
    · skip
      refine V_exitk [0, 3] rfl (by simp only [proj, lk, reduceIte, Nat.reduceEqDiff]; rfl) ?_
      refine hK7 _ _ ?_; clear hK7
      refine V_reg T.mix (by kernel_rfl) ?_
      refine S_mv rfl ?_
      first | refine S_add rfl rfl (by omega) (by omega) ?_ | refine S_bin rfl rfl rfl ?_
      refine S_as rfl ?_
      refine S_nilk [0, 3] (by simp only [proj, lk, reduceIte, Nat.reduceEqDiff]; rfl) ?_
      exact hK4 _ _ ⟨_, by omega, j + 1, by omega, rfl, rfl, rfl⟩
  · skip
    refine V_exitk [] rfl (by simp only [proj, lk, reduceIte, Nat.reduceEqDiff]; rfl) ?_
    refine hK2 _ _ ?_; clear hK2
    refine V_sr T.mix (by kernel_rfl) (fun K14 hK14 => ?_)
    refine S_as rfl ?_
    refine S_nil (hK14 _ _ (V_keep [2] (by simp only [proj, lk, reduceIte, Nat.reduceEqDiff]; rfl) ?_)); clear hK14
    refine V_ret ?_
    refine hR _ _ (ret1 rfl rfl ?_)
    exact ⟨rfl, rfl⟩
set_option maxHeartbeats 1600000 in
theorem keep_spec (h : Heap) (tg : Nat → Nat) (A : UA) (u : US) (nb : Nat) (w : UI h tg A u nb) (la : Option Addr) (xs : List Int) (hI : IL h la xs.length xs) (hxl : xs.length ≤ 1000) (h0 : ∀ b, blkA la = some b → tg b = 0) (hlb : ∀ b, blkA la = some b → A.base ≤ b) :
    FC Tryz.prog 73 (#[.pointer (some ⟨A.U, 0, none⟩), .slice la xs.length xs.length] : Array Value) h fun rv h' => rv = .tuple #[] ∧ ∃ (tg' : Nat → Nat) (u' : US), UI h' tg' A u' nb ∧ Ext (fun b => tg b ≠ 0 ∨ blkA la = some b) h h' ∧ (∀ b, b < h.size → tg b = 0 → blkA la ≠ some b → tg' b = 0) := by
  try clear u0 u1 u2 u3 u4 u5 u6 u7 u8 u9 huok
  obtain ⟨u0, u1, u2, u3, u4, u5, u6, u7, u8, u9, huok⟩ := uq (w.dd)
  have hml := w.ml
  have hlt := w.lt1
  have hmU : ∀ b, blkA u.ma = some b → b ≠ A.U := fun b e z => by have h9 := w.tm b e; rw [z, w.tU] at h9; omega
  have hlm : ∀ b, blkA la = some b → blkA u.ma ≠ some b := fun b e z => by have h9 := w.tm b z; rw [h0 b e] at h9; omega
  refine FC_of [(0, .pointer (some ⟨A.U, 0, none⟩)), (1, .slice la xs.length xs.length)] Tryz.func73 rfl Tryz.ntmps73 (by simp) rfl (fun R hR => ?_)
  refine V_seq (fun K1 hK1 => ?_)
  refine V_sr T.mix (by kernel_rfl) (fun K2 hK2 => ?_)
  refine S_mv rfl ?_
  refine S_lenl T.el39 rfl ?_
  refine S_bin rfl rfl rfl ?_
  refine S_nil (hK2 _ _ (V_keep [0, 1, 7] (by simp only [proj, lk, reduceIte, Nat.reduceEqDiff]; rfl) ?_)); clear hK2
  refine V_condp rfl (fun c72 => ?_) (fun c72 => ?_)
  · skip
    refine V_ret ?_
    refine hR _ _ (ret0 rfl ?_)
    exact ⟨rfl, tg, u, w, Ext.refl _ _, fun b hb e _ => e⟩
  · skip
    refine V_skipk [0, 1] (by simp only [proj, lk, reduceIte, Nat.reduceEqDiff]; rfl) ?_
    refine hK1 _ _ ?_; clear hK1
    refine V_sr T.mix (by kernel_rfl) (fun K3 hK3 => ?_)
    refine S_mv rfl ?_
    refine S_call T.hb109 rfl ?_
    refine FC.mono (spoil_spec h la xs hI hxl) ?_
    rintro v' h1 ⟨rfl, hI1, hE1⟩
    have w1 := w.ext hE1 (fun b e => h0 b e)
    have hkp1 : Kp h1 (la, xs.length) := ⟨hI1, hxl⟩
    have hs1 := hE1.1
    try clear u0 u1 u2 u3 u4 u5 u6 u7 u8 u9 huok
    obtain ⟨u0, u1, u2, u3, u4, u5, u6, u7, u8, u9, huok⟩ := uq (w1.dd)
    refine S_nil (hK3 _ _ (V_keep [0, 1] (by simp only [proj, lk, reduceIte, Nat.reduceEqDiff]; rfl) ?_)); clear hK3
    refine V_seq (fun K4 hK4 => ?_)
    refine V_sr T.mix (by kernel_rfl) (fun K5 hK5 => ?_)
    refine S_mv rfl ?_
    refine S_nc rfl ?_
    first | refine S_fa0 T.f42_6 rfl ?_ | refine S_fa T.f42_6 rfl ?_
    refine S_ldK T.ag40 rfl (fun K' hK' => ?_)
    simp (disch := omega) only [u0, u1, u2, u3, u4, u5, u6, u7, u8, u9, oP_some, Nat.add_zero]
    refine hK' _ ?_; clear hK' K'
    refine S_lenl T.el40 rfl ?_
    refine S_bin rfl rfl rfl ?_
    refine S_nil (hK5 _ _ (V_keep [0, 1, 15] (by simp only [proj, lk, reduceIte, Nat.reduceEqDiff]; rfl) ?_)); clear hK5
    refine V_condp rfl (fun c76 => ?_) (fun c76 => ?_)
    · skip
      refine V_sr T.mix (by kernel_rfl) (fun K6 hK6 => ?_)
      refine S_mv rfl ?_
      refine S_mv rfl ?_
      refine S_nc rfl ?_
      first | refine S_fa0 T.f42_6 rfl ?_ | refine S_fa T.f42_6 rfl ?_
      refine S_ldK T.ag40 rfl (fun K' hK' => ?_)
      simp (disch := omega) only [u0, u1, u2, u3, u4, u5, u6, u7, u8, u9, oP_some, Nat.add_zero]
      refine hK' _ ?_; clear hK' K'
      refine S_mv rfl ?_
      refine S_bs T.ei40 rfl (by decide) (by decide) (T.bs40_1_0 _ _ _) ?_
      refine S_appx (lo := 0) T.ei40 T.ni40 T.us40 rfl rfl rfl (OwnR.ext w1.mi (Ext.push (fun _ => False) _ _) (fun _ _ f => f)) (Nat.zero_le _) (cellsH_new _ _ _) rfl (by omega) (by decide) (by decide) rfl (fun a4 c4 h4 ho4 hE4x hb4x => ?_)
      have hE4 : Ext (fun z => blkA u.ma = some z) h1 h4 := (Ext.push _ _ _).trans hE4x
      have hb4 := new_blk2 (h := h1) hb4x (by simp)
      have hD4 := w1.dd.ext hE4 (fun e => hmU A.U e rfl)
      have hs4 := hE4.1
      have hm4 : MI h4 a4 c4 (u.mine ++ [(la, xs.length)]) := by unfold MI; rw [kvs_snoc, List.length_append]; exact ho4
      try clear u0 u1 u2 u3 u4 u5 u6 u7 u8 u9 huok
      obtain ⟨u0, u1, u2, u3, u4, u5, u6, u7, u8, u9, huok⟩ := uq (hD4)
      refine S_nc rfl ?_
      first | refine S_fa0 T.f42_6 rfl ?_ | refine S_fa T.f42_6 rfl ?_
      refine S_st T.sz40 rfl rfl rfl rfl (by simp (disch := omega) only [huok]) ?_
      generalize hh : putH _ _ _ = h5
      have hD5 : B h5 A.U (ucs A { u with ma := a4, mc := c4, mine := (u.mine ++ [(la, xs.length)]) }) 42 := by rw [← hh]; exact (hD4.put 9 _).cong (by simp [ucs])
      have hE5 : Ext (fun b => b = A.U) h4 h5 := by rw [← hh]; exact Ext.put _ _ rfl
      clear hh
      refine S_nil (hK6 _ _ (V_keep [] (by simp only [proj, lk, reduceIte, Nat.reduceEqDiff]; rfl) ?_)); clear hK6
      refine V_ret ?_
      refine hR _ _ (ret0 rfl ?_)
      have hm5 : MI h5 a4 c4 (u.mine ++ [(la, xs.length)]) := hm4.ext hE5 (fun b e z => by rcases hb4 b e with q | q; (exact hmU b q z); (omega))
      have hEt : Ext (fun b => b = A.U ∨ blkA u.ma = some b) h1 h5 := (hE4.mono fun _ e => .inr e).trans (hE5.mono fun _ e => .inl e)
      obtain ⟨tg2, w2, ht2⟩ := w1.keep (la := la) (n := xs.length) hEt hD5 hm5 (fun q hq => by rcases List.mem_append.1 hq with z | z; (exact .inl z); (exact .inr (List.mem_singleton.1 z))) (by simp; omega) (fun b e => by rcases hb4 b e with q | q; (exact .inl q); (exact .inr q)) hkp1 h0 hlb
      exact ⟨rfl, tg2, _, w2, (hE1.mono fun b e => .inr e).trans (hEt.mono fun b e => by rcases e with e | e; (left; rw [e, w.tU]; omega); (left; rw [w.tm b e]; omega)), fun b hb e hl => by rw [ht2 b (by omega) hl]; exact e⟩
    · skip
      refine V_skipk [0, 1] (by simp only [proj, lk, reduceIte, Nat.reduceEqDiff]; rfl) ?_
      refine hK4 _ _ ?_; clear hK4
      refine V_seq (fun K7 hK7 => ?_)
      refine V_sr T.mix (by kernel_rfl) (fun K8 hK8 => ?_)
      refine S_as rfl ?_
      refine S_nil (hK8 _ _ (V_keep [0, 1, 4] (by simp only [proj, lk, reduceIte, Nat.reduceEqDiff]; rfl) ?_)); clear hK8
      refine V_block ?_
      refine V_loop (fun m l h' => ∃ (k : Nat) (hk : Heap), (1 ≤ k) ∧ (k ≤ u.mine.length) ∧ (MI hk u.ma u.mc (shf u.mine k)) ∧ (Ext (fun b => blkA u.ma = some b) h1 hk) ∧ m = u.mine.length - k ∧ l = [(0, .pointer (some ⟨A.U, 0, none⟩)), (1, .slice la xs.length xs.length), (4, .int .i64 (k : Int))] ∧ hk = h') _ ⟨1, h1, by omega, by omega, by rw [shf_one]; exact w1.mi, Ext.refl _ _, rfl, rfl, rfl⟩ ?_
      rintro m l h' ⟨k, hk, hk1, hk2, hmk, hEk, rfl, rfl, rfl⟩ K9 hK9
      try clear u0 u1 u2 u3 u4 u5 u6 u7 u8 u9 huok
      obtain ⟨u0, u1, u2, u3, u4, u5, u6, u7, u8, u9, huok⟩ := uq (w1.dd.ext hEk (fun e => hmU A.U e rfl))
      refine V_seq (fun K10 hK10 => ?_)
      refine V_sr T.mix (by kernel_rfl) (fun K11 hK11 => ?_)
      refine S_mv rfl ?_
      refine S_mv rfl ?_
      refine S_nc rfl ?_
      first | refine S_fa0 T.f42_6 rfl ?_ | refine S_fa T.f42_6 rfl ?_
      refine S_ldK T.ag40 rfl (fun K' hK' => ?_)
      simp (disch := omega) only [u0, u1, u2, u3, u4, u5, u6, u7, u8, u9, oP_some, Nat.add_zero]
      refine hK' _ ?_; clear hK' K'
      refine S_lenl T.el40 rfl ?_
      refine S_bin rfl rfl rfl ?_
      refine S_nil (hK11 _ _ (V_keep [0, 1, 4, 32] (by simp only [proj, lk, reduceIte, Nat.reduceEqDiff]; rfl) ?_)); clear hK11
      refine V_condp rfl (fun c80 => ?_) (fun c80 => ?_)
      · skip
        obtain ⟨bm, hbm, _, hcm, hbok0⟩ := hmk.get (by rw [shf_len (by omega) (by omega)]; omega)
        have hcl : cellH hk ⟨bm, k, none⟩ = some (.slice (u.mine.getD k (none, 0)).1 (u.mine.getD k (none, 0)).2 (u.mine.getD k (none, 0)).2) := by have h9 := hcm k (by rw [shf_len (by omega) (by omega)]; omega); rw [shf_get (by omega) (by omega)] at h9; exact h9
        have hcap := (OwnR.len hmk).2
        rw [shf_len (by omega) (by omega)] at hcap
        have hbok : ∀ j, j < u.mine.length → okPut hk ⟨bm, j, none⟩ = true := fun j hj => hbok0 j (by omega)
        have hmk2 := hmk
        rw [hbm] at hmk2
        refine V_skipk [0, 1, 4] (by simp only [proj, lk, reduceIte, Nat.reduceEqDiff]; rfl) ?_
        refine hK10 _ _ ?_; clear hK10
        refine V_seq (fun K12 hK12 => ?_)
        refine V_block ?_
        refine V_reg T.mix (by kernel_rfl) ?_
        refine S_mv rfl ?_
        refine S_nc rfl ?_
        first | refine S_fa0 T.f42_6 rfl ?_ | refine S_fa T.f42_6 rfl ?_
        refine S_ldK T.ag40 rfl (fun K' hK' => ?_)
        simp (disch := omega) only [u9, oP_some, Nat.add_zero]
        refine hK' _ ?_; clear hK' K'
        rw [hbm]
        refine S_mv rfl ?_
        first | refine S_sub rfl rfl (by omega) (by omega) ?_ | refine S_bin rfl rfl rfl ?_
        refine S_mv rfl ?_
        refine S_nc rfl ?_
        first | refine S_fa0 T.f42_6 rfl ?_ | refine S_fa T.f42_6 rfl ?_
        refine S_ldK T.ag40 rfl (fun K' hK' => ?_)
        simp (disch := omega) only [u9, oP_some, Nat.add_zero]
        refine hK' _ ?_; clear hK' K'
        rw [hbm]
        refine S_mv rfl ?_
        first | refine S_ixn T.el40 rfl rfl (by omega) ?_ | refine S_ix1 T.el40 rfl rfl (by omega) (by omega) ?_ | refine S_ix T.el40 rfl rfl (by omega) (by omega) ?_
        refine S_ldK T.ag39 rfl (fun K' hK' => ?_)
        simp (disch := omega) only [hcl, oP_some, Nat.add_zero]
        refine hK' _ ?_; clear hK' K'
        first | refine S_ixn T.el40 rfl rfl (by omega) ?_ | refine S_ix1 T.el40 rfl rfl (by omega) (by omega) ?_ | refine S_ix T.el40 rfl rfl (by omega) (by omega) ?_
        refine S_st T.sz39 rfl rfl rfl rfl (by simp (disch := omega) only [hbok]) ?_
        generalize hh : putH _ _ _ = h5
        have hm5 : MI h5 (some ⟨bm, 0, none⟩) u.mc (shf u.mine (k + 1)) := by rw [← hh, ← shf_set (by omega) (by omega), show ((k : Int) - 1).toNat = k - 1 by omega]; exact hmk2.put (k - 1) (u.mine.getD k (none, 0))
        have hE5 : Ext (fun b => blkA u.ma = some b) hk h5 := by rw [← hh, hbm]; exact Ext.put _ _ rfl
        clear hh
        refine S_nilk [0, 1, 4] (by simp only [proj, lk, reduceIte, Nat.reduceEqDiff]; rfl) ?_
        refine hK12 _ _ ?_; clear hK12
        refine V_reg T.mix (by kernel_rfl) ?_
        refine S_mv rfl ?_
        first | refine S_add rfl rfl (by omega) (by omega) ?_ | refine S_bin rfl rfl rfl ?_
        refine S_as rfl ?_
        refine S_nilk [0, 1, 4] (by simp only [proj, lk, reduceIte, Nat.reduceEqDiff]; rfl) ?_
        exact hK9 _ _ ⟨_, by omega, k + 1, h5, by omega, by omega, by rw [hbm]; exact hm5, hEk.trans hE5, rfl, rfl, rfl⟩
      · skip
        have hkl : k = u.mine.length := by omega
        obtain ⟨bm, hbm, _, hcm, hbok0⟩ := hmk.get (by rw [shf_len (by omega) (by omega)]; omega)
        have hcap := (OwnR.len hmk).2
        rw [shf_len (by omega) (by omega)] at hcap
        have hbok : ∀ j, j < u.mine.length → okPut hk ⟨bm, j, none⟩ = true := fun j hj => hbok0 j (by omega)
        have hmk2 := hmk
        rw [hbm] at hmk2
        refine V_exitk [0, 1] rfl (by simp only [proj, lk, reduceIte, Nat.reduceEqDiff]; rfl) ?_
        refine hK7 _ _ ?_; clear hK7
        refine V_reg T.mix (by kernel_rfl) ?_
        refine S_mv rfl ?_
        refine S_nc rfl ?_
        first | refine S_fa0 T.f42_6 rfl ?_ | refine S_fa T.f42_6 rfl ?_
        refine S_ldK T.ag40 rfl (fun K' hK' => ?_)
        simp (disch := omega) only [u9, oP_some, Nat.add_zero]
        refine hK' _ ?_; clear hK' K'
        rw [hbm]
        refine S_mv rfl ?_
        refine S_nc rfl ?_
        first | refine S_fa0 T.f42_6 rfl ?_ | refine S_fa T.f42_6 rfl ?_
        refine S_ldK T.ag40 rfl (fun K' hK' => ?_)
        simp (disch := omega) only [u0, u1, u2, u3, u4, u5, u6, u7, u8, u9, oP_some, Nat.add_zero]
        refine hK' _ ?_; clear hK' K'
        refine S_lenl T.el40 rfl ?_
        first | refine S_sub rfl rfl (by omega) (by omega) ?_ | refine S_bin rfl rfl rfl ?_
        refine S_mv rfl ?_
        first | refine S_ixn T.el40 rfl rfl (by omega) ?_ | refine S_ix1 T.el40 rfl rfl (by omega) (by omega) ?_ | refine S_ix T.el40 rfl rfl (by omega) (by omega) ?_
        refine S_st T.sz39 rfl rfl rfl rfl (by simp (disch := omega) only [hbok]) ?_
        generalize hh : putH _ _ _ = h5
        have hm5 : MI h5 (some ⟨bm, 0, none⟩) u.mc ((shf u.mine k).set (u.mine.length - 1) (la, xs.length)) := by rw [← hh, show ((u.mine.length : Int) - 1).toNat = u.mine.length - 1 by omega]; exact hmk2.put (u.mine.length - 1) (la, xs.length)
        have hE5 : Ext (fun b => blkA u.ma = some b) hk h5 := by rw [← hh, hbm]; exact Ext.put _ _ rfl
        clear hh
        refine S_nilk [] (by simp only [proj, lk, reduceIte, Nat.reduceEqDiff]; rfl) ?_
        -- end
        refine hR _ _ (ret0 rfl ?_)
        have hE15 := hEk.trans hE5
        have hD5 : B h5 A.U (ucs A { u with ma := u.ma, mc := u.mc, mine := ((shf u.mine k).set (u.mine.length - 1) (la, xs.length)) }) 42 := by have h9 := w1.dd.ext hE15 (fun e => hmU A.U e rfl); unfold ucs at h9 ⊢; simp only [List.length_set, shf_len hk1 hk2]; exact h9
        rw [← hbm] at hm5
        obtain ⟨tg2, w2, ht2⟩ := w1.keep (la := la) (n := xs.length) (hE15.mono fun _ e => .inr e) hD5 hm5 (fun q hq => by rcases set_mem hq with z | z; (exact .inl (shf_mem z)); (exact .inr z)) (by rw [List.length_set, shf_len hk1 hk2]; exact hml) (fun b e => .inl e) hkp1 h0 hlb
        exact ⟨rfl, tg2, _, w2, (hE1.mono fun b e => .inr e).trans (hE15.mono fun b e => by left; rw [w.tm b e]; omega), fun b hb e hl => by rw [ht2 b (by omega) hl]; exact e⟩
set_option maxHeartbeats 400000 in
theorem samedecide_spec (h : Heap) (tg : Nat → Nat) (A : UA) (u : US) (nb : Nat) (w : UI h tg A u nb) (x : Int) :
    FC Tryz.prog 27 (#[.pointer (some ⟨A.U, 0, none⟩), .int .i64 x] : Array Value) h fun rv h' => rv = .bool true ∧ ∃ (tg' : Nat → Nat) (u' : US), UI h' tg' A u' (nb + 12) ∧ KP tg tg' h h' := by
  try clear u0 u1 u2 u3 u4 u5 u6 u7 u8 u9 huok
  obtain ⟨u0, u1, u2, u3, u4, u5, u6, u7, u8, u9, huok⟩ := uq (w.dd)
  have nXU : A.U ≠ A.X := fun e => by have h8 := w.tU; rw [e, w.tX] at h8; omega
  have hok := w.wx.ok
  have hl12 := hok.len
  have hcc := hok.c
  have hpp := w.pp
  have hhb := w.hb
  have hlt := w.lt1
  refine FC_of [(0, .pointer (some ⟨A.U, 0, none⟩)), (1, .int .i64 x)] Tryz.func27 rfl Tryz.ntmps27 (by simp) rfl (fun R hR => ?_)
  refine V_sr T.mix (by kernel_rfl) (fun K1 hK1 => ?_)
  refine S_as rfl ?_
  refine S_nil (hK1 _ _ (V_keep [0, 1] (by simp only [proj, lk, reduceIte, Nat.reduceEqDiff]; rfl) ?_)); clear hK1
  refine V_sr T.mix (by kernel_rfl) (fun K2 hK2 => ?_)
  refine S_mv rfl ?_
  refine S_nc rfl ?_
  first | refine S_fa0 T.f42_0 rfl ?_ | refine S_fa T.f42_0 rfl ?_
  first | refine S_fa0 T.f31_0 rfl ?_ | refine S_fa T.f31_0 rfl ?_
  refine S_ldK T.ag28 rfl (fun K' hK' => ?_)
  simp (disch := omega) only [u0, u1, u2, u3, u4, u5, u6, u7, u8, u9, oP_some, Nat.add_zero]
  refine hK' _ ?_; clear hK' K'
  refine S_mv rfl ?_
  refine S_call T.hb62 rfl ?_
  refine FC.mono (decide_spec h A.X u.s u.p w.wx.t x) ?_
  rintro v' h2 ⟨rfl, hr2, hE2⟩
  have ms2 := w.mv.t.ext hE2 (fun b hb e => by have h8 := w.tF b hb; rw [e, w.tX] at h8; omega)
  have hD2 := w.dd.ext hE2 (fun e => nXU e)
  try clear u0 u1 u2 u3 u4 u5 u6 u7 u8 u9 huok
  obtain ⟨u0, u1, u2, u3, u4, u5, u6, u7, u8, u9, huok⟩ := uq (hD2)
  refine S_as rfl ?_
  refine S_nil (hK2 _ _ (V_keep [0, 1, 5] (by simp only [proj, lk, reduceIte, Nat.reduceEqDiff]; rfl) ?_)); clear hK2
  refine V_sr T.mix (by kernel_rfl) (fun K3 hK3 => ?_)
  refine S_mv rfl ?_
  refine S_nc rfl ?_
  first | refine S_fa0 T.f42_2 rfl ?_ | refine S_fa T.f42_2 rfl ?_
  first | refine S_fa0 T.f38_0 rfl ?_ | refine S_fa T.f38_0 rfl ?_
  refine S_ldK T.ag34 rfl (fun K' hK' => ?_)
  simp (disch := omega) only [u0, u1, u2, u3, u4, u5, u6, u7, u8, u9, oP_some, Nat.add_zero]
  refine hK' _ ?_; clear hK' K'
  refine S_mv rfl ?_
  refine S_call T.hb63 rfl ?_
  refine FC.mono (mdecide_spec h2 A.Y u.F u.s ms2 x) ?_
  rintro v' h3 ⟨rfl, F3, hm3, hx3⟩
  have hD3 := hD2.ext hx3.1 (fun e => by have h8 := w.tF _ e; rw [w.tU] at h8; omega)
  try clear u0 u1 u2 u3 u4 u5 u6 u7 u8 u9 huok
  obtain ⟨u0, u1, u2, u3, u4, u5, u6, u7, u8, u9, huok⟩ := uq (hD3)
  refine S_as rfl ?_
  refine S_nil (hK3 _ _ (V_keep [5, 6] (by simp only [proj, lk, reduceIte, Nat.reduceEqDiff]; rfl) ?_)); clear hK3
  refine V_sr T.mix (by kernel_rfl) (fun K4 hK4 => ?_)
  refine S_mv rfl ?_
  refine S_mv rfl ?_
  refine S_bin rfl rfl rfl ?_
  refine S_as rfl ?_
  refine S_nil (hK4 _ _ (V_keep [4] (by simp only [proj, lk, reduceIte, Nat.reduceEqDiff]; rfl) ?_)); clear hK4
  refine V_ret ?_
  refine hR _ _ (ret1 rfl rfl ?_)
  obtain ⟨tg3, w3, hkp3⟩ := w.trl (la := u.last) (lo := u.loose) hr2 hE2 hm3 hx3 (Ext.refl _ _) hD3 (wi_dec w.wx.i hcc x) (by omega) (fun e => sn_dec hok (w.sd e) x)
  exact ⟨by simp, tg3, _, w3, hkp3⟩
set_option maxHeartbeats 400000 in
theorem samebackjump_spec (h : Heap) (tg : Nat → Nat) (A : UA) (u : US) (nb : Nat) (w : UI h tg A u nb) (x : Int) (hnb : nb ≤ 900000000000000) :
    FC Tryz.prog 29 (#[.pointer (some ⟨A.U, 0, none⟩), .int .i64 x] : Array Value) h fun rv h' => rv = .bool true ∧ ∃ (tg' : Nat → Nat) (u' : US), UI h' tg' A u' (nb + 12) ∧ KP tg tg' h h' := by
  try clear u0 u1 u2 u3 u4 u5 u6 u7 u8 u9 huok
  obtain ⟨u0, u1, u2, u3, u4, u5, u6, u7, u8, u9, huok⟩ := uq (w.dd)
  have nXU : A.U ≠ A.X := fun e => by have h8 := w.tU; rw [e, w.tX] at h8; omega
  have hok := w.wx.ok
  have hl12 := hok.len
  have hcc := hok.c
  have hpp := w.pp
  have hhb := w.hb
  have hlt := w.lt1
  have hbl := bj_len u.s x
  refine FC_of [(0, .pointer (some ⟨A.U, 0, none⟩)), (1, .int .i64 x)] Tryz.func29 rfl Tryz.ntmps29 (by simp) rfl (fun R hR => ?_)
  refine V_sr T.mix (by kernel_rfl) (fun K1 hK1 => ?_)
  refine S_as rfl ?_
  refine S_nil (hK1 _ _ (V_keep [0, 1] (by simp only [proj, lk, reduceIte, Nat.reduceEqDiff]; rfl) ?_)); clear hK1
  refine V_sr T.mix (by kernel_rfl) (fun K2 hK2 => ?_)
  refine S_mv rfl ?_
  refine S_nc rfl ?_
  first | refine S_fa0 T.f42_0 rfl ?_ | refine S_fa T.f42_0 rfl ?_
  first | refine S_fa0 T.f31_0 rfl ?_ | refine S_fa T.f31_0 rfl ?_
  refine S_ldK T.ag28 rfl (fun K' hK' => ?_)
  simp (disch := omega) only [u0, u1, u2, u3, u4, u5, u6, u7, u8, u9, oP_some, Nat.add_zero]
  refine hK' _ ?_; clear hK' K'
  refine S_mv rfl ?_
  refine S_call T.hb68 rfl ?_
  refine FC.mono (backjump_spec h A.X u.s u.p w.wx.t x (by omega)) ?_
  rintro v' h2 ⟨rfl, hr2, hE2⟩
  have ms2 := w.mv.t.ext hE2 (fun b hb e => by have h8 := w.tF b hb; rw [e, w.tX] at h8; omega)
  have hD2 := w.dd.ext hE2 (fun e => nXU e)
  try clear u0 u1 u2 u3 u4 u5 u6 u7 u8 u9 huok
  obtain ⟨u0, u1, u2, u3, u4, u5, u6, u7, u8, u9, huok⟩ := uq (hD2)
  refine S_as rfl ?_
  refine S_nil (hK2 _ _ (V_keep [0, 1, 5] (by simp only [proj, lk, reduceIte, Nat.reduceEqDiff]; rfl) ?_)); clear hK2
  refine V_sr T.mix (by kernel_rfl) (fun K3 hK3 => ?_)
  refine S_mv rfl ?_
  refine S_nc rfl ?_
  first | refine S_fa0 T.f42_2 rfl ?_ | refine S_fa T.f42_2 rfl ?_
  first | refine S_fa0 T.f38_0 rfl ?_ | refine S_fa T.f38_0 rfl ?_
  refine S_ldK T.ag34 rfl (fun K' hK' => ?_)
  simp (disch := omega) only [u0, u1, u2, u3, u4, u5, u6, u7, u8, u9, oP_some, Nat.add_zero]
  refine hK' _ ?_; clear hK' K'
  refine S_mv rfl ?_
  refine S_call T.hb69 rfl ?_
  refine FC.mono (mbackjump_spec h2 A.Y u.F u.s ms2 x) ?_
  rintro v' h3 ⟨rfl, F3, hm3, hx3⟩
  have hD3 := hD2.ext hx3.1 (fun e => by have h8 := w.tF _ e; rw [w.tU] at h8; omega)
  try clear u0 u1 u2 u3 u4 u5 u6 u7 u8 u9 huok
  obtain ⟨u0, u1, u2, u3, u4, u5, u6, u7, u8, u9, huok⟩ := uq (hD3)
  refine S_as rfl ?_
  refine S_nil (hK3 _ _ (V_keep [5, 6] (by simp only [proj, lk, reduceIte, Nat.reduceEqDiff]; rfl) ?_)); clear hK3
  refine V_sr T.mix (by kernel_rfl) (fun K4 hK4 => ?_)
  refine S_mv rfl ?_
  refine S_mv rfl ?_
  refine S_bin rfl rfl rfl ?_
  refine S_as rfl ?_
  refine S_nil (hK4 _ _ (V_keep [4] (by simp only [proj, lk, reduceIte, Nat.reduceEqDiff]; rfl) ?_)); clear hK4
  refine V_ret ?_
  refine hR _ _ (ret1 rfl rfl ?_)
  obtain ⟨tg3, w3, hkp3⟩ := w.trl (la := u.last) (lo := u.loose) hr2 hE2 hm3 hx3 (Ext.refl _ _) hD3 (wi_bj w.wx.i x) (by omega) (fun e => sn_bj hok (w.sd e) x)
  exact ⟨by simp, tg3, _, w3, hkp3⟩
set_option maxHeartbeats 400000 in
theorem sameforce_spec (h : Heap) (tg : Nat → Nat) (A : UA) (u : US) (nb : Nat) (w : UI h tg A u nb) (x r : Int) :
    FC Tryz.prog 36 (#[.pointer (some ⟨A.U, 0, none⟩), .int .i64 x, .int .i64 r] : Array Value) h fun rv h' => rv = .bool true ∧ ∃ (tg' : Nat → Nat) (u' : US), UI h' tg' A u' (nb + 12) ∧ KP tg tg' h h' := by
  try clear u0 u1 u2 u3 u4 u5 u6 u7 u8 u9 huok
  obtain ⟨u0, u1, u2, u3, u4, u5, u6, u7, u8, u9, huok⟩ := uq (w.dd)
  have nXU : A.U ≠ A.X := fun e => by have h8 := w.tU; rw [e, w.tX] at h8; omega
  have hok := w.wx.ok
  have hl12 := hok.len
  have hcc := hok.c
  have hpp := w.pp
  have hhb := w.hb
  have hlt := w.lt1
  refine FC_of [(0, .pointer (some ⟨A.U, 0, none⟩)), (1, .int .i64 x), (2, .int .i64 r)] Tryz.func36 rfl Tryz.ntmps36 (by simp) rfl (fun R hR => ?_)
  refine V_sr T.mix (by kernel_rfl) (fun K1 hK1 => ?_)
  refine S_as rfl ?_
  refine S_nil (hK1 _ _ (V_keep [0, 1, 2] (by simp only [proj, lk, reduceIte, Nat.reduceEqDiff]; rfl) ?_)); clear hK1
  refine V_sr T.mix (by kernel_rfl) (fun K2 hK2 => ?_)
  refine S_mv rfl ?_
  refine S_nc rfl ?_
  first | refine S_fa0 T.f42_0 rfl ?_ | refine S_fa T.f42_0 rfl ?_
  first | refine S_fa0 T.f31_0 rfl ?_ | refine S_fa T.f31_0 rfl ?_
  refine S_ldK T.ag28 rfl (fun K' hK' => ?_)
  simp (disch := omega) only [u0, u1, u2, u3, u4, u5, u6, u7, u8, u9, oP_some, Nat.add_zero]
  refine hK' _ ?_; clear hK' K'
  refine S_mv rfl ?_
  refine S_mv rfl ?_
  refine S_call T.hb82 rfl ?_
  refine FC.mono (assign_spec h A.X u.s u.p w.wx.t x r) ?_
  rintro v' h2 ⟨rfl, hr2, hE2⟩
  have ms2 := w.mv.t.ext hE2 (fun b hb e => by have h8 := w.tF b hb; rw [e, w.tX] at h8; omega)
  have hD2 := w.dd.ext hE2 (fun e => nXU e)
  try clear u0 u1 u2 u3 u4 u5 u6 u7 u8 u9 huok
  obtain ⟨u0, u1, u2, u3, u4, u5, u6, u7, u8, u9, huok⟩ := uq (hD2)
  refine S_as rfl ?_
  refine S_nil (hK2 _ _ (V_keep [0, 1, 2, 7] (by simp only [proj, lk, reduceIte, Nat.reduceEqDiff]; rfl) ?_)); clear hK2
  refine V_sr T.mix (by kernel_rfl) (fun K3 hK3 => ?_)
  refine S_mv rfl ?_
  refine S_nc rfl ?_
  first | refine S_fa0 T.f42_2 rfl ?_ | refine S_fa T.f42_2 rfl ?_
  first | refine S_fa0 T.f38_0 rfl ?_ | refine S_fa T.f38_0 rfl ?_
  refine S_ldK T.ag34 rfl (fun K' hK' => ?_)
  simp (disch := omega) only [u0, u1, u2, u3, u4, u5, u6, u7, u8, u9, oP_some, Nat.add_zero]
  refine hK' _ ?_; clear hK' K'
  refine S_mv rfl ?_
  refine S_mv rfl ?_
  refine S_call T.hb83 rfl ?_
  refine FC.mono (massign_spec h2 A.Y u.F u.s ms2 x r) ?_
  rintro v' h3 ⟨rfl, F3, hm3, hx3⟩
  have hD3 := hD2.ext hx3.1 (fun e => by have h8 := w.tF _ e; rw [w.tU] at h8; omega)
  try clear u0 u1 u2 u3 u4 u5 u6 u7 u8 u9 huok
  obtain ⟨u0, u1, u2, u3, u4, u5, u6, u7, u8, u9, huok⟩ := uq (hD3)
  refine S_as rfl ?_
  refine S_nil (hK3 _ _ (V_keep [0, 7, 8] (by simp only [proj, lk, reduceIte, Nat.reduceEqDiff]; rfl) ?_)); clear hK3
  refine V_seq (fun K4 hK4 => ?_)
  refine V_sr T.mix (by kernel_rfl) (fun K5 hK5 => ?_)
  refine S_mv rfl ?_
  refine S_bin rfl rfl rfl ?_
  refine S_nil (hK5 _ _ (V_keep [0, 7, 8, 26] (by simp only [proj, lk, reduceIte, Nat.reduceEqDiff]; rfl) ?_)); clear hK5
  refine V_condp rfl (fun c185 => ?_) (fun c185 => ?_)
  · skip
    refine V_reg T.mix (by kernel_rfl) ?_
    refine S_mv rfl ?_
    refine S_nc rfl ?_
    first | refine S_fa0 T.f42_5 rfl ?_ | refine S_fa T.f42_5 rfl ?_
    refine S_st T.sz4 rfl rfl rfl rfl (by simp (disch := omega) only [huok]) ?_
    generalize hh : putH _ _ _ = h4
    have hD4 : B h4 A.U (ucs A { u with last := u.last, loose := true }) 42 := by rw [← hh]; exact (hD3.put 8 _).cong (by simp [ucs])
    have hE4 : Ext (fun b => b = A.U) h3 h4 := by rw [← hh]; exact Ext.put _ _ rfl
    clear hh
    refine S_nilk [7, 8] (by simp only [proj, lk, reduceIte, Nat.reduceEqDiff]; rfl) ?_
    refine hK4 _ _ ?_; clear hK4
    refine V_sr T.mix (by kernel_rfl) (fun K6 hK6 => ?_)
    refine S_mv rfl ?_
    refine S_mv rfl ?_
    refine S_bin rfl rfl rfl ?_
    refine S_as rfl ?_
    refine S_nil (hK6 _ _ (V_keep [6] (by simp only [proj, lk, reduceIte, Nat.reduceEqDiff]; rfl) ?_)); clear hK6
    refine V_ret ?_
    refine hR _ _ (ret1 rfl rfl ?_)
    obtain ⟨tg3, w3, hkp3⟩ := w.trl (la := u.last) (lo := true) hr2 hE2 hm3 hx3 hE4 hD4 (wi_asg w.wx.i hcc x r) (by omega) (fun e => by cases e)
    exact ⟨by simp, tg3, _, w3, hkp3⟩
  · skip
    refine V_skipk [7, 8] (by simp only [proj, lk, reduceIte, Nat.reduceEqDiff]; rfl) ?_
    refine hK4 _ _ ?_; clear hK4
    refine V_sr T.mix (by kernel_rfl) (fun K7 hK7 => ?_)
    refine S_mv rfl ?_
    refine S_mv rfl ?_
    refine S_bin rfl rfl rfl ?_
    refine S_as rfl ?_
    refine S_nil (hK7 _ _ (V_keep [6] (by simp only [proj, lk, reduceIte, Nat.reduceEqDiff]; rfl) ?_)); clear hK7
    refine V_ret ?_
    refine hR _ _ (ret1 rfl rfl ?_)
    obtain ⟨tg3, w3, hkp3⟩ := w.trl (la := u.last) (lo := u.loose) hr2 hE2 hm3 hx3 (Ext.refl _ _) hD3 (wi_asg w.wx.i hcc x r) (by omega) (fun e => by rw [asg_no (by omega)]; exact w.sd e)
    exact ⟨by simp, tg3, _, w3, hkp3⟩
set_option maxHeartbeats 400000 in
theorem sameremove_spec (h : Heap) (tg : Nat → Nat) (A : UA) (u : US) (nb : Nat) (w : UI h tg A u nb) (id : Int) :
    FC Tryz.prog 30 (#[.pointer (some ⟨A.U, 0, none⟩), .int .i64 id] : Array Value) h fun rv h' => rv = .bool true ∧ ∃ (tg' : Nat → Nat) (u' : US), UI h' tg' A u' (nb + 12) ∧ KP tg tg' h h' := by
  try clear u0 u1 u2 u3 u4 u5 u6 u7 u8 u9 huok
  obtain ⟨u0, u1, u2, u3, u4, u5, u6, u7, u8, u9, huok⟩ := uq (w.dd)
  have nXU : A.U ≠ A.X := fun e => by have h8 := w.tU; rw [e, w.tX] at h8; omega
  have hok := w.wx.ok
  have hl12 := hok.len
  have hcc := hok.c
  have hpp := w.pp
  have hhb := w.hb
  have hlt := w.lt1
  have nC : ∀ b, tg b ≠ 2 → b ≠ A.C := fun b e z => e (by rw [z]; exact w.tC)
  have nM : ∀ b, tg b ≠ 4 → b ≠ A.M := fun b e z => e (by rw [z]; exact w.tM)
  refine FC_of [(0, .pointer (some ⟨A.U, 0, none⟩)), (1, .int .i64 id)] Tryz.func30 rfl Tryz.ntmps30 (by simp) rfl (fun R hR => ?_)
  refine V_sr T.mix (by kernel_rfl) (fun K1 hK1 => ?_)
  refine S_as rfl ?_
  refine S_nil (hK1 _ _ (V_keep [0, 1] (by simp only [proj, lk, reduceIte, Nat.reduceEqDiff]; rfl) ?_)); clear hK1
  refine V_sr T.mix (by kernel_rfl) (fun K2 hK2 => ?_)
  refine S_mv rfl ?_
  refine S_nc rfl ?_
  first | refine S_fa0 T.f42_0 rfl ?_ | refine S_fa T.f42_0 rfl ?_
  first | refine S_fa0 T.f31_1 rfl ?_ | refine S_fa T.f31_1 rfl ?_
  refine S_ldK T.ag29 rfl (fun K' hK' => ?_)
  simp (disch := omega) only [u0, u1, u2, u3, u4, u5, u6, u7, u8, u9, oP_some, Nat.add_zero]
  refine hK' _ ?_; clear hK' K'
  refine S_mv rfl ?_
  refine S_call T.hb70 rfl ?_
  refine FC.mono (wremove_spec h A.C A.X u.W u.cl u.s u.p w.wx id) ?_
  rintro v' h2 ⟨W2, rfl, wx2, hv2, hd2, hE2⟩
  have mv2 := w.mv.ext hE2 (nC _ (by rw [w.tM]; omega)) (fun b hb => nC b (by rw [w.tG b hb]; omega)) (fun b hb => nC b (by rw [w.tF b hb]; omega))
  have hD2 := w.dd.ext hE2 (nC _ (by rw [w.tU]; omega))
  try clear u0 u1 u2 u3 u4 u5 u6 u7 u8 u9 huok
  obtain ⟨u0, u1, u2, u3, u4, u5, u6, u7, u8, u9, huok⟩ := uq (hD2)
  refine S_as rfl ?_
  refine S_nil (hK2 _ _ (V_keep [0, 1, 5] (by simp only [proj, lk, reduceIte, Nat.reduceEqDiff]; rfl) ?_)); clear hK2
  refine V_sr T.mix (by kernel_rfl) (fun K3 hK3 => ?_)
  refine S_mv rfl ?_
  refine S_nc rfl ?_
  first | refine S_fa0 T.f42_2 rfl ?_ | refine S_fa T.f42_2 rfl ?_
  first | refine S_fa0 T.f38_1 rfl ?_ | refine S_fa T.f38_1 rfl ?_
  refine S_ldK T.ag35 rfl (fun K' hK' => ?_)
  simp (disch := omega) only [u0, u1, u2, u3, u4, u5, u6, u7, u8, u9, oP_some, Nat.add_zero]
  refine hK' _ ?_; clear hK' K'
  refine S_mv rfl ?_
  refine S_call T.hb71 rfl ?_
  refine FC.mono (mwremove_spec h2 A.M A.Y u.mm u.cl u.G u.F u.s mv2 id) ?_
  rintro v' h3 ⟨mz, rfl, mv3, hsn, hdu, hE3⟩
  have hD3 := hD2.ext hE3 (nM _ (by rw [w.tU]; omega))
  have wx3 := wx2.ext hE3 (nM _ (by rw [w.tC]; omega)) (nM _ (by rw [w.tX]; omega))
  refine S_as rfl ?_
  refine S_nil (hK3 _ _ (V_keep [5, 6] (by simp only [proj, lk, reduceIte, Nat.reduceEqDiff]; rfl) ?_)); clear hK3
  refine V_sr T.mix (by kernel_rfl) (fun K4 hK4 => ?_)
  refine S_mv rfl ?_
  refine S_mv rfl ?_
  refine S_bin rfl rfl rfl ?_
  refine S_as rfl ?_
  refine S_nil (hK4 _ _ (V_keep [4] (by simp only [proj, lk, reduceIte, Nat.reduceEqDiff]; rfl) ?_)); clear hK4
  refine V_ret ?_
  refine hR _ _ (ret1 rfl rfl ?_)
  have hEt : Ext (fun b => b = A.C ∨ b = A.M) h h3 := (hE2.mono fun _ e => .inl e).trans (hE3.mono fun _ e => .inr e)
  have hSt : ∀ b, b = A.C ∨ b = A.M → tg b ≠ 0 ∧ tg b ≤ 6 := fun b e => by rcases e with e | e; (rw [e, w.tC]; omega); (rw [e, w.tM]; omega)
  obtain ⟨tg3, w3, ht3⟩ := w.turn (la := u.last) (lo := u.loose) (nb' := nb + 12) hEt (fun b e => (hSt b e).2) hD3 wx3 mv3 (fun b e => .inl e) (fun b e => .inl e) (fun i hi e => by obtain ⟨q1, q2⟩ := hd2 i e; rcases hdu i (w.du i hi q1) with z | z; (exact z); (exact absurd z q2)) (by rw [hv2, hsn]; exact w.vs) (by rw [hsn]; exact w.sb) (by omega) (fun e => sn_rem hok (w.sd e) id)
  exact ⟨by simp, tg3, _, w3, KP.of hEt (fun b e => (hSt b e).1) ht3⟩
set_option maxHeartbeats 1600000 in
theorem sameadd_spec (h : Heap) (tg : Nat → Nat) (A : UA) (u : US) (nb : Nat) (w : UI h tg A u nb) (ca : Option Addr) (cap : Nat) (xs : List Int) (hIc : IL h ca cap xs) (hxl : xs.length ≤ 1000) (le : Bool) :
    FC Tryz.prog 26 (#[.pointer (some ⟨A.U, 0, none⟩), .slice ca xs.length cap, .bool (decide (le = true))] : Array Value) h fun rv h' => rv = .bool true ∧ ∃ (tg' : Nat → Nat) (u' : US), UI h' tg' A u' nb ∧ KP tg tg' h h' := by
  try clear u0 u1 u2 u3 u4 u5 u6 u7 u8 u9 huok
  obtain ⟨u0, u1, u2, u3, u4, u5, u6, u7, u8, u9, huok⟩ := uq (w.dd)
  have nXU : A.U ≠ A.X := fun e => by have h8 := w.tU; rw [e, w.tX] at h8; omega
  have hok := w.wx.ok
  have hl12 := hok.len
  have hcc := hok.c
  have hpp := w.pp
  have hhb := w.hb
  have hlt := w.lt1
  have nC : ∀ b, tg b ≠ 2 → b ≠ A.C := fun b e z => e (by rw [z]; exact w.tC)
  have nM : ∀ b, tg b ≠ 4 → b ≠ A.M := fun b e z => e (by rw [z]; exact w.tM)
  refine FC_of [(0, .pointer (some ⟨A.U, 0, none⟩)), (1, .slice ca xs.length cap), (2, .bool (decide (le = true)))] Tryz.func26 rfl Tryz.ntmps26 (by simp) rfl (fun R hR => ?_)
  refine V_sr T.mix (by kernel_rfl) (fun K1 hK1 => ?_)
  refine S_as rfl ?_
  refine S_nil (hK1 _ _ (V_keep [0, 1, 2] (by simp only [proj, lk, reduceIte, Nat.reduceEqDiff]; rfl) ?_)); clear hK1
  refine V_sr T.mix (by kernel_rfl) (fun K2 hK2 => ?_)
  refine S_mv rfl ?_
  refine S_call T.hb59 rfl ?_
  refine FC.mono (copyints_spec h ca cap xs hIc (by omega)) ?_
  rintro v' h1 ⟨xa, rfl, hIx, hE1, _, hbx⟩
  have w1 := w.new hE1
  have hl1 := hE1.1
  try clear u0 u1 u2 u3 u4 u5 u6 u7 u8 u9 huok
  obtain ⟨u0, u1, u2, u3, u4, u5, u6, u7, u8, u9, huok⟩ := uq (w1.dd)
  refine S_as rfl ?_
  refine S_nil (hK2 _ _ (V_keep [0, 1, 2, 7] (by simp only [proj, lk, reduceIte, Nat.reduceEqDiff]; rfl) ?_)); clear hK2
  refine V_sr T.mix (by kernel_rfl) (fun K3 hK3 => ?_)
  refine S_mv rfl ?_
  refine S_call T.hb59 rfl ?_
  refine FC.mono (copyints_spec h1 ca cap xs (hIc.ext hE1 (fun _ _ f => f)) (by omega)) ?_
  rintro v' h2 ⟨ya, rfl, hIy, hE2, _, hby⟩
  have w2 := w1.new hE2
  have hl2 := hE2.1
  replace hIx := hIx.ext hE2 (fun _ _ f => f)
  try clear u0 u1 u2 u3 u4 u5 u6 u7 u8 u9 huok
  obtain ⟨u0, u1, u2, u3, u4, u5, u6, u7, u8, u9, huok⟩ := uq (w2.dd)
  refine S_as rfl ?_
  refine S_nil (hK3 _ _ (V_keep [0, 2, 7, 8] (by simp only [proj, lk, reduceIte, Nat.reduceEqDiff]; rfl) ?_)); clear hK3
  refine V_sr T.mix (by kernel_rfl) (fun K4 hK4 => ?_)
  refine S_mv rfl ?_
  refine S_nc rfl ?_
  first | refine S_fa0 T.f42_0 rfl ?_ | refine S_fa T.f42_0 rfl ?_
  first | refine S_fa0 T.f31_1 rfl ?_ | refine S_fa T.f31_1 rfl ?_
  refine S_ldK T.ag29 rfl (fun K' hK' => ?_)
  simp (disch := omega) only [u0, u1, u2, u3, u4, u5, u6, u7, u8, u9, oP_some, Nat.add_zero]
  refine hK' _ ?_; clear hK' K'
  refine S_mv rfl ?_
  refine S_mv rfl ?_
  refine S_call T.hb60 rfl ?_
  refine FC.mono (wadd_spec h2 A.C A.X u.W u.cl u.s u.p w2.wx xa _ xs hIx (by omega) (fun b e z => by have h9 := hbx b e; omega) le) ?_
  rintro v' h3 ⟨W3, rfl, wx3, hv3, hd3, hE3⟩
  have mv3 := w2.mv.ext hE3 (nC _ (by rw [w.tM]; omega)) (fun b hb => nC b (by rw [w.tG b hb]; omega)) (fun b hb => nC b (by rw [w.tF b hb]; omega))
  have hD3 := w2.dd.ext hE3 (nC _ (by rw [w.tU]; omega))
  replace hIy := hIy.ext hE3 (fun b e z => by have h9 := hby b e; omega)
  have hl3 := hE3.1
  try clear u0 u1 u2 u3 u4 u5 u6 u7 u8 u9 huok
  obtain ⟨u0, u1, u2, u3, u4, u5, u6, u7, u8, u9, huok⟩ := uq (hD3)
  refine S_mv rfl ?_
  refine S_ex rfl rfl ?_
  refine S_ex rfl rfl ?_
  refine S_as rfl ?_
  refine S_as rfl ?_
  refine S_nil (hK4 _ _ (V_keep [0, 2, 8, 9, 10] (by simp only [proj, lk, reduceIte, Nat.reduceEqDiff]; rfl) ?_)); clear hK4
  refine V_sr T.mix (by kernel_rfl) (fun K5 hK5 => ?_)
  refine S_mv rfl ?_
  refine S_nc rfl ?_
  first | refine S_fa0 T.f42_2 rfl ?_ | refine S_fa T.f42_2 rfl ?_
  first | refine S_fa0 T.f38_1 rfl ?_ | refine S_fa T.f38_1 rfl ?_
  refine S_ldK T.ag35 rfl (fun K' hK' => ?_)
  simp (disch := omega) only [u0, u1, u2, u3, u4, u5, u6, u7, u8, u9, oP_some, Nat.add_zero]
  refine hK' _ ?_; clear hK' K'
  refine S_mv rfl ?_
  refine S_mv rfl ?_
  refine S_call T.hb61 rfl ?_
  refine FC.mono (mwadd_spec h3 A.M A.Y u.mm u.cl u.G u.F u.s mv3 ya _ xs hIy (by omega) (fun b e z => by have h9 := hby b e; omega) le) ?_
  rintro v' h4 ⟨mz, G4, rfl, mv4, hsn, hdu1, hdu2, hG1, hG2, hE4⟩
  have hD4 := hD3.ext hE4 (nM _ (by rw [w.tU]; omega))
  have wx4 := wx3.ext hE4 (nM _ (by rw [w.tC]; omega)) (nM _ (by rw [w.tX]; omega))
  refine S_mv rfl ?_
  refine S_ex rfl rfl ?_
  refine S_ex rfl rfl ?_
  refine S_as rfl ?_
  refine S_as rfl ?_
  refine S_nil (hK5 _ _ (V_keep [9, 10, 11, 12] (by simp only [proj, lk, reduceIte, Nat.reduceEqDiff]; rfl) ?_)); clear hK5
  refine V_sr T.mix (by kernel_rfl) (fun K6 hK6 => ?_)
  refine S_mv rfl ?_
  refine S_mv rfl ?_
  refine S_bin rfl rfl rfl ?_
  refine S_mv rfl ?_
  refine S_dec (fun g166 => ?_) (fun g166 => ?_)
  · skip
    refine S_gt rfl ?_
    refine S_mv rfl ?_
    refine S_gt rfl ?_
    refine S_mv rfl ?_
    refine S_gt rfl ?_
    refine S_bin rfl rfl rfl ?_
    refine S_pt rfl rfl ?_
    refine S_as rfl ?_
    refine S_nil (hK6 _ _ (V_keep [6] (by simp only [proj, lk, reduceIte, Nat.reduceEqDiff]; rfl) ?_)); clear hK6
    refine V_ret ?_
    refine hR _ _ (ret1 rfl rfl ?_)
    have hEt : Ext (fun b => b = A.C ∨ b = A.M) h2 h4 := (hE3.mono fun _ e => .inl e).trans (hE4.mono fun _ e => .inr e)
    have hSt : ∀ b, b = A.C ∨ b = A.M → tg b ≠ 0 ∧ tg b ≤ 6 := fun b e => by rcases e with e | e; (rw [e, w.tC]; omega); (rw [e, w.tM]; omega)
    obtain ⟨tg4, w4, ht4⟩ := w2.turn (la := u.last) (lo := u.loose) (nb' := nb) hEt (fun b e => (hSt b e).2) hD4 wx4 mv4 (fun b e => .inl e) (fun b e => by rcases hG2 b e with q | q; (exact .inl q); (exact .inr (by omega))) (fun i hi e => by rcases hd3 i e with q | q; (exact hdu1 i (w.du i hi q)); (exact hdu2 i q.1 q.2)) (by rw [hv3, hsn]; exact w.vs) (by rw [hsn]; exact w.sb) w.pp (fun e => sn_add (w.sd e) xs le)
    exact ⟨by simp, tg4, _, w4, (KP.quiet (hE1.trans hE2)).trans (KP.of hEt (fun b e => (hSt b e).1) ht4)⟩
  · skip
    exact absurd rfl g166
set_option maxHeartbeats 1600000 in
theorem lreset_spec (h : Heap) (tg : Nat → Nat) (A : UA) (u : US) (nb : Nat) (w : UI h tg A u nb) (hnb : nb ≤ 900000000000000) :
    FC Tryz.prog 35 (#[.pointer (some ⟨A.U, 0, none⟩)] : Array Value) h fun rv h' => rv = .tuple #[] ∧ ∃ (tg' : Nat → Nat) (u' : US), UI h' tg' A u' (nb + 12) ∧ KP tg tg' h h' := by
  try clear u0 u1 u2 u3 u4 u5 u6 u7 u8 u9 huok
  obtain ⟨u0, u1, u2, u3, u4, u5, u6, u7, u8, u9, huok⟩ := uq (w.dd)
  have nXU : A.U ≠ A.X := fun e => by have h8 := w.tU; rw [e, w.tX] at h8; omega
  have hok := w.wx.ok
  have hl12 := hok.len
  have hcc := hok.c
  have hpp := w.pp
  have hhb := w.hb
  have hlt := w.lt1
  have nC : ∀ b, tg b ≠ 2 → b ≠ A.C := fun b e z => e (by rw [z]; exact w.tC)
  have nM : ∀ b, tg b ≠ 4 → b ≠ A.M := fun b e z => e (by rw [z]; exact w.tM)
  have nX : ∀ b, tg b ≠ 3 → b ≠ A.X := fun b e z => e (by rw [z]; exact w.tX)
  have nF : ∀ b, tg b ≠ 5 → ¬ u.F b := fun b e z => e (w.tF b z)
  have nU : ∀ b, tg b ≠ 1 → b ≠ A.U := fun b e z => e (by rw [z]; exact w.tU)
  refine FC_of [(0, .pointer (some ⟨A.U, 0, none⟩))] Tryz.func35 rfl Tryz.ntmps35 (by simp) rfl (fun R hR => ?_)
  refine V_sr T.mix (by kernel_rfl) (fun K1 hK1 => ?_)
  refine S_mv rfl ?_
  refine S_nc rfl ?_
  first | refine S_fa0 T.f42_0 rfl ?_ | refine S_fa T.f42_0 rfl ?_
  first | refine S_fa0 T.f31_0 rfl ?_ | refine S_fa T.f31_0 rfl ?_
  refine S_ldK T.ag28 rfl (fun K' hK' => ?_)
  simp (disch := omega) only [u0, u1, u2, u3, u4, u5, u6, u7, u8, u9, oP_some, Nat.add_zero]
  refine hK' _ ?_; clear hK' K'
  refine S_call T.hb78 rfl ?_
  refine FC.mono (reset_spec h A.X u.s u.p w.wx.t (by omega)) ?_
  rintro v' h1 ⟨rfl, hr1, hE1⟩
  have hwb1 := w.wx.b.ext hE1 (nX _ (by rw [w.tC]; omega))
  have mv1 := w.mv.ext hE1 (nX _ (by rw [w.tM]; omega)) (fun b hb => nX b (by rw [w.tG b hb]; omega)) (fun b hb => nX b (by rw [w.tF b hb]; omega))
  have hD1 := w.dd.ext hE1 (nX _ (by rw [w.tU]; omega))
  have hl1 := hE1.1
  try clear u0 u1 u2 u3 u4 u5 u6 u7 u8 u9 huok
  obtain ⟨u0, u1, u2, u3, u4, u5, u6, u7, u8, u9, huok⟩ := uq (hD1)
  refine S_nil (hK1 _ _ (V_keep [0] (by simp only [proj, lk, reduceIte, Nat.reduceEqDiff]; rfl) ?_)); clear hK1
  refine V_sr T.mix (by kernel_rfl) (fun K2 hK2 => ?_)
  refine S_mv rfl ?_
  refine S_nc rfl ?_
  first | refine S_fa0 T.f42_0 rfl ?_ | refine S_fa T.f42_0 rfl ?_
  first | refine S_fa0 T.f31_1 rfl ?_ | refine S_fa T.f31_1 rfl ?_
  refine S_ldK T.ag29 rfl (fun K' hK' => ?_)
  simp (disch := omega) only [u0, u1, u2, u3, u4, u5, u6, u7, u8, u9, oP_some, Nat.add_zero]
  refine hK' _ ?_; clear hK' K'
  refine S_call T.hb79 rfl ?_
  refine FC.mono (wreset_spec h1 A.C A.X u.W hwb1) ?_
  rintro v' h2 ⟨rfl, ⟨W2, hB2, z1, z2, z3, z4, z5, z6⟩, hE2⟩
  have mv2 := mv1.ext hE2 (nC _ (by rw [w.tM]; omega)) (fun b hb => nC b (by rw [w.tG b hb]; omega)) (fun b hb => nC b (by rw [w.tF b hb]; omega))
  have hD2 := hD1.ext hE2 (nC _ (by rw [w.tU]; omega))
  have hr2 := hr1.ext hE2 (nC _ (by rw [w.tX]; omega))
  have hl2 := hE2.1
  try clear u0 u1 u2 u3 u4 u5 u6 u7 u8 u9 huok
  obtain ⟨u0, u1, u2, u3, u4, u5, u6, u7, u8, u9, huok⟩ := uq (hD2)
  refine S_nil (hK2 _ _ (V_keep [0] (by simp only [proj, lk, reduceIte, Nat.reduceEqDiff]; rfl) ?_)); clear hK2
  refine V_sr T.mix (by kernel_rfl) (fun K3 hK3 => ?_)
  refine S_mv rfl ?_
  refine S_nc rfl ?_
  first | refine S_fa0 T.f42_2 rfl ?_ | refine S_fa T.f42_2 rfl ?_
  first | refine S_fa0 T.f38_0 rfl ?_ | refine S_fa T.f38_0 rfl ?_
  refine S_ldK T.ag34 rfl (fun K' hK' => ?_)
  simp (disch := omega) only [u0, u1, u2, u3, u4, u5, u6, u7, u8, u9, oP_some, Nat.add_zero]
  refine hK' _ ?_; clear hK' K'
  refine S_call T.hb80 rfl ?_
  refine FC.mono (mreset_spec h2 A.Y u.F u.s mv2.t) ?_
  rintro v' h3 ⟨rfl, F3, hm3, hx3⟩
  have mv3 := mv2.trl hm3 hx3
  have hD3 := hD2.ext hx3.1 (nF _ (by rw [w.tU]; omega))
  have hr3 := hr2.ext hx3.1 (nF _ (by rw [w.tX]; omega))
  have hB3 := hB2.ext hx3.1 (nF _ (by rw [w.tC]; omega))
  have hl3 := hx3.1.1
  try clear u0 u1 u2 u3 u4 u5 u6 u7 u8 u9 huok
  obtain ⟨u0, u1, u2, u3, u4, u5, u6, u7, u8, u9, huok⟩ := uq (hD3)
  refine S_nil (hK3 _ _ (V_keep [0] (by simp only [proj, lk, reduceIte, Nat.reduceEqDiff]; rfl) ?_)); clear hK3
  refine V_sr T.mix (by kernel_rfl) (fun K4 hK4 => ?_)
  refine S_mv rfl ?_
  refine S_nc rfl ?_
  first | refine S_fa0 T.f42_2 rfl ?_ | refine S_fa T.f42_2 rfl ?_
  first | refine S_fa0 T.f38_1 rfl ?_ | refine S_fa T.f38_1 rfl ?_
  refine S_ldK T.ag35 rfl (fun K' hK' => ?_)
  simp (disch := omega) only [u0, u1, u2, u3, u4, u5, u6, u7, u8, u9, oP_some, Nat.add_zero]
  refine hK' _ ?_; clear hK' K'
  refine S_call T.hb81 rfl ?_
  refine FC.mono (mwreset_spec h3 A.M A.Y u.mm u.cl u.G F3 ⟨[], 0, 0⟩ mv3) ?_
  rintro v' h4 ⟨rfl, ⟨mz, mv4, hsn⟩, hE4⟩
  have hD4 := hD3.ext hE4 (nM _ (by rw [w.tU]; omega))
  have hr4 := hr3.ext hE4 (nM _ (by rw [w.tX]; omega))
  have hB4 := hB3.ext hE4 (nM _ (by rw [w.tC]; omega))
  have hl4 := hE4.1
  try clear u0 u1 u2 u3 u4 u5 u6 u7 u8 u9 huok
  obtain ⟨u0, u1, u2, u3, u4, u5, u6, u7, u8, u9, huok⟩ := uq (hD4)
  refine S_nil (hK4 _ _ (V_keep [0] (by simp only [proj, lk, reduceIte, Nat.reduceEqDiff]; rfl) ?_)); clear hK4
  refine V_sr T.mix (by kernel_rfl) (fun K5 hK5 => ?_)
  refine S_mv rfl ?_
  refine S_nc rfl ?_
  first | refine S_fa0 T.f42_5 rfl ?_ | refine S_fa T.f42_5 rfl ?_
  refine S_st T.sz4 rfl rfl rfl rfl (by simp (disch := omega) only [huok]) ?_
  generalize hh : putH _ _ _ = h5
  have hD5 : B h5 A.U (ucs A { u with loose := false }) 42 := by rw [← hh]; exact (hD4.put 8 _).cong (by simp [ucs])
  have hE5 : Ext (fun b => b = A.U) h4 h5 := by rw [← hh]; exact Ext.put _ _ rfl
  clear hh
  try clear u0 u1 u2 u3 u4 u5 u6 u7 u8 u9 huok
  obtain ⟨u0, u1, u2, u3, u4, u5, u6, u7, u8, u9, huok⟩ := uq (hD5)
  refine S_nil (hK5 _ _ (V_keep [0] (by simp only [proj, lk, reduceIte, Nat.reduceEqDiff]; rfl) ?_)); clear hK5
  refine V_reg T.mix (by kernel_rfl) ?_
  refine S_mv rfl ?_
  refine S_nc rfl ?_
  first | refine S_fa0 T.f42_4 rfl ?_ | refine S_fa T.f42_4 rfl ?_
  refine S_st T.sz3 rfl rfl rfl rfl (by simp (disch := omega) only [huok]) ?_
  generalize hh : putH _ _ _ = h6
  have hD6 : B h6 A.U (ucs A { u with last := -1, loose := false }) 42 := by rw [← hh]; exact (hD5.put 7 _).cong (by simp [ucs])
  have hE6 : Ext (fun b => b = A.U) h4 h6 := by rw [← hh]; exact hE5.trans (Ext.put _ _ rfl)
  clear hh
  refine S_nilk [] (by simp only [proj, lk, reduceIte, Nat.reduceEqDiff]; rfl) ?_
  -- end
  refine hR _ _ (ret0 rfl ?_)
  have wx6 : WX h6 A.C A.X W2 (fun _ => none) ⟨[], 0, 0⟩ (u.p + u.s.L.length) := ⟨hB4.ext hE6 (nU _ (by rw [w.tC]; omega)), wi_zero z1 z2 z3 z5 z6 _ _, hr4.ext hE6 (nU _ (by rw [w.tX]; omega)), w.wx.ne⟩
  have hF3 : ∀ b, F3 b → u.F b ∨ h.size ≤ b := fun b e => by rcases hx3.2 b e with q | q; (exact .inl q); (exact .inr (by omega))
  have mv6 := mv4.ext hE6 (nU _ (by rw [w.tM]; omega)) (fun b hb => nU b (by rw [w.tG b hb]; omega)) (fun b hb => by rcases hF3 b hb with q | q; (exact nU b (by rw [w.tF b q]; omega)); (exact fun z => by omega))
  have hEt : Ext (fun b => b = A.X ∨ b = A.C ∨ u.F b ∨ b = A.M ∨ b = A.U) h h6 := ((((hE1.mono fun _ e => .inl e).trans (hE2.mono fun _ e => .inr (.inl e))).trans (hx3.1.mono fun _ e => .inr (.inr (.inl e)))).trans (hE4.mono fun _ e => .inr (.inr (.inr (.inl e))))).trans (hE6.mono fun _ e => .inr (.inr (.inr (.inr e))))
  have hSt : ∀ b, b = A.X ∨ b = A.C ∨ u.F b ∨ b = A.M ∨ b = A.U → tg b ≠ 0 ∧ tg b ≤ 6 := fun b e => by
    rcases e with e | e | e | e | e
    · rw [e, w.tX]; omega
    · rw [e, w.tC]; omega
    · rw [w.tF b e]; omega
    · rw [e, w.tM]; omega
    · rw [e, w.tU]; omega
  obtain ⟨tg6, w6, ht6⟩ := w.turn (la := -1) (lo := false) (nb' := nb + 12) hEt (fun b e => (hSt b e).2) hD6 wx6 mv6 hF3 (fun b e => .inl e) (fun i hi e => by unfold dueW at e; rw [z2, z3] at e; simp at e) (by rw [z4]; exact Nat.zero_le _) (by rw [hsn]; omega) (by omega) (fun _ => Sn.nil _)
  exact ⟨rfl, tg6, _, w6, KP.of hEt (fun b e => (hSt b e).1) ht6⟩
set_option maxHeartbeats 6400000 in
theorem propagated_spec (h : Heap) (tg : Nat → Nat) (A : UA) (u : US) (nb : Nat) (w : UI h tg A u nb) :
    FC Tryz.prog 28 (#[.pointer (some ⟨A.U, 0, none⟩)] : Array Value) h fun rv h' => rv = .bool true ∧ ∃ (tg' : Nat → Nat) (u' : US), UI h' tg' A u' (nb + 12) ∧ KP tg tg' h h' := by
  try clear u0 u1 u2 u3 u4 u5 u6 u7 u8 u9 huok
  obtain ⟨u0, u1, u2, u3, u4, u5, u6, u7, u8, u9, huok⟩ := uq (w.dd)
  have nXU : A.U ≠ A.X := fun e => by have h8 := w.tU; rw [e, w.tX] at h8; omega
  have hok := w.wx.ok
  have hl12 := hok.len
  have hcc := hok.c
  have hpp := w.pp
  have hhb := w.hb
  have hlt := w.lt1
  have hll := lits_len u.s.L
  have nUC : A.U ≠ A.C := fun e => by have h8 := w.tU; rw [e, w.tC] at h8; omega
  have nUX : A.U ≠ A.X := fun e => by have h8 := w.tU; rw [e, w.tX] at h8; omega
  have nMC : A.M ≠ A.C := fun e => by have h8 := w.tM; rw [e, w.tC] at h8; omega
  have nMX : A.M ≠ A.X := fun e => by have h8 := w.tM; rw [e, w.tX] at h8; omega
  have nMU : A.M ≠ A.U := fun e => by have h8 := w.tM; rw [e, w.tU] at h8; omega
  have nF : ∀ b, u.F b → b ≠ A.U ∧ b ≠ A.C ∧ b ≠ A.X ∧ b ≠ A.M := fun b e => by have h8 := w.tF b e; refine ⟨fun z => ?_, fun z => ?_, fun z => ?_, fun z => ?_⟩; (rw [z, w.tU] at h8; omega); (rw [z, w.tC] at h8; omega); (rw [z, w.tX] at h8; omega); (rw [z, w.tM] at h8; omega)
  have nG : ∀ b, u.G b → b ≠ A.U ∧ b ≠ A.C ∧ b ≠ A.X ∧ b ≠ A.M := fun b e => by have h8 := w.tG b e; refine ⟨fun z => ?_, fun z => ?_, fun z => ?_, fun z => ?_⟩; (rw [z, w.tU] at h8; omega); (rw [z, w.tC] at h8; omega); (rw [z, w.tX] at h8; omega); (rw [z, w.tM] at h8; omega)
  have hFl : ∀ b, u.F b → b < h.size := fun b e => w.mv.t.lt e
  have hGl : ∀ b, u.G b → b < h.size := fun b e => w.mv.lt b e
  refine FC_of [(0, .pointer (some ⟨A.U, 0, none⟩))] Tryz.func28 rfl Tryz.ntmps28 (by simp) rfl (fun R hR => ?_)
  refine V_sr T.mix (by kernel_rfl) (fun K1 hK1 => ?_)
  refine S_as rfl ?_
  refine S_nil (hK1 _ _ (V_keep [0] (by simp only [proj, lk, reduceIte, Nat.reduceEqDiff]; rfl) ?_)); clear hK1
  refine V_sr T.mix (by kernel_rfl) (fun K2 hK2 => ?_)
  refine S_mv rfl ?_
  refine S_nc rfl ?_
  first | refine S_fa0 T.f42_0 rfl ?_ | refine S_fa T.f42_0 rfl ?_
  first | refine S_fa0 T.f31_0 rfl ?_ | refine S_fa T.f31_0 rfl ?_
  refine S_ldK T.ag28 rfl (fun K' hK' => ?_)
  simp (disch := omega) only [u0, u1, u2, u3, u4, u5, u6, u7, u8, u9, oP_some, Nat.add_zero]
  refine hK' _ ?_; clear hK' K'
  refine S_call T.hb40 rfl ?_
  refine FC.mono (len_spec h A.X u.s u.p w.wx.t) ?_
  rintro v' h' ⟨rfl, rfl⟩
  refine S_as rfl ?_
  refine S_nil (hK2 _ _ (V_keep [0, 3] (by simp only [proj, lk, reduceIte, Nat.reduceEqDiff]; rfl) ?_)); clear hK2
  refine V_sr T.mix (by kernel_rfl) (fun K3 hK3 => ?_)
  refine S_mv rfl ?_
  refine S_nc rfl ?_
  first | refine S_fa0 T.f42_0 rfl ?_ | refine S_fa T.f42_0 rfl ?_
  first | refine S_fa0 T.f31_0 rfl ?_ | refine S_fa T.f31_0 rfl ?_
  refine S_ldK T.ag28 rfl (fun K' hK' => ?_)
  simp (disch := omega) only [u0, u1, u2, u3, u4, u5, u6, u7, u8, u9, oP_some, Nat.add_zero]
  refine hK' _ ?_; clear hK' K'
  refine S_call T.hb41 rfl ?_
  refine FC.mono (pending_spec h A.X u.s u.p w.wx.t) ?_
  rintro v' h' ⟨rfl, rfl⟩
  refine S_as rfl ?_
  refine S_nil (hK3 _ _ (V_keep [0, 3, 4] (by simp only [proj, lk, reduceIte, Nat.reduceEqDiff]; rfl) ?_)); clear hK3
  refine V_sr T.mix (by kernel_rfl) (fun K4 hK4 => ?_)
  refine S_mv rfl ?_
  refine S_nc rfl ?_
  first | refine S_fa0 T.f42_0 rfl ?_ | refine S_fa T.f42_0 rfl ?_
  first | refine S_fa0 T.f31_1 rfl ?_ | refine S_fa T.f31_1 rfl ?_
  refine S_ldK T.ag29 rfl (fun K' hK' => ?_)
  simp (disch := omega) only [u0, u1, u2, u3, u4, u5, u6, u7, u8, u9, oP_some, Nat.add_zero]
  refine hK' _ ?_; clear hK' K'
  refine S_call T.hb64 rfl ?_
  refine FC.mono (propagate_spec h A.C A.X u.W u.cl u.s u.p w.wx) ?_
  rintro v' h1 ⟨W2, s2, r, rfl, wx1, hpr, hcge, hvis, hres, hE1⟩
  have mv1 := w.mv.ext hE1 (fun e => by rcases e with e | e; (exact nMC e); (exact nMX e)) (fun b hb e => by rcases e with e | e; (exact (nG b hb).2.1 e); (exact (nG b hb).2.2.1 e)) (fun b hb e => by rcases e with e | e; (exact (nF b hb).2.1 e); (exact (nF b hb).2.2.1 e))
  have hD1 := w.dd.ext hE1 (fun e => by rcases e with e | e; (exact nUC e); (exact nUX e))
  have hl1 := hE1.1
  have hok2 := wx1.ok
  have hl12b := hok2.len
  have hcc2 := hok2.c
  have hch := hpr.ch
  have hpk := hpr.k
  have hcl1 := hch.1
  have hsc2 : s2.L.length - (s2.L.length - s2.c) = s2.c := by omega
  try clear u0 u1 u2 u3 u4 u5 u6 u7 u8 u9 huok
  obtain ⟨u0, u1, u2, u3, u4, u5, u6, u7, u8, u9, huok⟩ := uq (hD1)
  refine S_as rfl ?_
  refine S_nil (hK4 _ _ (V_keep [0, 3, 4, 5] (by simp only [proj, lk, reduceIte, Nat.reduceEqDiff]; rfl) ?_)); clear hK4
  refine V_sr T.mix (by kernel_rfl) (fun K5 hK5 => ?_)
  refine S_mv rfl ?_
  refine S_mv rfl ?_
  refine S_nc rfl ?_
  first | refine S_fa0 T.f42_4 rfl ?_ | refine S_fa T.f42_4 rfl ?_
  refine S_st T.sz3 rfl rfl rfl rfl (by simp (disch := omega) only [huok]) ?_
  generalize hh : putH _ _ _ = h2
  have hD2 : B h2 A.U (ucs A { u with last := r, loose := u.loose }) 42 := by rw [← hh]; exact (hD1.put 7 _).cong (by simp [ucs])
  have hE2 : Ext (fun b => b = A.U) h1 h2 := by rw [← hh]; exact Ext.put _ _ rfl
  clear hh
  have wx2 := wx1.ext hE2 (fun e => nUC e.symm) (fun e => nUX e.symm)
  have mv2 := mv1.ext hE2 (fun e => nMU e) (fun b hb e => (nG b hb).1 e) (fun b hb e => (nF b hb).1 e)
  have hl2 := hE2.1
  try clear u0 u1 u2 u3 u4 u5 u6 u7 u8 u9 huok
  obtain ⟨u0, u1, u2, u3, u4, u5, u6, u7, u8, u9, huok⟩ := uq (hD2)
  refine S_nil (hK5 _ _ (V_keep [0, 3, 4, 5] (by simp only [proj, lk, reduceIte, Nat.reduceEqDiff]; rfl) ?_)); clear hK5
  refine V_sr T.mix (by kernel_rfl) (fun K6 hK6 => ?_)
  refine S_mv rfl ?_
  refine S_nc rfl ?_
  first | refine S_fa0 T.f42_0 rfl ?_ | refine S_fa T.f42_0 rfl ?_
  first | refine S_fa0 T.f31_0 rfl ?_ | refine S_fa T.f31_0 rfl ?_
  refine S_ldK T.ag28 rfl (fun K' hK' => ?_)
  simp (disch := omega) only [u0, u1, u2, u3, u4, u5, u6, u7, u8, u9, oP_some, Nat.add_zero]
  refine hK' _ ?_; clear hK' K'
  refine S_call T.hb40 rfl ?_
  refine FC.mono (len_spec h2 A.X s2 u.p wx2.t) ?_
  rintro v' h' ⟨rfl, rfl⟩
  refine S_as rfl ?_
  refine S_nil (hK6 _ _ (V_keep [0, 3, 4, 5, 6] (by simp only [proj, lk, reduceIte, Nat.reduceEqDiff]; rfl) ?_)); clear hK6
  refine V_seq (fun K7 hK7 => ?_)
  refine V_sr T.mix (by kernel_rfl) (fun K8 hK8 => ?_)
  refine S_mv rfl ?_
  refine S_as rfl ?_
  refine S_nil (hK8 _ _ (V_keep [0, 3, 4, 5, 6, 7] (by simp only [proj, lk, reduceIte, Nat.reduceEqDiff]; rfl) ?_)); clear hK8
  refine V_block ?_
  refine V_loop (fun m l h' => ∃ (i : Nat) (hk : Heap) (Fk : Nat → Prop), (u.s.L.length ≤ i) ∧ (i ≤ s2.L.length) ∧ (MV hk A.M A.Y u.mm u.cl u.G Fk ⟨s2.L.take i, u.s.k, u.s.c⟩) ∧ (∀ b, Fk b → u.F b ∨ h2.size ≤ b) ∧ (Ext (fun b => u.F b ∨ h2.size ≤ b) h2 hk) ∧ m = s2.L.length - i ∧ l = [(0, .pointer (some ⟨A.U, 0, none⟩)), (3, .int .i64 (u.s.L.length : Int)), (4, .int .i64 ((u.s.L.length : Int) - u.s.c)), (5, .int .i64 r), (6, .int .i64 (s2.L.length : Int)), (7, .int .i64 (i : Int))] ∧ hk = h') _ ⟨u.s.L.length, h2, u.F, Nat.le_refl _, hcl1, by rw [hch.2.1]; exact mv2, fun b e => .inl e, Ext.refl _ _, rfl, rfl, rfl⟩ ?_
  rintro m l h' ⟨i, hk, Fk, hi1, hi2, mvk, hFk, hEk, rfl, rfl, rfl⟩ K9 hK9
  have nXF : ¬ (u.F A.X ∨ h2.size ≤ A.X) := fun e => by rcases e with e | e; (exact (nF _ e).2.2.1 rfl); (omega)
  have hsk := hEk.1
  try clear u0 u1 u2 u3 u4 u5 u6 u7 u8 u9 huok
  obtain ⟨u0, u1, u2, u3, u4, u5, u6, u7, u8, u9, huok⟩ := uq (hD2.ext hEk (fun e => by rcases e with e | e; (exact (nF _ e).1 rfl); (omega)))
  refine V_seq (fun K10 hK10 => ?_)
  refine V_sr T.mix (by kernel_rfl) (fun K11 hK11 => ?_)
  refine S_cut (K' := fun l h' => ∃ b : Bool, (b = true ↔ (i < s2.L.length)) ∧ l = [(0, .pointer (some ⟨A.U, 0, none⟩)), (3, .int .i64 (u.s.L.length : Int)), (4, .int .i64 ((u.s.L.length : Int) - u.s.c)), (5, .int .i64 r), (6, .int .i64 (s2.L.length : Int)), (7, .int .i64 (i : Int)), (48, .bool b)] ∧ hk = h') ?_ ?_
  · skip
    refine S_mv rfl ?_
    refine S_mv rfl ?_
    refine S_bin rfl rfl rfl ?_
    refine S_mv rfl ?_
    refine S_dec (fun g215 => ?_) (fun g215 => ?_)
    · skip
      refine S_gt rfl ?_
      refine S_mv rfl ?_
      refine S_gt rfl ?_
      refine S_bin rfl rfl rfl ?_
      refine S_pt rfl rfl ?_
      exact S_nilk [0, 3, 4, 5, 6, 7, 48] (by simp only [proj, lk, reduceIte, Nat.reduceEqDiff]; rfl) ⟨_, (by first | (simp [*]; omega) | (simp; omega)), rfl, rfl⟩
    · skip
      refine S_gf rfl ?_
      refine S_gf rfl ?_
      refine S_pf rfl rfl ?_
      exact S_nilk [0, 3, 4, 5, 6, 7, 48] (by simp only [proj, lk, reduceIte, Nat.reduceEqDiff]; rfl) ⟨_, (by first | (simp [*]; omega) | (simp; omega)), rfl, rfl⟩
  rintro l h' ⟨b, hb215, rfl, rfl⟩
  refine hK11 _ _ ?_; clear hK11
  refine V_condb rfl (fun c215 => ?_) (fun c215 => ?_)
  · replace c215 := hb215.1 c215
    obtain ⟨x, hx⟩ : ∃ x, s2.L[i]? = some x := ⟨_, List.getElem?_eq_getElem (by omega)⟩
    obtain ⟨x0, x1, x2, x3, _⟩ := lt_at hok2 hx
    obtain ⟨xk, id, cc, hid, xr, hcl, xm, xn1, xn2, xo⟩ := hch.2.2 i x hi1 hx
    have hxg : gd x.lit := gd_lits hok2 (mem_idx.2 ⟨i, lits_at hx⟩)
    have hxg2 := hxg
    unfold gd at hxg2
    refine V_skipk [0, 3, 4, 5, 6, 7] (by simp only [proj, lk, reduceIte, Nat.reduceEqDiff]; rfl) ?_
    refine hK10 _ _ ?_; clear hK10
    refine V_seq (fun K13 hK13 => ?_)
    refine V_block ?_
    refine V_sr T.mix (by kernel_rfl) (fun K14 hK14 => ?_)
    refine S_mv rfl ?_
    refine S_nc rfl ?_
    first | refine S_fa0 T.f42_0 rfl ?_ | refine S_fa T.f42_0 rfl ?_
    first | refine S_fa0 T.f31_0 rfl ?_ | refine S_fa T.f31_0 rfl ?_
    refine S_ldK T.ag28 rfl (fun K' hK' => ?_)
    simp (disch := omega) only [u0, u1, u2, u3, u4, u5, u6, u7, u8, u9, oP_some, Nat.add_zero]
    refine hK' _ ?_; clear hK' K'
    refine S_mv rfl ?_
    refine S_call T.hb46 rfl ?_
    refine FC.mono (at_spec hk A.X s2 u.p (wx2.t.ext hEk (fun e => nXF e)) (i : Int)) ?_
    rintro v' h' ⟨rfl, rfl⟩
    rw [x1]
    refine S_as rfl ?_
    refine S_nil (hK14 _ _ (V_keep [0, 3, 4, 5, 6, 7, 8] (by simp only [proj, lk, reduceIte, Nat.reduceEqDiff]; rfl) ?_)); clear hK14
    refine V_sr T.mix (by kernel_rfl) (fun K15 hK15 => ?_)
    refine S_mv rfl ?_
    refine S_call T.hb65 rfl ?_
    refine FC.mono (var_spec _ (x.lit) (by omega) (by omega)) ?_
    rintro v' h' ⟨rfl, rfl⟩
    refine S_as rfl ?_
    refine S_nil (hK15 _ _ (V_keep [0, 3, 4, 5, 6, 7, 8, 9] (by simp only [proj, lk, reduceIte, Nat.reduceEqDiff]; rfl) ?_)); clear hK15
    refine V_sr T.mix (by kernel_rfl) (fun K16 hK16 => ?_)
    refine S_mv rfl ?_
    refine S_nc rfl ?_
    first | refine S_fa0 T.f42_0 rfl ?_ | refine S_fa T.f42_0 rfl ?_
    first | refine S_fa0 T.f31_0 rfl ?_ | refine S_fa T.f31_0 rfl ?_
    refine S_ldK T.ag28 rfl (fun K' hK' => ?_)
    simp (disch := omega) only [u0, u1, u2, u3, u4, u5, u6, u7, u8, u9, oP_some, Nat.add_zero]
    refine hK' _ ?_; clear hK' K'
    refine S_mv rfl ?_
    refine S_call T.hb44 rfl ?_
    refine FC.mono (reason_spec hk A.X s2 u.p (wx2.t.ext hEk (fun e => nXF e)) (x.lit.natAbs : Int)) ?_
    rintro v' h' ⟨rfl, rfl⟩
    rw [x3, xr]
    refine S_as rfl ?_
    refine S_nil (hK16 _ _ (V_keep [0, 3, 4, 5, 6, 7, 8, 10] (by simp only [proj, lk, reduceIte, Nat.reduceEqDiff]; rfl) ?_)); clear hK16
    refine V_sr T.mix (by kernel_rfl) (fun K17 hK17 => ?_)
    refine S_mv rfl ?_
    refine S_nc rfl ?_
    first | refine S_fa0 T.f42_2 rfl ?_ | refine S_fa T.f42_2 rfl ?_
    first | refine S_fa0 T.f38_1 rfl ?_ | refine S_fa T.f38_1 rfl ?_
    refine S_ldK T.ag35 rfl (fun K' hK' => ?_)
    simp (disch := omega) only [u0, u1, u2, u3, u4, u5, u6, u7, u8, u9, oP_some, Nat.add_zero]
    refine hK' _ ?_; clear hK' K'
    refine S_mv rfl ?_
    refine S_mv rfl ?_
    refine S_call T.hb66 rfl ?_
    refine FC.mono (imply_spec hk A.M A.Y u.mm u.cl u.G Fk _ mvk x.lit id hid cc hcl xm xn1 xn2 xo) ?_
    rintro v' h7 ⟨rfl, F7, mv7, hE7, hF7⟩
    have hx0 : valO (⟨s2.L.take i, u.s.k, u.s.c⟩ : TS) x.lit = 0 := by rcases vO3 (s := (⟨s2.L.take i, u.s.k, u.s.c⟩ : TS)) hxg with q | q | q; (exact absurd q.2 xn1); (exact absurd q.2 xn2); (exact q.1)
    have hao := asg_one mvk.t.ok hid hcl xm hxg hx0 xo
    have hs7 := asg_eq (cl := u.cl) (c := u.s.c) (L := s2.L.take i) rfl hx xk xr hao.1
    have hEk7 : Ext (fun b => u.F b ∨ h2.size ≤ b) h2 h7 := hEk.trans (hE7.mono fun b e => hFk b e)
    refine S_as rfl ?_
    refine S_nil (hK17 _ _ (V_keep [0, 3, 4, 5, 6, 7, 11] (by simp only [proj, lk, reduceIte, Nat.reduceEqDiff]; rfl) ?_)); clear hK17
    refine V_sr T.mix (by kernel_rfl) (fun K18 hK18 => ?_)
    refine S_mv rfl ?_
    refine S_bin rfl rfl rfl ?_
    refine S_nil (hK18 _ _ (V_keep [0, 3, 4, 5, 6, 7, 76] (by simp only [proj, lk, reduceIte, Nat.reduceEqDiff]; rfl) ?_)); clear hK18
    refine V_condp rfl (fun c220 => ?_) (fun c220 => ?_)
    · skip
      exfalso; exact c220 rfl
    · skip
      refine V_skipk [0, 3, 4, 5, 6, 7] (by simp only [proj, lk, reduceIte, Nat.reduceEqDiff]; rfl) ?_
      refine hK13 _ _ ?_; clear hK13
      refine V_reg T.mix (by kernel_rfl) ?_
      refine S_mv rfl ?_
      first | refine S_add rfl rfl (by omega) (by omega) ?_ | refine S_bin rfl rfl rfl ?_
      refine S_as rfl ?_
      refine S_nilk [0, 3, 4, 5, 6, 7] (by simp only [proj, lk, reduceIte, Nat.reduceEqDiff]; rfl) ?_
      exact hK9 _ _ ⟨_, by omega, i + 1, h7, F7, by omega, by omega, by rw [hs7] at mv7; exact mv7, fun b e => by rcases hF7 b e with q | q; (exact hFk b q); (exact .inr (by omega)), hEk7, rfl, rfl, rfl⟩
  · replace c215 : ¬ _ := fun hp => Bool.false_ne_true (c215.symm.trans (hb215.2 hp))
    have hi2e : i = s2.L.length := by omega
    have mv8 : MV hk A.M A.Y u.mm u.cl u.G Fk ⟨s2.L, u.s.k, u.s.c⟩ := by have h9 := mvk; rw [hi2e, List.take_length] at h9; exact h9
    have hres8 : (r = -1 ∧ s2.L.length - s2.c = 0 ∧ ∀ j, j < 52 → ∀ cc, u.cl j = some cc → Done (· ∈ lits s2.L) cc) ∨ ∃ id : Nat, id < 52 ∧ r = id ∧ AF u.cl id (lits s2.L) := by
      rcases hres with ⟨q1, q2, _, q4⟩ | ⟨id, q1, q2, q3, _⟩
      · exact .inl ⟨q1, by omega, q4⟩
      · exact .inr ⟨id, q1, q2, q3⟩
    refine V_exitk [0, 3, 4, 5] rfl (by simp only [proj, lk, reduceIte, Nat.reduceEqDiff]; rfl) ?_
    refine hK7 _ _ ?_; clear hK7
    refine V_sr T.mix (by kernel_rfl) (fun K19 hK19 => ?_)
    refine S_mv rfl ?_
    refine S_nc rfl ?_
    first | refine S_fa0 T.f42_0 rfl ?_ | refine S_fa T.f42_0 rfl ?_
    first | refine S_fa0 T.f31_0 rfl ?_ | refine S_fa T.f31_0 rfl ?_
    refine S_ldK T.ag28 rfl (fun K' hK' => ?_)
    simp (disch := omega) only [u0, u1, u2, u3, u4, u5, u6, u7, u8, u9, oP_some, Nat.add_zero]
    refine hK' _ ?_; clear hK' K'
    refine S_call T.hb41 rfl ?_
    refine FC.mono (pending_spec hk A.X s2 u.p (wx2.t.ext hEk (fun e => nXF e))) ?_
    rintro v' h' ⟨rfl, rfl⟩
    rw [show (s2.L.length : Int) - s2.c = ((s2.L.length - s2.c : Nat) : Int) by omega]
    refine S_as rfl ?_
    refine S_nil (hK19 _ _ (V_keep [0, 3, 4, 5, 12] (by simp only [proj, lk, reduceIte, Nat.reduceEqDiff]; rfl) ?_)); clear hK19
    refine V_sr T.mix (by kernel_rfl) (fun K20 hK20 => ?_)
    refine S_mv rfl ?_
    refine S_nc rfl ?_
    first | refine S_fa0 T.f42_2 rfl ?_ | refine S_fa T.f42_2 rfl ?_
    first | refine S_fa0 T.f38_1 rfl ?_ | refine S_fa T.f38_1 rfl ?_
    refine S_ldK T.ag35 rfl (fun K' hK' => ?_)
    simp (disch := omega) only [u0, u1, u2, u3, u4, u5, u6, u7, u8, u9, oP_some, Nat.add_zero]
    refine hK' _ ?_; clear hK' K'
    refine S_mv rfl ?_
    refine S_mv rfl ?_
    refine S_mv rfl ?_
    refine S_subN u.s.c rfl rfl (by omega) (by omega) ?_
    refine S_mv rfl ?_
    refine S_call T.hb67 rfl ?_
    refine FC.mono (ends_spec hk A.M A.Y u.mm u.cl u.G Fk ⟨s2.L, u.s.k, u.s.c⟩ mv8 r u.s.c (s2.L.length - s2.c) (by exact Nat.le_refl _) (by simp only []; omega) hres8) ?_
    rintro v' h9 ⟨rfl, mz, F9, mv9, hsn, hdue, hE9, hF9⟩
    have hs2 : (⟨s2.L, u.s.k, s2.L.length - (s2.L.length - s2.c)⟩ : TS) = s2 := by rw [← hpk, hsc2]
    rw [show (⟨(⟨s2.L, u.s.k, u.s.c⟩ : TS).L, (⟨s2.L, u.s.k, u.s.c⟩ : TS).k, (⟨s2.L, u.s.k, u.s.c⟩ : TS).L.length - (s2.L.length - s2.c)⟩ : TS) = s2 from hs2] at mv9
    simp only [] at hsn hdue
    refine S_as rfl ?_
    refine S_nil (hK20 _ _ (V_keep [2] (by simp only [proj, lk, reduceIte, Nat.reduceEqDiff]; rfl) ?_)); clear hK20
    refine V_ret ?_
    refine hR _ _ (ret1 rfl rfl ?_)
    have hEt : Ext (fun b => tg b ≠ 0 ∧ tg b ≤ 6) h h9 := by
      have e2 : Ext (fun b => tg b ≠ 0 ∧ tg b ≤ 6) h h2 := (hE1.mono fun b e => by rcases e with e | e; (rw [e, w.tC]; omega); (rw [e, w.tX]; omega)).trans (hE2.mono fun b e => by rw [e, w.tU]; omega)
      exact (e2.step hEk (fun b hb e => by rcases e with e | e; (rw [w.tF b e]; omega); (omega))).step hE9 (fun b hb e => by rcases e with e | e; (rw [e, w.tM]; omega); (rcases hFk b e with q | q; (rw [w.tF b q]; omega); (omega)))
    have hD9 := (hD2.ext hEk (fun e => by rcases e with e | e; (exact (nF _ e).1 rfl); (omega))).ext hE9 (fun e => by rcases e with e | e; (exact nMU e.symm); (rcases hFk _ e with q | q; (exact (nF _ q).1 rfl); (omega)))
    have wx9 := (wx2.ext hEk (fun e => by rcases e with e | e; (exact (nF _ e).2.1 rfl); (omega)) nXF).ext hE9 (fun e => by rcases e with e | e; (exact nMC e.symm); (rcases hFk _ e with q | q; (exact (nF _ q).2.1 rfl); (omega))) (fun e => by rcases e with e | e; (exact nMX e.symm); (rcases hFk _ e with q | q; (exact (nF _ q).2.2.1 rfl); (omega)))
    obtain ⟨tg2, w9, ht2⟩ := w.turn (la := r) (lo := u.loose) (nb' := nb + 12) hEt (fun b e => e.2) hD9 wx9 mv9 (fun b e => by rcases hF9 b e with q | q; (rcases hFk b q with t | t; (exact .inl t); (exact .inr (by omega))); (exact .inr (by omega))) (fun b e => .inl e) (fun j hj e => by
      rcases hres with ⟨q1, _, q3, _⟩ | ⟨id, q1, q2, _, q4⟩
      · obtain ⟨cc, z1, q, z2⟩ := q3 j hj e
        exact hdue j hj cc z1 (.inr (slk_tg (w.mv.r.c j hj cc z1).1.nodup z2))
      · rcases q4 j hj e with t | ⟨cc, z1, q, z2⟩
        · obtain ⟨cc, z1⟩ := due_some w.wx.i hj t
          exact hdue j hj cc z1 (.inl ⟨by omega, w.du j hj t⟩)
        · exact hdue j hj cc z1 (.inr (slk_tg (w.mv.r.c j hj cc z1).1.nodup z2))) (by rw [hsn]; exact Nat.le_trans hvis (vis_bud w.wx.i w.du)) (by rw [hsn]; have h9 := bud_sum u.cl u.mm.due (lits s2.L) u.s.c s2.L.length 52 (by omega) (by omega); omega) (by omega) (fun e => sn_chn (w.sd e) hok.lv hch)
    exact ⟨rfl, tg2, _, w9, KP.of hEt (fun b e => e.1) ht2⟩
end Go.Proofs.Qxb6500400aGreat
