import Derived.Test.Qxb6500403aGreatXk
set_option linter.unusedVariables false
set_option linter.unusedSimpArgs false
namespace Go.Proofs.Qxb6500403aGreat
open Go.Eng Go.Trl Go.Chk Go.Wat

theorem oq {h : Heap} {b : Nat} {k oa ob oc : Int} {os ot : ByteArray} {t : TypeId} (hB : B h b #[.int .i64 k, .int .i64 oa, .int .i64 ob, .int .i64 oc, .string os, .string ot] t) : cellH h ⟨b, 0, none⟩ = some (.int .i64 k) ∧ cellH h ⟨b, 1, none⟩ = some (.int .i64 oa) ∧ cellH h ⟨b, 2, none⟩ = some (.int .i64 ob) := ⟨hB.cell 0, hB.cell 1, hB.cell 2⟩
theorem wi_dec {W : WC} {cl : Nat → Option (List Int)} {s : TS} (hw : WI W cl (lits s.L) s.c) (hc : s.c ≤ s.L.length) (x : Int) : WI W cl (lits (decS s x).L) (decS s x).c := by
  unfold decS; split
  · simp only [lits_app]; exact hw.ls fun a b H => H.app (by rw [lits_len]; exact hc)
  · exact hw
theorem wi_asg {W : WC} {cl : Nat → Option (List Int)} {s : TS} (hw : WI W cl (lits s.L) s.c) (hc : s.c ≤ s.L.length) (x r : Int) : WI W cl (lits (asgS s x r).L) (asgS s x r).c := by
  unfold asgS; split
  · simp only [lits_app]; exact hw.ls fun a b H => H.app (by rw [lits_len]; exact hc)
  · exact hw
theorem wi_bj {W : WC} {cl : Nat → Option (List Int)} {s : TS} (hw : WI W cl (lits s.L) s.c) (j : Int) : WI W cl (lits (bjS s j).L) (bjS s j).c := by
  unfold bjS; split
  · simp only [backL, lits_take]; exact hw.ls fun a b H => H.take
  · exact hw
theorem wi_nil {W : WC} {cl : Nat → Option (List Int)} {s : TS} (hw : WI W cl (lits s.L) s.c) : WI W cl (lits []) 0 := hw.ls fun a b H => Hold.nil 0 a b
theorem wi_zero {W : WC} (hu : W.used = 0) (hf : W.fresh = 0) (hk : W.weak = 0) (hl : ∀ q, q < 26 → W.list q = 0) (hs : ∀ i, i < 52 → W.size i = 0) (ls : List Int) (c : Nat) : WI W (fun _ => none) ls c := by
  have key : ∀ i, (vw W i).u = false ∧ (vw W i).f = false ∧ (vw W i).k = false ∧ ∀ q, (vw W i).l q = false := fun i => by
    refine ⟨by simp [vw, hu], by simp [vw, hf], by simp [vw, hk], fun q => ?_⟩
    simp only [vw]; split
    · rename_i e; rw [hl q e]; simp
    · rfl
  exact ⟨fun i _ => key i, fun i hi => Go.Wat.Loc.dead (key i).1 (key i).2.1 (key i).2.2.1 (hs i hi) (fun q _ => (key i).2.2.2 q)⟩
/-- the trails turn -/
theorem UI.trl {h h1 h2 : Heap} {tg : Nat → Nat} {A : UA} {u : US} {nb : Nat} (w : UI h tg A u nb) {s' : TS} {p' : Nat} {F' : Nat → Prop} (hr : RS h1 A.X s' p') (he : Ext (fun x => x = A.X) h h1) (hm : MS h2 A.Y F' s') (hx : MX u.F F' h1 h2) (hwi : WI u.W u.cl (lits s'.L) s'.c) (hp : p' ≤ nb + 12) :
    ∃ tg', UI h2 tg' A { u with s := s', p := p', F := F' } (nb + 12) ∧ KP tg tg' h h2 := by
  have nX : ∀ b, tg b ≠ 3 → b ≠ A.X := fun b e z => e (by rw [z]; exact w.tX)
  have nF : ∀ b, tg b ≠ 5 → ¬ u.F b := fun b e z => e (w.tF b z)
  have hl := he.1
  have mv1 := w.mv.ext he (nX _ (by rw [w.tM]; omega)) (fun b hb => nX b (by rw [w.tG b hb]; omega)) (fun b hb => nX b (by rw [w.tF b hb]; omega))
  have mv2 : MV h2 A.M A.Y u.mm u.cl u.G F' s' := by
    refine ⟨mv1.b.ext hx.1 mv1.nM.2, mv1.r.ext hx.1 mv1.nG, hm, ⟨mv1.nM.1, fun e => ?_⟩, fun b hb e => ?_, fun b hb => Nat.lt_of_lt_of_le (mv1.lt b hb) hx.1.1⟩
    · rcases hx.2 _ e with q | q
      · exact mv1.nM.2 q
      · have := mv1.b.lt; omega
    · rcases hx.2 b e with q | q
      · exact mv1.nG b hb q
      · have := mv1.lt b hb; omega
  have wx2 : WX h2 A.C A.X u.W u.cl s' p' := ⟨(w.wx.b.ext he (nX _ (by rw [w.tC]; omega))).ext hx.1 (nF _ (by rw [w.tC]; omega)), hwi, hr.ext hx.1 (nF _ (by rw [w.tX]; omega)), w.wx.ne⟩
  have hd2 := (w.dd.ext he (nX _ (by rw [w.tU]; omega))).ext hx.1 (nF _ (by rw [w.tU]; omega))
  have hE : Ext (fun b => b = A.X ∨ u.F b) h h2 := (he.mono fun _ e => .inl e).trans (hx.1.mono fun _ e => .inr e)
  have hS : ∀ b, b = A.X ∨ u.F b → tg b ≠ 0 ∧ tg b ≤ 5 := fun b e => by
    rcases e with e | e
    · rw [e, w.tX]; omega
    · rw [w.tF b e]; omega
  obtain ⟨tg', w', ht, _⟩ := w.turn hE (fun b e => (hS b e).2) hd2 wx2 mv2 (fun b e => by rcases hx.2 b e with q | q; (exact .inl q); (exact .inr (by omega))) (fun b e => .inl e) w.du w.vs w.sb w.vk hp
  exact ⟨tg', w', hE.mono (fun b e => (hS b e).1), fun b hb e => by rw [ht b hb]; exact e⟩
def plCl (u : US) (k oa ob : Int) : Nat → Option (List Int) := if k = 2 then addS u.cl u.rg (decide (ob ≠ 0)) else if k = 3 then remS u.cl u.s oa else if k = 8 then (fun _ => none) else u.cl
def mvK (k : Int) : Prop := k = 6 ∨ k = 9 ∨ k = 10 ∨ k = 11 ∨ k = 12
def PlayR (u u' : US) (k oa ob : Int) : Prop := u'.cl = plCl u k oa ob ∧ (¬ mvK k → u'.s = u.s)
theorem PlayR.obs {u u' : US} {k oa ob : Int} (h : Obs u u') (hk : k ≠ 2 ∧ k ≠ 3 ∧ k ≠ 8) : PlayR u u' k oa ob := ⟨by unfold plCl; rw [if_neg hk.1, if_neg hk.2.1, if_neg hk.2.2]; exact h.cl, fun _ => h.s⟩
theorem PlayR.row {u u' : US} {k oa ob : Int} (h : u'.cl = u.cl) (hs : u'.s = u.s) (hk : k ≠ 2 ∧ k ≠ 3 ∧ k ≠ 8) : PlayR u u' k oa ob := ⟨by unfold plCl; rw [if_neg hk.1, if_neg hk.2.1, if_neg hk.2.2]; exact h, fun _ => hs⟩
theorem PlayR.mv {u u' : US} {k oa ob : Int} (h : u'.cl = u.cl) (hm : mvK k) : PlayR u u' k oa ob := ⟨by unfold mvK at hm; unfold plCl; rw [if_neg (by omega), if_neg (by omega), if_neg (by omega)]; exact h, fun e => absurd hm e⟩

theorem B.puts_all {h : Heap} {b : Nat} {cs cs' : Array Value} {t : TypeId} (hb : B h b cs t) (hs : cs'.size = cs.size) : B (putsH h b 0 cs'.toList) b cs' t := by
  obtain ⟨c2, e2, e3, e4, e5, e6, e7⟩ := putsH_eq cs'.toList 0 h cs hb (by simp; omega)
  refine e2.cong (Array.ext' (List.ext_getElem? fun i => ?_))
  by_cases hi : i < cs'.size
  · have := e4 i (by simpa using hi); simp at this ⊢; rw [this]
  · simp; rw [Array.getElem?_eq_none (by omega), Array.getElem?_eq_none (by omega)]
/-- the script, as it lies in the heap -/
def Scr (base : Nat) (h : Heap) (sa : Option Addr) (n : Nat) : Prop := ∀ i, i < n → ∃ sb so, sa = some ⟨sb, so, none⟩ ∧ sb < base ∧ ∃ k a b c s u, cellsH h ⟨sb, so + i * 6, none⟩ 0 6 = some [.int .i64 k, .int .i64 a, .int .i64 b, .int .i64 c, .string s, .string u]
theorem cellsH_same {h h' : Heap} {b o : Nat} (he : h'[b]? = h[b]?) : ∀ (n i : Nat), cellsH h' ⟨b, o, none⟩ i n = cellsH h ⟨b, o, none⟩ i n
  | 0, _ => rfl
  | n + 1, i => by
    have e : cellH h' ((⟨b, o, none⟩ : Addr).add i) = cellH h ((⟨b, o, none⟩ : Addr).add i) := by rw [add_mk]; unfold cellH; simp only [he]
    simp only [cellsH, e, cellsH_same he n (i + 1)]
theorem Scr.ext {base : Nat} {h h' : Heap} {sa : Option Addr} {n : Nat} (hs : Scr base h sa n) (hb : base ≤ h.size) (he : Ext (fun b => base ≤ b) h h') : Scr base h' sa n := by
  intro i hi
  obtain ⟨sb, so, e, hlt, k, a, b, c, s, u, hc⟩ := hs i hi
  exact ⟨sb, so, e, hlt, k, a, b, c, s, u, by rw [cellsH_same (he.2 sb (by omega) (by omega))]; exact hc⟩

theorem UI.low {h h1 h2 : Heap} {tg tg' : Nat → Nat} {A : UA} {u : US} {nb : Nat} (w : UI h tg A u nb) (hk : KP tg tg' h1 h2) : Ext (fun b => A.base ≤ b) h1 h2 := hk.1.mono fun b e => by
  rcases Nat.lt_or_ge b A.base with q | q
  · exact absurd (w.lo b q) e
  · exact q
set_option maxHeartbeats 400000 in
theorem alike_spec (h : Heap) (tg : Nat → Nat) (A : UA) (u : US) (nb : Nat) (w : UI h tg A u nb) :
    FC Tryz.prog 10 (#[.pointer (some ⟨A.U, 0, none⟩)] : Array Value) h fun rv h' => rv = .bool true ∧ ∃ (tg' : Nat → Nat) (u' : US), UI h' tg' A u' nb ∧ Obs u u' ∧ KP tg tg' h h' := by
  refine FC_of [(0, .pointer (some ⟨A.U, 0, none⟩))] Tryz.func10 rfl Tryz.ntmps10 (by simp) rfl (fun R hR => ?_)
  refine V_sr T.mix (by kernel_rfl) (fun K1 hK1 => ?_)
  refine S_as rfl ?_
  refine S_nil (hK1 _ _ (V_keep [0] (by simp only [proj, lk, reduceIte, Nat.reduceEqDiff]; rfl) ?_)); clear hK1
  refine V_seq (fun K2 hK2 => ?_)
  refine V_sr T.mix (by kernel_rfl) (fun K3 hK3 => ?_)
  refine S_mv rfl ?_
  refine S_call T.hb24 rfl ?_
  refine FC.mono (sameids_spec h tg A u nb w) ?_
  rintro v' h1 ⟨rfl, tg1, u1, w1, hob1, hkp1⟩
  refine S_notb rfl ?_
  refine S_nil (hK3 _ _ (V_keep [0, 6] (by simp only [proj, lk, reduceIte, Nat.reduceEqDiff]; rfl) ?_)); clear hK3
  refine V_condb rfl (fun c413 => ?_) (fun c413 => ?_)
  · skip
    cases c413
  · skip
    refine V_skipk [0] (by simp only [proj, lk, reduceIte, Nat.reduceEqDiff]; rfl) ?_
    refine hK2 _ _ ?_; clear hK2
    refine V_seq (fun K4 hK4 => ?_)
    refine V_sr T.mix (by kernel_rfl) (fun K5 hK5 => ?_)
    refine S_as rfl ?_
    refine S_nil (hK5 _ _ (V_keep [0, 3] (by simp only [proj, lk, reduceIte, Nat.reduceEqDiff]; rfl) ?_)); clear hK5
    refine V_block ?_
    refine V_loop (fun m l h' => ∃ (n : Int) (hk : Heap) (tgk : Nat → Nat) (uk : US), (-1 ≤ n) ∧ (n ≤ 53) ∧ (UI hk tgk A uk nb) ∧ (Obs u uk) ∧ (KP tg tgk h hk) ∧ m = (53 - n).toNat ∧ l = [(0, .pointer (some ⟨A.U, 0, none⟩)), (3, .int .i64 n)] ∧ hk = h') _ ⟨-1, h1, tg1, u1, by omega, by omega, w1, hob1, hkp1, rfl, rfl, rfl⟩ ?_
    rintro m l h' ⟨n, hk, tgk, uk, hn1, hn2, wk, hobk, hkpk, rfl, rfl, rfl⟩ K6 hK6
    try clear u0 u1 u2 u3 u4 u5 u6 u7 huok
    obtain ⟨u0, u1, u2, u3, u4, u5, u6, u7, huok⟩ := uq (wk.dd)
    refine V_seq (fun K7 hK7 => ?_)
    refine V_sr T.mix (by kernel_rfl) (fun K8 hK8 => ?_)
    refine S_mv rfl ?_
    refine S_bin rfl rfl rfl ?_
    refine S_nil (hK8 _ _ (V_keep [0, 3, 8] (by simp only [proj, lk, reduceIte, Nat.reduceEqDiff]; rfl) ?_)); clear hK8
    refine V_condp rfl (fun c416 => ?_) (fun c416 => ?_)
    · skip
      refine V_skipk [0, 3] (by simp only [proj, lk, reduceIte, Nat.reduceEqDiff]; rfl) ?_
      refine hK7 _ _ ?_; clear hK7
      refine V_seq (fun K9 hK9 => ?_)
      refine V_block ?_
      refine V_sr T.mix (by kernel_rfl) (fun K10 hK10 => ?_)
      refine S_mv rfl ?_
      refine S_mv rfl ?_
      refine S_call T.hb25 rfl ?_
      refine FC.mono (sameclause_spec hk tgk A uk nb wk n) ?_
      rintro v' h2 ⟨rfl, tg2, u2', w2, hob2, hkp2⟩
      refine S_notb rfl ?_
      refine S_nil (hK10 _ _ (V_keep [0, 3, 14] (by simp only [proj, lk, reduceIte, Nat.reduceEqDiff]; rfl) ?_)); clear hK10
      refine V_condb rfl (fun c417 => ?_) (fun c417 => ?_)
      · skip
        cases c417
      · skip
        refine V_skipk [0, 3] (by simp only [proj, lk, reduceIte, Nat.reduceEqDiff]; rfl) ?_
        refine hK9 _ _ ?_; clear hK9
        refine V_reg T.mix (by kernel_rfl) ?_
        refine S_mv rfl ?_
        first | refine S_add rfl rfl (by omega) (by omega) ?_ | refine S_bin rfl rfl rfl ?_
        refine S_as rfl ?_
        refine S_nilk [0, 3] (by simp only [proj, lk, reduceIte, Nat.reduceEqDiff]; rfl) ?_
        exact hK6 _ _ ⟨_, by omega, n + 1, h2, tg2, u2', by omega, by omega, w2, hobk.trans hob2, hkpk.trans hkp2, rfl, rfl, rfl⟩
    · skip
      refine V_exitk [0] rfl (by simp only [proj, lk, reduceIte, Nat.reduceEqDiff]; rfl) ?_
      refine hK4 _ _ ?_; clear hK4
      refine V_seq (fun K11 hK11 => ?_)
      refine V_sr T.mix (by kernel_rfl) (fun K12 hK12 => ?_)
      refine S_mv rfl ?_
      refine S_nc rfl ?_
      first | refine S_fa0 T.f48_1 rfl ?_ | refine S_fa T.f48_1 rfl ?_
      refine S_ldK T.ag42 rfl (fun K' hK' => ?_)
      simp (disch := omega) only [u0, u1, u2, u3, u4, u5, u6, u7, oP_some, Nat.add_zero]
      refine hK' _ ?_; clear hK' K'
      refine S_call T.hb26 rfl ?_
      refine FC.mono (wcheck_spec hk A.C A.X uk.W uk.cl uk.s uk.p wk.wx) ?_
      rintro v' h' ⟨rfl, rfl⟩
      refine S_notb rfl ?_
      refine S_nil (hK12 _ _ (V_keep [0, 20] (by simp only [proj, lk, reduceIte, Nat.reduceEqDiff]; rfl) ?_)); clear hK12
      refine V_condb rfl (fun c421 => ?_) (fun c421 => ?_)
      · skip
        cases c421
      · skip
        refine V_skipk [0] (by simp only [proj, lk, reduceIte, Nat.reduceEqDiff]; rfl) ?_
        refine hK11 _ _ ?_; clear hK11
        refine V_sr T.mix (by kernel_rfl) (fun K13 hK13 => ?_)
        refine S_mv rfl ?_
        refine S_call T.hb27 rfl ?_
        refine FC.mono (samevisits_spec hk tgk A uk nb wk) ?_
        rintro v' h2 ⟨rfl, tg2, u2', w2, hob2, hkp2⟩
        refine S_as rfl ?_
        refine S_nil (hK13 _ _ (V_keep [2] (by simp only [proj, lk, reduceIte, Nat.reduceEqDiff]; rfl) ?_)); clear hK13
        refine V_ret ?_
        refine hR _ _ (ret1 rfl rfl ?_)
        exact ⟨rfl, tg2, u2', w2, hobk.trans hob2, hkpk.trans hkp2⟩
set_option maxHeartbeats 3200000 in
theorem play_spec (h : Heap) (tg : Nat → Nat) (A : UA) (u : US) (nb : Nat) (w : UI h tg A u nb) (k oa ob oc : Int) (os ot : ByteArray) (hnb : nb + 12 ≤ 1000000000000000) :
    FC Tryz.prog 11 (#[.pointer (some ⟨A.U, 0, none⟩), .agg #[.int .i64 k, .int .i64 oa, .int .i64 ob, .int .i64 oc, .string os, .string ot]] : Array Value) h fun rv h' => rv = .bool true ∧ ∃ (tg' : Nat → Nat) (u' : US), UI h' tg' A u' (nb + 12) ∧ PlayR u u' k oa ob ∧ KP tg tg' h h' := by
  have hhb := w.hb
  have hlt := w.lt1
  have hpp := w.pp
  have hok := w.wx.ok
  have hl12 := hok.len
  have hcc := hok.c
  refine FC_of [(0, .pointer (some ⟨A.U, 0, none⟩)), (1, .agg #[.int .i64 k, .int .i64 oa, .int .i64 ob, .int .i64 oc, .string os, .string ot])] Tryz.func11 rfl Tryz.ntmps11 (by simp) rfl (fun R hR => ?_)
  refine V_sr T.mix (by kernel_rfl) (fun K1 hK1 => ?_)
  refine S_boxA rfl ?_
  generalize hh : Array.push h _ = h1
  have hO : B h1 h.size #[.int .i64 k, .int .i64 oa, .int .i64 ob, .int .i64 oc, .string os, .string ot] 32 := by rw [← hh]; exact B.new _ _ _
  have hEh1 : Ext (fun _ => False) h h1 := by rw [← hh]; exact Ext.push _ _ _
  have hsh1 : h1.size = h.size + 1 := by rw [← hh]; simp
  clear hh
  have w1 := w.new hEh1
  have hkp1 : KP tg tg h h1 := KP.quiet hEh1
  try clear o0 o1 o2
  obtain ⟨o0, o1, o2⟩ := oq (hO)
  try clear u0 u1 u2 u3 u4 u5 u6 u7 huok
  obtain ⟨u0, u1, u2, u3, u4, u5, u6, u7, huok⟩ := uq (w1.dd)
  refine S_as rfl ?_
  refine S_nil (hK1 _ _ (V_keep [0, 3] (by simp only [proj, lk, reduceIte, Nat.reduceEqDiff]; rfl) ?_)); clear hK1
  refine V_seq (fun K2 hK2 => ?_)
  refine V_sr T.mix (by kernel_rfl) (fun K3 hK3 => ?_)
  first | refine S_fa0 T.f32_0 rfl ?_ | refine S_fa T.f32_0 rfl ?_
  refine S_ldK T.ag3 rfl (fun K' hK' => ?_)
  simp (disch := omega) only [u0, u1, u2, u3, u4, u5, u6, u7, o0, o1, o2, oP_some, Nat.add_zero]
  refine hK' _ ?_; clear hK' K'
  refine S_nil (hK3 _ _ (V_keep [0, 3, 12] (by simp only [proj, lk, reduceIte, Nat.reduceEqDiff]; rfl) ?_)); clear hK3
  refine V_block ?_
  refine V_sr T.mix (by kernel_rfl) (fun K4 hK4 => ?_)
  refine S_bin rfl rfl rfl ?_
  refine S_as rfl ?_
  refine S_nil (hK4 _ _ (V_keep [0, 3, 12, 13] (by simp only [proj, lk, reduceIte, Nat.reduceEqDiff]; rfl) ?_)); clear hK4
  refine V_condp rfl (fun c430 => ?_) (fun c430 => ?_)
  · skip
    refine V_reg T.mix (by kernel_rfl) ?_
    refine S_mv rfl ?_
    refine S_mv rfl ?_
    refine S_nc rfl ?_
    first | refine S_fa0 T.f48_3 rfl ?_ | refine S_fa T.f48_3 rfl ?_
    refine S_ldK T.ag33 rfl (fun K' hK' => ?_)
    simp (disch := omega) only [u0, u1, u2, u3, u4, u5, u6, u7, o0, o1, o2, oP_some, Nat.add_zero]
    refine hK' _ ?_; clear hK' K'
    first | refine S_fa0 T.f32_1 rfl ?_ | refine S_fa T.f32_1 rfl ?_
    refine S_ldK T.ag3 rfl (fun K' hK' => ?_)
    simp (disch := omega) only [u0, u1, u2, u3, u4, u5, u6, u7, o0, o1, o2, oP_some, Nat.add_zero]
    refine hK' _ ?_; clear hK' K'
    refine S_call T.hb28 rfl ?_
    refine FC.mono (push_spec h1 u.ra u.rc u.rg w1.rg (by have h9 := w.rl; omega) oa) ?_
    rintro v' h2 ⟨ra2, rc2, ys, rfl, hI2, hys, hE2, hb2⟩
    have hD2 := w1.dd.ext hE2 (fun e => by have h8 := w.tr _ e; rw [w.tU] at h8; omega)
    try clear u0 u1 u2 u3 u4 u5 u6 u7 huok
    obtain ⟨u0, u1, u2, u3, u4, u5, u6, u7, huok⟩ := uq (hD2)
    refine S_nc rfl ?_
    first | refine S_fa0 T.f48_3 rfl ?_ | refine S_fa T.f48_3 rfl ?_
    refine S_st T.sz33 rfl rfl rfl rfl (by simp (disch := omega) only [huok]) ?_
    generalize hh : putH _ _ _ = h3
    have hD3 : B h3 A.U (ucs A { u with ra := ra2, rc := rc2, rg := ys }) 48 := by rw [← hh]; exact (hD2.put 4 _).cong (by simp [ucs])
    have hE3 : Ext (fun b => b = A.U) h2 h3 := by rw [← hh]; exact Ext.put _ _ rfl
    clear hh
    have hEr : Ext (fun b => b = A.U ∨ blkA u.ra = some b) h1 h3 := (hE2.mono fun _ e => .inr e).trans (hE3.mono fun _ e => .inl e)
    have hra2 : ∀ b, blkA ra2 = some b → b ≠ A.U := fun b e z => by rcases hb2 b e with q | q; (have h8 := w.tr b q; rw [z, w.tU] at h8; omega); (have h7 := hEh1.1; omega)
    obtain ⟨tg3, w3, ht3⟩ := w1.reg hEr hD3 (hI2.ext hE3 (fun b e => hra2 b e)) (by have h9 := w.rl; rw [hys]; split; (omega); (simp; omega)) hb2
    have hkp3 : KP tg tg3 h1 h3 := ⟨hEr.mono (fun b e => by rcases e with e | e; (rw [e, w.tU]; omega); (rw [w.tr b e]; omega)), fun b hb e => by rw [ht3 b hb]; exact e⟩
    refine S_nilk [] (by simp only [proj, lk, reduceIte, Nat.reduceEqDiff]; rfl) ?_
    refine hK2 _ _ ?_; clear hK2
    refine V_sr T.mix (by kernel_rfl) (fun K5 hK5 => ?_)
    refine S_as rfl ?_
    refine S_nil (hK5 _ _ (V_keep [4] (by simp only [proj, lk, reduceIte, Nat.reduceEqDiff]; rfl) ?_)); clear hK5
    refine V_ret ?_
    refine hR _ _ (ret1 rfl rfl ?_)
    exact ⟨rfl, tg3, _, w3.up (by omega), PlayR.row rfl rfl (by omega), hkp1.trans hkp3⟩
  · skip
    refine V_sr T.mix (by kernel_rfl) (fun K6 hK6 => ?_)
    refine S_bin rfl rfl rfl ?_
    refine S_as rfl ?_
    refine S_nil (hK6 _ _ (V_keep [0, 3, 12, 25] (by simp only [proj, lk, reduceIte, Nat.reduceEqDiff]; rfl) ?_)); clear hK6
    refine V_condp rfl (fun c432 => ?_) (fun c432 => ?_)
    · skip
      refine V_sr T.mix (by kernel_rfl) (fun K7 hK7 => ?_)
      refine S_mv rfl ?_
      first | refine S_fa0 T.f32_2 rfl ?_ | refine S_fa T.f32_2 rfl ?_
      refine S_ldK T.ag3 rfl (fun K' hK' => ?_)
      simp (disch := omega) only [u0, u1, u2, u3, u4, u5, u6, u7, o0, o1, o2, oP_some, Nat.add_zero]
      refine hK' _ ?_; clear hK' K'
      refine S_bin rfl rfl rfl ?_
      refine S_call T.hb29 rfl ?_
      have hcall := sameadd_spec h1 tg A u nb w1 (decide (ob ≠ 0))
      rw [show (decide (decide (ob ≠ 0) = true)) = decide (ob ≠ 0) by simp] at hcall
      refine FC.mono (hcall) ?_
      rintro v' h2 ⟨rfl, tg2, u2', w2, hob2, hkp2⟩
      refine S_as rfl ?_
      refine S_nil (hK7 _ _ (V_keep [4] (by simp only [proj, lk, reduceIte, Nat.reduceEqDiff]; rfl) ?_)); clear hK7
      refine V_ret ?_
      refine hR _ _ (ret1 rfl rfl ?_)
      exact ⟨rfl, tg2, u2', w2.up (by omega), ⟨by unfold plCl; rw [if_pos c432]; exact hob2.1, fun _ => hob2.2⟩, hkp1.trans hkp2⟩
    · skip
      refine V_sr T.mix (by kernel_rfl) (fun K8 hK8 => ?_)
      refine S_bin rfl rfl rfl ?_
      refine S_as rfl ?_
      refine S_nil (hK8 _ _ (V_keep [0, 3, 12, 32] (by simp only [proj, lk, reduceIte, Nat.reduceEqDiff]; rfl) ?_)); clear hK8
      refine V_condp rfl (fun c434 => ?_) (fun c434 => ?_)
      · skip
        refine V_sr T.mix (by kernel_rfl) (fun K9 hK9 => ?_)
        refine S_mv rfl ?_
        first | refine S_fa0 T.f32_1 rfl ?_ | refine S_fa T.f32_1 rfl ?_
        refine S_ldK T.ag3 rfl (fun K' hK' => ?_)
        simp (disch := omega) only [u0, u1, u2, u3, u4, u5, u6, u7, o0, o1, o2, oP_some, Nat.add_zero]
        refine hK' _ ?_; clear hK' K'
        refine S_call T.hb30 rfl ?_
        refine FC.mono (sameremove_spec h1 tg A u nb w1 oa) ?_
        rintro v' h2 ⟨rfl, tg2, u2', w2, hob2, hkp2⟩
        refine S_as rfl ?_
        refine S_nil (hK9 _ _ (V_keep [4] (by simp only [proj, lk, reduceIte, Nat.reduceEqDiff]; rfl) ?_)); clear hK9
        refine V_ret ?_
        refine hR _ _ (ret1 rfl rfl ?_)
        exact ⟨rfl, tg2, u2', w2.up (by omega), ⟨by unfold plCl; rw [if_neg (by omega), if_pos c434]; exact hob2.1, fun _ => hob2.2⟩, hkp1.trans hkp2⟩
      · skip
        refine V_sr T.mix (by kernel_rfl) (fun K10 hK10 => ?_)
        refine S_bin rfl rfl rfl ?_
        refine S_as rfl ?_
        refine S_nil (hK10 _ _ (V_keep [0, 3, 12, 38] (by simp only [proj, lk, reduceIte, Nat.reduceEqDiff]; rfl) ?_)); clear hK10
        refine V_condp rfl (fun c436 => ?_) (fun c436 => ?_)
        · skip
          refine V_sr T.mix (by kernel_rfl) (fun K11 hK11 => ?_)
          refine S_mv rfl ?_
          first | refine S_fa0 T.f32_1 rfl ?_ | refine S_fa T.f32_1 rfl ?_
          refine S_ldK T.ag3 rfl (fun K' hK' => ?_)
          simp (disch := omega) only [u0, u1, u2, u3, u4, u5, u6, u7, o0, o1, o2, oP_some, Nat.add_zero]
          refine hK' _ ?_; clear hK' K'
          refine S_call T.hb25 rfl ?_
          refine FC.mono (sameclause_spec h1 tg A u nb w1 oa) ?_
          rintro v' h2 ⟨rfl, tg2, u2', w2, hob2, hkp2⟩
          refine S_as rfl ?_
          refine S_nil (hK11 _ _ (V_keep [4] (by simp only [proj, lk, reduceIte, Nat.reduceEqDiff]; rfl) ?_)); clear hK11
          refine V_ret ?_
          refine hR _ _ (ret1 rfl rfl ?_)
          exact ⟨rfl, tg2, u2', w2.up (by omega), PlayR.obs hob2 (by omega), hkp1.trans hkp2⟩
        · skip
          refine V_sr T.mix (by kernel_rfl) (fun K12 hK12 => ?_)
          refine S_bin rfl rfl rfl ?_
          refine S_as rfl ?_
          refine S_nil (hK12 _ _ (V_keep [0, 3, 12, 44] (by simp only [proj, lk, reduceIte, Nat.reduceEqDiff]; rfl) ?_)); clear hK12
          refine V_condp rfl (fun c438 => ?_) (fun c438 => ?_)
          · skip
            refine V_sr T.mix (by kernel_rfl) (fun K13 hK13 => ?_)
            refine S_mv rfl ?_
            refine S_call T.hb24 rfl ?_
            refine FC.mono (sameids_spec h1 tg A u nb w1) ?_
            rintro v' h2 ⟨rfl, tg2, u2', w2, hob2, hkp2⟩
            refine S_as rfl ?_
            refine S_nil (hK13 _ _ (V_keep [4] (by simp only [proj, lk, reduceIte, Nat.reduceEqDiff]; rfl) ?_)); clear hK13
            refine V_ret ?_
            refine hR _ _ (ret1 rfl rfl ?_)
            exact ⟨rfl, tg2, u2', w2.up (by omega), PlayR.obs hob2 (by omega), hkp1.trans hkp2⟩
          · skip
            refine V_sr T.mix (by kernel_rfl) (fun K14 hK14 => ?_)
            refine S_bin rfl rfl rfl ?_
            refine S_as rfl ?_
            refine S_nil (hK14 _ _ (V_keep [0, 3, 12, 48] (by simp only [proj, lk, reduceIte, Nat.reduceEqDiff]; rfl) ?_)); clear hK14
            refine V_condp rfl (fun c440 => ?_) (fun c440 => ?_)
            · skip
              refine V_sr T.mix (by kernel_rfl) (fun K15 hK15 => ?_)
              refine S_mv rfl ?_
              refine S_call T.hb31 rfl ?_
              refine FC.mono (lawful_spec h1 tg A u nb w1) ?_
              rintro v' h2 ⟨rfl, tg2, u2', w2, hob2, hkp2⟩
              refine S_as rfl ?_
              refine S_nil (hK15 _ _ (V_keep [4] (by simp only [proj, lk, reduceIte, Nat.reduceEqDiff]; rfl) ?_)); clear hK15
              refine V_ret ?_
              refine hR _ _ (ret1 rfl rfl ?_)
              exact ⟨rfl, tg2, u2', w2.up (by omega), PlayR.mv hob2 (.inl c440), hkp1.trans hkp2⟩
            · skip
              refine V_sr T.mix (by kernel_rfl) (fun K16 hK16 => ?_)
              refine S_bin rfl rfl rfl ?_
              refine S_as rfl ?_
              refine S_nil (hK16 _ _ (V_keep [0, 3, 12, 52] (by simp only [proj, lk, reduceIte, Nat.reduceEqDiff]; rfl) ?_)); clear hK16
              refine V_condp rfl (fun c442 => ?_) (fun c442 => ?_)
              · skip
                refine V_sr T.mix (by kernel_rfl) (fun K17 hK17 => ?_)
                refine S_mv rfl ?_
                refine S_call T.hb27 rfl ?_
                refine FC.mono (samevisits_spec h1 tg A u nb w1) ?_
                rintro v' h2 ⟨rfl, tg2, u2', w2, hob2, hkp2⟩
                refine S_as rfl ?_
                refine S_nil (hK17 _ _ (V_keep [4] (by simp only [proj, lk, reduceIte, Nat.reduceEqDiff]; rfl) ?_)); clear hK17
                refine V_ret ?_
                refine hR _ _ (ret1 rfl rfl ?_)
                exact ⟨rfl, tg2, u2', w2.up (by omega), PlayR.obs hob2 (by omega), hkp1.trans hkp2⟩
              · skip
                refine V_sr T.mix (by kernel_rfl) (fun K18 hK18 => ?_)
                refine S_bin rfl rfl rfl ?_
                refine S_as rfl ?_
                refine S_nil (hK18 _ _ (V_keep [0, 3, 12, 56] (by simp only [proj, lk, reduceIte, Nat.reduceEqDiff]; rfl) ?_)); clear hK18
                refine V_condp rfl (fun c444 => ?_) (fun c444 => ?_)
                · skip
                  refine V_sr T.mix (by kernel_rfl) (fun K19 hK19 => ?_)
                  refine S_mv rfl ?_
                  refine S_nc rfl ?_
                  first | refine S_fa0 T.f48_1 rfl ?_ | refine S_fa T.f48_1 rfl ?_
                  refine S_ldK T.ag42 rfl (fun K' hK' => ?_)
                  simp (disch := omega) only [u0, u1, u2, u3, u4, u5, u6, u7, o0, o1, o2, oP_some, Nat.add_zero]
                  refine hK' _ ?_; clear hK' K'
                  refine S_call T.hb32 rfl ?_
                  refine FC.mono (wreset_spec h1 A.C A.X u.W w1.wx.b) ?_
                  rintro v' h2 ⟨rfl, ⟨W2, hB2, z1, z2, z3, z4, z5, z6⟩, hE2⟩
                  have nC : ∀ b, tg b ≠ 2 → b ≠ A.C := fun b e z => e (by rw [z]; exact w.tC)
                  have mv2 := w1.mv.ext hE2 (nC _ (by rw [w.tM]; omega)) (fun b hb => nC b (by rw [w.tG b hb]; omega)) (fun b hb => nC b (by rw [w.tF b hb]; omega))
                  have hD2 := w1.dd.ext hE2 (nC _ (by rw [w.tU]; omega))
                  have ht2 := w1.wx.t.ext hE2 (nC _ (by rw [w.tX]; omega))
                  try clear u0 u1 u2 u3 u4 u5 u6 u7 huok
                  obtain ⟨u0, u1, u2, u3, u4, u5, u6, u7, huok⟩ := uq (hD2)
                  refine S_nil (hK19 _ _ (V_keep [0] (by simp only [proj, lk, reduceIte, Nat.reduceEqDiff]; rfl) ?_)); clear hK19
                  refine V_sr T.mix (by kernel_rfl) (fun K20 hK20 => ?_)
                  refine S_mv rfl ?_
                  refine S_nc rfl ?_
                  first | refine S_fa0 T.f48_2 rfl ?_ | refine S_fa T.f48_2 rfl ?_
                  first | refine S_fa0 T.f46_1 rfl ?_ | refine S_fa T.f46_1 rfl ?_
                  refine S_ldK T.ag44 rfl (fun K' hK' => ?_)
                  simp (disch := omega) only [u0, u1, u2, u3, u4, u5, u6, u7, o0, o1, o2, oP_some, Nat.add_zero]
                  refine hK' _ ?_; clear hK' K'
                  refine S_call T.hb33 rfl ?_
                  refine FC.mono (mwreset_spec h2 A.M A.Y u.mm u.cl u.G u.F u.s mv2) ?_
                  rintro v' h3 ⟨rfl, ⟨mz, mv3, hsn⟩, hE3⟩
                  have nM : ∀ b, tg b ≠ 4 → b ≠ A.M := fun b e z => e (by rw [z]; exact w.tM)
                  have hD3 := hD2.ext hE3 (nM _ (by rw [w.tU]; omega))
                  have wx3 : WX h3 A.C A.X W2 (fun _ => none) u.s u.p := ⟨hB2.ext hE3 (nM _ (by rw [w.tC]; omega)), wi_zero z1 z2 z3 z5 z6 _ _, ht2.ext hE3 (nM _ (by rw [w.tX]; omega)), w.wx.ne⟩
                  try clear u0 u1 u2 u3 u4 u5 u6 u7 huok
                  obtain ⟨u0, u1, u2, u3, u4, u5, u6, u7, huok⟩ := uq (hD3)
                  refine S_nil (hK20 _ _ (V_keep [0] (by simp only [proj, lk, reduceIte, Nat.reduceEqDiff]; rfl) ?_)); clear hK20
                  refine V_sr T.mix (by kernel_rfl) (fun K21 hK21 => ?_)
                  refine S_mv rfl ?_
                  refine S_nc rfl ?_
                  first | refine S_fa0 T.f48_5 rfl ?_ | refine S_fa T.f48_5 rfl ?_
                  refine S_st T.sz3 rfl rfl rfl rfl (by simp (disch := omega) only [huok]) ?_
                  generalize hh : putH _ _ _ = h4
                  have hD4 : B h4 A.U (ucs A { u with V := 0 }) 48 := by rw [← hh]; exact (hD3.put 6 _).cong (by simp [ucs])
                  have hE4 : Ext (fun b => b = A.U) h3 h4 := by rw [← hh]; exact Ext.put _ _ rfl
                  clear hh
                  try clear u0 u1 u2 u3 u4 u5 u6 u7 huok
                  obtain ⟨u0, u1, u2, u3, u4, u5, u6, u7, huok⟩ := uq (hD4)
                  refine S_nil (hK21 _ _ (V_keep [0] (by simp only [proj, lk, reduceIte, Nat.reduceEqDiff]; rfl) ?_)); clear hK21
                  refine V_reg T.mix (by kernel_rfl) ?_
                  refine S_mv rfl ?_
                  refine S_nc rfl ?_
                  first | refine S_fa0 T.f48_6 rfl ?_ | refine S_fa T.f48_6 rfl ?_
                  refine S_st T.sz4 rfl rfl rfl rfl (by simp (disch := omega) only [huok]) ?_
                  generalize hh : putH _ _ _ = h5
                  have hD5 : B h5 A.U (ucs A { u with V := 0, kn := true }) 48 := by rw [← hh]; exact (hD4.put 7 _).cong (by simp [ucs])
                  have hE5 : Ext (fun b => b = A.U) h3 h5 := by rw [← hh]; exact hE4.trans (Ext.put _ _ rfl)
                  clear hh
                  have nU : ∀ b, tg b ≠ 1 → b ≠ A.U := fun b e z => e (by rw [z]; exact w.tU)
                  have wx5 := wx3.ext hE5 (nU _ (by rw [w.tC]; omega)) (nU _ (by rw [w.tX]; omega))
                  have mv5 := mv3.ext hE5 (nU _ (by rw [w.tM]; omega)) (fun b hb => nU b (by rw [w.tG b hb]; omega)) (fun b hb => nU b (by rw [w.tF b hb]; omega))
                  have hEt : Ext (fun b => b = A.C ∨ b = A.M ∨ b = A.U) h1 h5 := ((hE2.mono fun _ e => .inl e).trans (hE3.mono fun _ e => .inr (.inl e))).trans (hE5.mono fun _ e => .inr (.inr e))
                  have hSt : ∀ b, b = A.C ∨ b = A.M ∨ b = A.U → tg b ≠ 0 ∧ tg b ≤ 5 := fun b e => by rcases e with e | e | e; (rw [e, w.tC]; omega); (rw [e, w.tM]; omega); (rw [e, w.tU]; omega)
                  obtain ⟨tg5, w5, ht5, _⟩ := w1.turn hEt (fun b e => (hSt b e).2) hD5 wx5 mv5 (fun b e => .inl e) (fun b e => .inl e) (fun i hi e => by unfold dueW at e; rw [z2, z3] at e; simp at e) (by rw [z4]; exact Nat.zero_le _) (by rw [hsn]; omega) (fun _ => z4.symm) (show u.p ≤ nb + 12 by omega)
                  have hkp5 : KP tg tg5 h1 h5 := ⟨hEt.mono (fun b e => (hSt b e).1), fun b hb e => by rw [ht5 b hb]; exact e⟩
                  refine S_nilk [] (by simp only [proj, lk, reduceIte, Nat.reduceEqDiff]; rfl) ?_
                  refine hK2 _ _ ?_; clear hK2
                  refine V_sr T.mix (by kernel_rfl) (fun K22 hK22 => ?_)
                  refine S_as rfl ?_
                  refine S_nil (hK22 _ _ (V_keep [4] (by simp only [proj, lk, reduceIte, Nat.reduceEqDiff]; rfl) ?_)); clear hK22
                  refine V_ret ?_
                  refine hR _ _ (ret1 rfl rfl ?_)
                  exact ⟨rfl, tg5, _, w5, ⟨by unfold plCl; rw [if_neg (by omega), if_neg (by omega), if_pos c444], fun _ => rfl⟩, hkp1.trans hkp5⟩
                · skip
                  refine V_sr T.mix (by kernel_rfl) (fun K23 hK23 => ?_)
                  refine S_bin rfl rfl rfl ?_
                  refine S_as rfl ?_
                  refine S_nil (hK23 _ _ (V_keep [0, 3, 12, 75] (by simp only [proj, lk, reduceIte, Nat.reduceEqDiff]; rfl) ?_)); clear hK23
                  refine V_condp rfl (fun c449 => ?_) (fun c449 => ?_)
                  · skip
                    refine V_sr T.mix (by kernel_rfl) (fun K24 hK24 => ?_)
                    refine S_mv rfl ?_
                    refine S_nc rfl ?_
                    first | refine S_fa0 T.f48_0 rfl ?_ | refine S_fa T.f48_0 rfl ?_
                    first | refine S_fa0 T.f41_0 rfl ?_ | refine S_fa T.f41_0 rfl ?_
                    refine S_ldK T.ag39 rfl (fun K' hK' => ?_)
                    simp (disch := omega) only [u0, u1, u2, u3, u4, u5, u6, u7, o0, o1, o2, oP_some, Nat.add_zero]
                    refine hK' _ ?_; clear hK' K'
                    first | refine S_fa0 T.f32_1 rfl ?_ | refine S_fa T.f32_1 rfl ?_
                    refine S_ldK T.ag3 rfl (fun K' hK' => ?_)
                    simp (disch := omega) only [u0, u1, u2, u3, u4, u5, u6, u7, o0, o1, o2, oP_some, Nat.add_zero]
                    refine hK' _ ?_; clear hK' K'
                    refine S_call T.hb34 rfl ?_
                    refine FC.mono (decide_spec h1 A.X u.s u.p w1.wx.t oa) ?_
                    rintro v' h2 ⟨rfl, hr2, hE2⟩
                    have nU : A.U ≠ A.X := fun e => by have h8 := w.tU; rw [e, w.tX] at h8; omega
                    have ms2 := w1.mv.t.ext hE2 (fun b hb e => by have h8 := w.tF b hb; rw [e, w.tX] at h8; omega)
                    have hO2 := hO.ext hE2 (fun e => by omega)
                    try clear o0 o1 o2
                    obtain ⟨o0, o1, o2⟩ := oq (hO2)
                    try clear u0 u1 u2 u3 u4 u5 u6 u7 huok
                    obtain ⟨u0, u1, u2, u3, u4, u5, u6, u7, huok⟩ := uq (w1.dd.ext hE2 (fun e => nU e))
                    refine S_as rfl ?_
                    refine S_nil (hK24 _ _ (V_keep [0, 3, 5] (by simp only [proj, lk, reduceIte, Nat.reduceEqDiff]; rfl) ?_)); clear hK24
                    refine V_sr T.mix (by kernel_rfl) (fun K25 hK25 => ?_)
                    refine S_mv rfl ?_
                    refine S_nc rfl ?_
                    first | refine S_fa0 T.f48_2 rfl ?_ | refine S_fa T.f48_2 rfl ?_
                    first | refine S_fa0 T.f46_0 rfl ?_ | refine S_fa T.f46_0 rfl ?_
                    refine S_ldK T.ag43 rfl (fun K' hK' => ?_)
                    simp (disch := omega) only [u0, u1, u2, u3, u4, u5, u6, u7, o0, o1, o2, oP_some, Nat.add_zero]
                    refine hK' _ ?_; clear hK' K'
                    first | refine S_fa0 T.f32_1 rfl ?_ | refine S_fa T.f32_1 rfl ?_
                    refine S_ldK T.ag3 rfl (fun K' hK' => ?_)
                    simp (disch := omega) only [u0, u1, u2, u3, u4, u5, u6, u7, o0, o1, o2, oP_some, Nat.add_zero]
                    refine hK' _ ?_; clear hK' K'
                    refine S_call T.hb35 rfl ?_
                    refine FC.mono (mdecide_spec h2 A.Y u.F u.s ms2 oa) ?_
                    rintro v' h3 ⟨rfl, F3, hm3, hx3⟩
                    obtain ⟨tg3, w3, hkp3⟩ := w1.trl hr2 hE2 hm3 hx3 (wi_dec w.wx.i hcc oa) (by omega)
                    refine S_as rfl ?_
                    refine S_nil (hK25 _ _ (V_keep [5, 6] (by simp only [proj, lk, reduceIte, Nat.reduceEqDiff]; rfl) ?_)); clear hK25
                    refine V_sr T.mix (by kernel_rfl) (fun K26 hK26 => ?_)
                    refine S_mv rfl ?_
                    refine S_mv rfl ?_
                    refine S_bin rfl rfl rfl ?_
                    refine S_as rfl ?_
                    refine S_nil (hK26 _ _ (V_keep [4] (by simp only [proj, lk, reduceIte, Nat.reduceEqDiff]; rfl) ?_)); clear hK26
                    refine V_ret ?_
                    refine hR _ _ (ret1 rfl rfl ?_)
                    exact ⟨by simp, tg3, _, w3, PlayR.mv rfl (.inr (.inl c449)), hkp1.trans hkp3⟩
                  · skip
                    refine V_sr T.mix (by kernel_rfl) (fun K27 hK27 => ?_)
                    refine S_bin rfl rfl rfl ?_
                    refine S_as rfl ?_
                    refine S_nil (hK27 _ _ (V_keep [0, 3, 12, 96] (by simp only [proj, lk, reduceIte, Nat.reduceEqDiff]; rfl) ?_)); clear hK27
                    refine V_condp rfl (fun c453 => ?_) (fun c453 => ?_)
                    · skip
                      refine V_sr T.mix (by kernel_rfl) (fun K28 hK28 => ?_)
                      refine S_mv rfl ?_
                      refine S_nc rfl ?_
                      first | refine S_fa0 T.f48_0 rfl ?_ | refine S_fa T.f48_0 rfl ?_
                      first | refine S_fa0 T.f41_0 rfl ?_ | refine S_fa T.f41_0 rfl ?_
                      refine S_ldK T.ag39 rfl (fun K' hK' => ?_)
                      simp (disch := omega) only [u0, u1, u2, u3, u4, u5, u6, u7, o0, o1, o2, oP_some, Nat.add_zero]
                      refine hK' _ ?_; clear hK' K'
                      first | refine S_fa0 T.f32_1 rfl ?_ | refine S_fa T.f32_1 rfl ?_
                      refine S_ldK T.ag3 rfl (fun K' hK' => ?_)
                      simp (disch := omega) only [u0, u1, u2, u3, u4, u5, u6, u7, o0, o1, o2, oP_some, Nat.add_zero]
                      refine hK' _ ?_; clear hK' K'
                      refine S_call T.hb36 rfl ?_
                      refine FC.mono (backjump_spec h1 A.X u.s u.p w1.wx.t oa (by omega)) ?_
                      rintro v' h2 ⟨rfl, hr2, hE2⟩
                      have nU : A.U ≠ A.X := fun e => by have h8 := w.tU; rw [e, w.tX] at h8; omega
                      have ms2 := w1.mv.t.ext hE2 (fun b hb e => by have h8 := w.tF b hb; rw [e, w.tX] at h8; omega)
                      have hO2 := hO.ext hE2 (fun e => by omega)
                      try clear o0 o1 o2
                      obtain ⟨o0, o1, o2⟩ := oq (hO2)
                      try clear u0 u1 u2 u3 u4 u5 u6 u7 huok
                      obtain ⟨u0, u1, u2, u3, u4, u5, u6, u7, huok⟩ := uq (w1.dd.ext hE2 (fun e => nU e))
                      refine S_as rfl ?_
                      refine S_nil (hK28 _ _ (V_keep [0, 3, 7] (by simp only [proj, lk, reduceIte, Nat.reduceEqDiff]; rfl) ?_)); clear hK28
                      refine V_sr T.mix (by kernel_rfl) (fun K29 hK29 => ?_)
                      refine S_mv rfl ?_
                      refine S_nc rfl ?_
                      first | refine S_fa0 T.f48_2 rfl ?_ | refine S_fa T.f48_2 rfl ?_
                      first | refine S_fa0 T.f46_0 rfl ?_ | refine S_fa T.f46_0 rfl ?_
                      refine S_ldK T.ag43 rfl (fun K' hK' => ?_)
                      simp (disch := omega) only [u0, u1, u2, u3, u4, u5, u6, u7, o0, o1, o2, oP_some, Nat.add_zero]
                      refine hK' _ ?_; clear hK' K'
                      first | refine S_fa0 T.f32_1 rfl ?_ | refine S_fa T.f32_1 rfl ?_
                      refine S_ldK T.ag3 rfl (fun K' hK' => ?_)
                      simp (disch := omega) only [u0, u1, u2, u3, u4, u5, u6, u7, o0, o1, o2, oP_some, Nat.add_zero]
                      refine hK' _ ?_; clear hK' K'
                      refine S_call T.hb37 rfl ?_
                      refine FC.mono (mbackjump_spec h2 A.Y u.F u.s ms2 oa) ?_
                      rintro v' h3 ⟨rfl, F3, hm3, hx3⟩
                      obtain ⟨tg3, w3, hkp3⟩ := w1.trl hr2 hE2 hm3 hx3 (wi_bj w.wx.i oa) (by omega)
                      refine S_as rfl ?_
                      refine S_nil (hK29 _ _ (V_keep [7, 8] (by simp only [proj, lk, reduceIte, Nat.reduceEqDiff]; rfl) ?_)); clear hK29
                      refine V_sr T.mix (by kernel_rfl) (fun K30 hK30 => ?_)
                      refine S_mv rfl ?_
                      refine S_mv rfl ?_
                      refine S_bin rfl rfl rfl ?_
                      refine S_as rfl ?_
                      refine S_nil (hK30 _ _ (V_keep [4] (by simp only [proj, lk, reduceIte, Nat.reduceEqDiff]; rfl) ?_)); clear hK30
                      refine V_ret ?_
                      refine hR _ _ (ret1 rfl rfl ?_)
                      exact ⟨by simp, tg3, _, w3, PlayR.mv rfl (.inr (.inr (.inl c453))), hkp1.trans hkp3⟩
                    · skip
                      refine V_sr T.mix (by kernel_rfl) (fun K31 hK31 => ?_)
                      refine S_bin rfl rfl rfl ?_
                      refine S_as rfl ?_
                      refine S_nil (hK31 _ _ (V_keep [0, 3, 12, 117] (by simp only [proj, lk, reduceIte, Nat.reduceEqDiff]; rfl) ?_)); clear hK31
                      refine V_condp rfl (fun c457 => ?_) (fun c457 => ?_)
                      · skip
                        refine V_sr T.mix (by kernel_rfl) (fun K32 hK32 => ?_)
                        refine S_mv rfl ?_
                        refine S_nc rfl ?_
                        first | refine S_fa0 T.f48_0 rfl ?_ | refine S_fa T.f48_0 rfl ?_
                        first | refine S_fa0 T.f41_0 rfl ?_ | refine S_fa T.f41_0 rfl ?_
                        refine S_ldK T.ag39 rfl (fun K' hK' => ?_)
                        simp (disch := omega) only [u0, u1, u2, u3, u4, u5, u6, u7, o0, o1, o2, oP_some, Nat.add_zero]
                        refine hK' _ ?_; clear hK' K'
                        refine S_call T.hb38 rfl ?_
                        refine FC.mono (reset_spec h1 A.X u.s u.p w1.wx.t (by omega)) ?_
                        rintro v' h2 ⟨rfl, hr2, hE2⟩
                        have nU : A.U ≠ A.X := fun e => by have h8 := w.tU; rw [e, w.tX] at h8; omega
                        have ms2 := w1.mv.t.ext hE2 (fun b hb e => by have h8 := w.tF b hb; rw [e, w.tX] at h8; omega)
                        have hO2 := hO.ext hE2 (fun e => by omega)
                        try clear o0 o1 o2
                        obtain ⟨o0, o1, o2⟩ := oq (hO2)
                        try clear u0 u1 u2 u3 u4 u5 u6 u7 huok
                        obtain ⟨u0, u1, u2, u3, u4, u5, u6, u7, huok⟩ := uq (w1.dd.ext hE2 (fun e => nU e))
                        refine S_nil (hK32 _ _ (V_keep [0] (by simp only [proj, lk, reduceIte, Nat.reduceEqDiff]; rfl) ?_)); clear hK32
                        refine V_reg T.mix (by kernel_rfl) ?_
                        refine S_mv rfl ?_
                        refine S_nc rfl ?_
                        first | refine S_fa0 T.f48_2 rfl ?_ | refine S_fa T.f48_2 rfl ?_
                        first | refine S_fa0 T.f46_0 rfl ?_ | refine S_fa T.f46_0 rfl ?_
                        refine S_ldK T.ag43 rfl (fun K' hK' => ?_)
                        simp (disch := omega) only [u0, u1, u2, u3, u4, u5, u6, u7, o0, o1, o2, oP_some, Nat.add_zero]
                        refine hK' _ ?_; clear hK' K'
                        refine S_call T.hb39 rfl ?_
                        refine FC.mono (mreset_spec h2 A.Y u.F u.s ms2) ?_
                        rintro v' h3 ⟨rfl, F3, hm3, hx3⟩
                        obtain ⟨tg3, w3, hkp3⟩ := w1.trl hr2 hE2 hm3 hx3 (wi_nil w.wx.i) (by omega)
                        refine S_nilk [] (by simp only [proj, lk, reduceIte, Nat.reduceEqDiff]; rfl) ?_
                        refine hK2 _ _ ?_; clear hK2
                        refine V_sr T.mix (by kernel_rfl) (fun K33 hK33 => ?_)
                        refine S_as rfl ?_
                        refine S_nil (hK33 _ _ (V_keep [4] (by simp only [proj, lk, reduceIte, Nat.reduceEqDiff]; rfl) ?_)); clear hK33
                        refine V_ret ?_
                        refine hR _ _ (ret1 rfl rfl ?_)
                        exact ⟨rfl, tg3, _, w3, PlayR.mv rfl (.inr (.inr (.inr (.inl c457)))), hkp1.trans hkp3⟩
                      · skip
                        refine V_sr T.mix (by kernel_rfl) (fun K34 hK34 => ?_)
                        refine S_bin rfl rfl rfl ?_
                        refine S_as rfl ?_
                        refine S_nil (hK34 _ _ (V_keep [0, 3, 12, 131] (by simp only [proj, lk, reduceIte, Nat.reduceEqDiff]; rfl) ?_)); clear hK34
                        refine V_condp rfl (fun c460 => ?_) (fun c460 => ?_)
                        · skip
                          refine V_sr T.mix (by kernel_rfl) (fun K35 hK35 => ?_)
                          refine S_mv rfl ?_
                          refine S_nc rfl ?_
                          first | refine S_fa0 T.f48_0 rfl ?_ | refine S_fa T.f48_0 rfl ?_
                          first | refine S_fa0 T.f41_0 rfl ?_ | refine S_fa T.f41_0 rfl ?_
                          refine S_ldK T.ag39 rfl (fun K' hK' => ?_)
                          simp (disch := omega) only [u0, u1, u2, u3, u4, u5, u6, u7, o0, o1, o2, oP_some, Nat.add_zero]
                          refine hK' _ ?_; clear hK' K'
                          first | refine S_fa0 T.f32_1 rfl ?_ | refine S_fa T.f32_1 rfl ?_
                          refine S_ldK T.ag3 rfl (fun K' hK' => ?_)
                          simp (disch := omega) only [u0, u1, u2, u3, u4, u5, u6, u7, o0, o1, o2, oP_some, Nat.add_zero]
                          refine hK' _ ?_; clear hK' K'
                          first | refine S_fa0 T.f32_2 rfl ?_ | refine S_fa T.f32_2 rfl ?_
                          refine S_ldK T.ag3 rfl (fun K' hK' => ?_)
                          simp (disch := omega) only [u0, u1, u2, u3, u4, u5, u6, u7, o0, o1, o2, oP_some, Nat.add_zero]
                          refine hK' _ ?_; clear hK' K'
                          refine S_call T.hb40 rfl ?_
                          refine FC.mono (assign_spec h1 A.X u.s u.p w1.wx.t oa ob) ?_
                          rintro v' h2 ⟨rfl, hr2, hE2⟩
                          have nU : A.U ≠ A.X := fun e => by have h8 := w.tU; rw [e, w.tX] at h8; omega
                          have ms2 := w1.mv.t.ext hE2 (fun b hb e => by have h8 := w.tF b hb; rw [e, w.tX] at h8; omega)
                          have hO2 := hO.ext hE2 (fun e => by omega)
                          try clear o0 o1 o2
                          obtain ⟨o0, o1, o2⟩ := oq (hO2)
                          try clear u0 u1 u2 u3 u4 u5 u6 u7 huok
                          obtain ⟨u0, u1, u2, u3, u4, u5, u6, u7, huok⟩ := uq (w1.dd.ext hE2 (fun e => nU e))
                          refine S_as rfl ?_
                          refine S_nil (hK35 _ _ (V_keep [0, 3, 9] (by simp only [proj, lk, reduceIte, Nat.reduceEqDiff]; rfl) ?_)); clear hK35
                          refine V_sr T.mix (by kernel_rfl) (fun K36 hK36 => ?_)
                          refine S_mv rfl ?_
                          refine S_nc rfl ?_
                          first | refine S_fa0 T.f48_2 rfl ?_ | refine S_fa T.f48_2 rfl ?_
                          first | refine S_fa0 T.f46_0 rfl ?_ | refine S_fa T.f46_0 rfl ?_
                          refine S_ldK T.ag43 rfl (fun K' hK' => ?_)
                          simp (disch := omega) only [u0, u1, u2, u3, u4, u5, u6, u7, o0, o1, o2, oP_some, Nat.add_zero]
                          refine hK' _ ?_; clear hK' K'
                          first | refine S_fa0 T.f32_1 rfl ?_ | refine S_fa T.f32_1 rfl ?_
                          refine S_ldK T.ag3 rfl (fun K' hK' => ?_)
                          simp (disch := omega) only [u0, u1, u2, u3, u4, u5, u6, u7, o0, o1, o2, oP_some, Nat.add_zero]
                          refine hK' _ ?_; clear hK' K'
                          first | refine S_fa0 T.f32_2 rfl ?_ | refine S_fa T.f32_2 rfl ?_
                          refine S_ldK T.ag3 rfl (fun K' hK' => ?_)
                          simp (disch := omega) only [u0, u1, u2, u3, u4, u5, u6, u7, o0, o1, o2, oP_some, Nat.add_zero]
                          refine hK' _ ?_; clear hK' K'
                          refine S_call T.hb41 rfl ?_
                          refine FC.mono (massign_spec h2 A.Y u.F u.s ms2 oa ob) ?_
                          rintro v' h3 ⟨rfl, F3, hm3, hx3⟩
                          obtain ⟨tg3, w3, hkp3⟩ := w1.trl hr2 hE2 hm3 hx3 (wi_asg w.wx.i hcc oa ob) (by omega)
                          refine S_as rfl ?_
                          refine S_nil (hK36 _ _ (V_keep [9, 10] (by simp only [proj, lk, reduceIte, Nat.reduceEqDiff]; rfl) ?_)); clear hK36
                          refine V_sr T.mix (by kernel_rfl) (fun K37 hK37 => ?_)
                          refine S_mv rfl ?_
                          refine S_mv rfl ?_
                          refine S_bin rfl rfl rfl ?_
                          refine S_as rfl ?_
                          refine S_nil (hK37 _ _ (V_keep [4] (by simp only [proj, lk, reduceIte, Nat.reduceEqDiff]; rfl) ?_)); clear hK37
                          refine V_ret ?_
                          refine hR _ _ (ret1 rfl rfl ?_)
                          exact ⟨by simp, tg3, _, w3, PlayR.mv rfl (.inr (.inr (.inr (.inr c460)))), hkp1.trans hkp3⟩
                        · skip
                          refine V_sr T.mix (by kernel_rfl) (fun K38 hK38 => ?_)
                          refine S_bin rfl rfl rfl ?_
                          refine S_as rfl ?_
                          refine S_nil (hK38 _ _ (V_keep [0, 156] (by simp only [proj, lk, reduceIte, Nat.reduceEqDiff]; rfl) ?_)); clear hK38
                          refine V_condp rfl (fun c464 => ?_) (fun c464 => ?_)
                          · skip
                            refine V_sr T.mix (by kernel_rfl) (fun K39 hK39 => ?_)
                            refine S_mv rfl ?_
                            refine S_nc rfl ?_
                            first | refine S_fa0 T.f48_1 rfl ?_ | refine S_fa T.f48_1 rfl ?_
                            refine S_ldK T.ag42 rfl (fun K' hK' => ?_)
                            simp (disch := omega) only [u0, u1, u2, u3, u4, u5, u6, u7, o0, o1, o2, oP_some, Nat.add_zero]
                            refine hK' _ ?_; clear hK' K'
                            refine S_call T.hb26 rfl ?_
                            refine FC.mono (wcheck_spec h1 A.C A.X u.W u.cl u.s u.p w1.wx) ?_
                            rintro v' h' ⟨rfl, rfl⟩
                            refine S_as rfl ?_
                            refine S_nil (hK39 _ _ (V_keep [4] (by simp only [proj, lk, reduceIte, Nat.reduceEqDiff]; rfl) ?_)); clear hK39
                            refine V_ret ?_
                            refine hR _ _ (ret1 rfl rfl ?_)
                            exact ⟨rfl, tg, u, w1.up (by omega), PlayR.row rfl rfl (by omega), hkp1⟩
                          · skip
                            refine V_skipk [] (by simp only [proj, lk, reduceIte, Nat.reduceEqDiff]; rfl) ?_
                            refine hK2 _ _ ?_; clear hK2
                            refine V_sr T.mix (by kernel_rfl) (fun K40 hK40 => ?_)
                            refine S_as rfl ?_
                            refine S_nil (hK40 _ _ (V_keep [4] (by simp only [proj, lk, reduceIte, Nat.reduceEqDiff]; rfl) ?_)); clear hK40
                            refine V_ret ?_
                            refine hR _ _ (ret1 rfl rfl ?_)
                            exact ⟨rfl, tg, u, w1.up (by omega), PlayR.row rfl rfl (by omega), hkp1⟩
set_option maxHeartbeats 400000 in
theorem ground_spec (h : Heap) :
    FC Tryz.prog 21 (#[] : Array Value) h fun v h' => ∃ X, v = .agg #[.pointer (some ⟨X, 0, none⟩)] ∧ RS h' X ⟨[], 0, 0⟩ 0 ∧ h.size ≤ X ∧ Ext (fun _ => False) h h' := by
  refine FC_of [] Tryz.func21 rfl Tryz.ntmps21 (by simp) rfl (fun R hR => ?_)
  refine V_sr T.mix (by kernel_rfl) (fun K1 hK1 => ?_)
  refine S_allocA T.z41 ?_
  generalize hh : Array.push h _ = h1
  have hR0 : B h1 h.size #[.pointer none] 41 := by rw [← hh]; exact B.new _ _ _
  have hEh1 : Ext (fun _ => False) h h1 := by rw [← hh]; exact Ext.push _ _ _
  have hsh1 : h1.size = h.size + 1 := by rw [← hh]; simp
  clear hh
  refine S_nil (hK1 _ _ (V_keep [0] (by simp only [proj, lk, reduceIte, Nat.reduceEqDiff]; rfl) ?_)); clear hK1
  refine V_sr T.mix (by kernel_rfl) (fun K2 hK2 => ?_)
  refine S_call T.hb62 rfl ?_
  refine FC.mono (new_spec h1) ?_
  rintro v' h2 ⟨rfl, hrs, hE2⟩
  have hR2 := hR0.ext hE2 (fun f => f)
  have hokR : ∀ j, j < 1 → okPut h2 ⟨h.size, j, none⟩ = true := fun j hj => hR2.ok (by simpa using hj)
  refine S_bld rfl (T.bld41_0 _) ?_
  refine S_stl T.sz41 rfl rfl rfl rfl (fun j hj => by simp (disch := omega) only [hokR]) ?_
  generalize hh : putsH _ _ _ _ = h3
  have hR3 : B h3 (h.size) #[.pointer (some ⟨h1.size, 0, none⟩)] 41 := by rw [← hh]; exact B.puts_all (hR2) (cs' := #[.pointer (some ⟨h1.size, 0, none⟩)]) rfl
  have hEh3 : Ext (fun k => k = h.size) h2 h3 := by rw [← hh]; exact Ext.puts (S := fun k => k = h.size) rfl _ _ _
  clear hh
  refine S_nil (hK2 _ _ (V_keep [0] (by simp only [proj, lk, reduceIte, Nat.reduceEqDiff]; rfl) ?_)); clear hK2
  refine V_ret ?_
  refine hR _ _ (retc1 rfl rfl T.ag41 hR3 (by rfl) ?_)
  exact ⟨h1.size, rfl, hrs.ext hEh3 (fun e => by omega), by omega, (hEh1.trans hE2).step hEh3 (fun b hb e => by omega)⟩
set_option maxHeartbeats 400000 in
theorem modelside_spec (h : Heap) :
    FC Tryz.prog 23 (#[] : Array Value) h fun v h' => ∃ Y M, v = .agg #[.pointer (some ⟨Y, 0, none⟩), .pointer (some ⟨M, 0, none⟩)] ∧ MS h' Y (fun b => b = Y) ⟨[], 0, 0⟩ ∧ MB h' M Y ⟨fun _ => false, fun _ => none, fun _ => 0, fun _ => false, 0⟩ ∧ h.size ≤ Y ∧ Y < M ∧ Ext (fun _ => False) h h' := by
  refine FC_of [] Tryz.func23 rfl Tryz.ntmps23 (by simp) rfl (fun R hR => ?_)
  refine V_sr T.mix (by kernel_rfl) (fun K1 hK1 => ?_)
  refine S_allocA T.z46 ?_
  generalize hh : Array.push h _ = h1
  have hR0 : B h1 h.size #[.pointer none, .pointer none] 46 := by rw [← hh]; exact B.new _ _ _
  have hEh1 : Ext (fun _ => False) h h1 := by rw [← hh]; exact Ext.push _ _ _
  have hsh1 : h1.size = h.size + 1 := by rw [← hh]; simp
  clear hh
  refine S_nil (hK1 _ _ (V_keep [0] (by simp only [proj, lk, reduceIte, Nat.reduceEqDiff]; rfl) ?_)); clear hK1
  refine V_sr T.mix (by kernel_rfl) (fun K2 hK2 => ?_)
  refine S_call T.hb63 rfl ?_
  refine FC.mono (mnew_spec h1) ?_
  rintro v' h2 ⟨rfl, hms, hE2⟩
  have hYl := hms.lt rfl
  refine S_as rfl ?_
  refine S_nil (hK2 _ _ (V_keep [0, 1] (by simp only [proj, lk, reduceIte, Nat.reduceEqDiff]; rfl) ?_)); clear hK2
  refine V_sr T.mix (by kernel_rfl) (fun K3 hK3 => ?_)
  refine S_mv rfl ?_
  refine S_mv rfl ?_
  refine S_call T.hb64 rfl ?_
  refine FC.mono (mwnew_spec h2 h1.size) ?_
  rintro v' h3 ⟨rfl, hmb, hE3⟩
  have hR3 := (hR0.ext hE2 (fun f => f)).ext hE3 (fun f => f)
  have hokR : ∀ j, j < 2 → okPut h3 ⟨h.size, j, none⟩ = true := fun j hj => hR3.ok (by simpa using hj)
  refine S_bld rfl (T.bld46_0_1 _ _) ?_
  refine S_stl T.sz46 rfl rfl rfl rfl (fun j hj => by simp (disch := omega) only [hokR]) ?_
  generalize hh : putsH _ _ _ _ = h4
  have hR4 : B h4 (h.size) #[.pointer (some ⟨h1.size, 0, none⟩), .pointer (some ⟨h2.size, 0, none⟩)] 46 := by rw [← hh]; exact B.puts_all (hR3) (cs' := #[.pointer (some ⟨h1.size, 0, none⟩), .pointer (some ⟨h2.size, 0, none⟩)]) rfl
  have hEh4 : Ext (fun k => k = h.size) h3 h4 := by rw [← hh]; exact Ext.puts (S := fun k => k = h.size) rfl _ _ _
  clear hh
  refine S_nil (hK3 _ _ (V_keep [0] (by simp only [proj, lk, reduceIte, Nat.reduceEqDiff]; rfl) ?_)); clear hK3
  refine V_ret ?_
  refine hR _ _ (retc1 rfl rfl T.ag46 hR4 (by rfl) ?_)
  exact ⟨h1.size, h2.size, rfl, (hms.ext hE3 (fun _ _ f => f)).ext hEh4 (fun b e z => by omega), hmb.ext hEh4 (fun e => by omega), by omega, hYl, ((hEh1.trans hE2).trans hE3).step hEh4 (fun b hb e => by omega)⟩
set_option maxHeartbeats 1600000 in
theorem newworld_spec (h : Heap) :
    FC Tryz.prog 9 (#[] : Array Value) h fun v h' => ∃ (A : UA) (tg : Nat → Nat) (u : US), v = .pointer (some ⟨A.U, 0, none⟩) ∧ A.base = h.size ∧ UI h' tg A u 0 ∧ u.cl = (fun _ => none) ∧ u.s = ⟨[], 0, 0⟩ ∧ u.rg = [] ∧ Ext (fun _ => False) h h' := by
  refine FC_of [] Tryz.func9 rfl Tryz.ntmps9 (by simp) rfl (fun R hR => ?_)
  refine V_sr T.mix (by kernel_rfl) (fun K1 hK1 => ?_)
  refine S_as rfl ?_
  refine S_nil (hK1 _ _ (V_keep [] (by simp only [proj, lk, reduceIte, Nat.reduceEqDiff]; rfl) ?_)); clear hK1
  refine V_sr T.mix (by kernel_rfl) (fun K2 hK2 => ?_)
  refine S_bld rfl (T.bld48) ?_
  refine S_boxA rfl ?_
  generalize hh : Array.push h _ = h1
  have hU1 : B h1 h.size #[.pointer none, .pointer none, .pointer none, .pointer none, .slice none 0 0, .slice none 0 0, .int .i64 0, .bool false] 48 := by rw [← hh]; exact B.new _ _ _
  have hEh1 : Ext (fun _ => False) h h1 := by rw [← hh]; exact Ext.push _ _ _
  have hsh1 : h1.size = h.size + 1 := by rw [← hh]; simp
  clear hh
  refine S_as rfl ?_
  refine S_nil (hK2 _ _ (V_keep [1] (by simp only [proj, lk, reduceIte, Nat.reduceEqDiff]; rfl) ?_)); clear hK2
  refine V_sr T.mix (by kernel_rfl) (fun K3 hK3 => ?_)
  refine S_mv rfl ?_
  refine S_call T.hb21 rfl ?_
  refine FC.mono (ground_spec h1) ?_
  rintro v' h2 ⟨X, rfl, hrs, hX, hE2⟩
  have hU2 := hU1.ext hE2 (fun f => f)
  have hXl := hrs.lt
  have hokU : ∀ j, j < 8 → okPut h2 ⟨h.size, j, none⟩ = true := fun j hj => (hU2).ok (by simpa using hj)
  refine S_nc rfl ?_
  first | refine S_fa0 T.f48_0 rfl ?_ | refine S_fa T.f48_0 rfl ?_
  refine S_stl T.sz41 rfl rfl rfl rfl (fun j hj => by simp (disch := omega) only [hokU]) ?_
  generalize hh : putsH _ _ _ _ = h3
  have hU3 : B h3 h.size #[.pointer (some ⟨X, 0, none⟩), .pointer none, .pointer none, .pointer none, .slice none 0 0, .slice none 0 0, .int .i64 0, .bool false] 48 := by rw [← hh]; exact (hU2).put 0 _
  have hEh3 : Ext (fun x => x = h.size) h2 h3 := by rw [← hh]; exact Ext.puts (S := fun x => x = h.size) rfl _ _ _
  clear hh
  try clear hokU
  have n0 : cellH h3 ⟨h.size, 0, none⟩ = some (.pointer (some ⟨X, 0, none⟩)) := hU3.cell 0
  have hs3 := hEh3.1
  refine S_nil (hK3 _ _ (V_keep [1] (by simp only [proj, lk, reduceIte, Nat.reduceEqDiff]; rfl) ?_)); clear hK3
  refine V_sr T.mix (by kernel_rfl) (fun K4 hK4 => ?_)
  refine S_mv rfl ?_
  refine S_mv rfl ?_
  refine S_nc rfl ?_
  first | refine S_fa0 T.f48_0 rfl ?_ | refine S_fa T.f48_0 rfl ?_
  first | refine S_fa0 T.f41_0 rfl ?_ | refine S_fa T.f41_0 rfl ?_
  refine S_ldK T.ag39 rfl (fun K' hK' => ?_)
  simp (disch := omega) only [n0, oP_some, Nat.add_zero]
  refine hK' _ ?_; clear hK' K'
  refine S_call T.hb22 rfl ?_
  refine FC.mono (wnew_spec h3 X) ?_
  rintro v' h4 ⟨rfl, hwb, hE4⟩
  have hU4 := hU3.ext hE4 (fun f => f)
  have hCl := hwb.lt
  try clear hokU
  have hokU : ∀ j, j < 8 → okPut h4 ⟨h.size, j, none⟩ = true := fun j hj => (hU4).ok (by simpa using hj)
  refine S_nc rfl ?_
  first | refine S_fa0 T.f48_1 rfl ?_ | refine S_fa T.f48_1 rfl ?_
  refine S_st T.sz42 rfl rfl rfl rfl (by simp (disch := omega) only [hokU]) ?_
  generalize hh : putH _ _ _ = h5
  have hU5 : B h5 h.size #[.pointer (some ⟨X, 0, none⟩), .pointer (some ⟨h3.size, 0, none⟩), .pointer none, .pointer none, .slice none 0 0, .slice none 0 0, .int .i64 0, .bool false] 48 := by rw [← hh]; exact (hU4).put 1 _
  have hEh5 : Ext (fun x => x = h.size) h4 h5 := by rw [← hh]; exact Ext.put _ _ rfl
  clear hh
  have hs5 := hEh5.1
  refine S_nil (hK4 _ _ (V_keep [1] (by simp only [proj, lk, reduceIte, Nat.reduceEqDiff]; rfl) ?_)); clear hK4
  refine V_sr T.mix (by kernel_rfl) (fun K5 hK5 => ?_)
  refine S_mv rfl ?_
  refine S_call T.hb23 rfl ?_
  refine FC.mono (modelside_spec h5) ?_
  rintro v' h6 ⟨Y, M, rfl, hms, hmb, hY, hYM, hE6⟩
  have hU6 := hU5.ext hE6 (fun f => f)
  have hMl := hmb.lt
  try clear hokU
  have hokU : ∀ j, j < 8 → okPut h6 ⟨h.size, j, none⟩ = true := fun j hj => (hU6).ok (by simpa using hj)
  refine S_nc rfl ?_
  first | refine S_fa0 T.f48_2 rfl ?_ | refine S_fa T.f48_2 rfl ?_
  refine S_stl T.sz46 rfl rfl rfl rfl (fun j hj => by simp (disch := omega) only [hokU]) ?_
  generalize hh : putsH _ _ _ _ = h7
  have hU7 : B h7 h.size #[.pointer (some ⟨X, 0, none⟩), .pointer (some ⟨h3.size, 0, none⟩), .pointer (some ⟨Y, 0, none⟩), .pointer (some ⟨M, 0, none⟩), .slice none 0 0, .slice none 0 0, .int .i64 0, .bool false] 48 := by rw [← hh]; exact ((hU6).put 2 _).put 3 _
  have hEh7 : Ext (fun x => x = h.size) h6 h7 := by rw [← hh]; exact Ext.puts (S := fun x => x = h.size) rfl _ _ _
  clear hh
  try clear hokU
  have hokU : ∀ j, j < 8 → okPut h7 ⟨h.size, j, none⟩ = true := fun j hj => (hU7).ok (by simpa using hj)
  refine S_nil (hK5 _ _ (V_keep [1] (by simp only [proj, lk, reduceIte, Nat.reduceEqDiff]; rfl) ?_)); clear hK5
  refine V_sr T.mix (by kernel_rfl) (fun K6 hK6 => ?_)
  refine S_mv rfl ?_
  refine S_nc rfl ?_
  first | refine S_fa0 T.f48_6 rfl ?_ | refine S_fa T.f48_6 rfl ?_
  refine S_st T.sz4 rfl rfl rfl rfl (by simp (disch := omega) only [hokU]) ?_
  generalize hh : putH _ _ _ = h8
  have hU8 : B h8 h.size #[.pointer (some ⟨X, 0, none⟩), .pointer (some ⟨h3.size, 0, none⟩), .pointer (some ⟨Y, 0, none⟩), .pointer (some ⟨M, 0, none⟩), .slice none 0 0, .slice none 0 0, .int .i64 0, .bool true] 48 := by rw [← hh]; exact (hU7).put 7 _
  have hEh8 : Ext (fun x => x = h.size) h7 h8 := by rw [← hh]; exact Ext.put _ _ rfl
  clear hh
  refine S_nil (hK6 _ _ (V_keep [1] (by simp only [proj, lk, reduceIte, Nat.reduceEqDiff]; rfl) ?_)); clear hK6
  refine V_sr T.mix (by kernel_rfl) (fun K7 hK7 => ?_)
  refine S_mv rfl ?_
  refine S_as rfl ?_
  refine S_nil (hK7 _ _ (V_keep [0] (by simp only [proj, lk, reduceIte, Nat.reduceEqDiff]; rfl) ?_)); clear hK7
  refine V_ret ?_
  refine hR _ _ (ret1 rfl rfl ?_)
  have hs2 := hE2.1
  have hs4 := hE4.1
  have hs6 := hE6.1
  have hs7 := hEh7.1
  have hs8 := hEh8.1
  have hE78 := hEh7.trans hEh8
  have hrs8 := (((((hrs.ext hEh3 (fun e => by omega)).ext hE4 (fun f => f)).ext hEh5 (fun e => by omega)).ext hE6 (fun f => f)).ext hE78 (fun e => by omega))
  have hwb8 := ((hwb.ext hEh5 (fun e => by omega)).ext hE6 (fun f => f)).ext hE78 (fun e => by omega)
  have hms8 := hms.ext hE78 (fun b e z => by omega)
  have hmb8 := hmb.ext hE78 (fun e => by omega)
  obtain ⟨tg, t1, t2, t3, t4, t5, t0⟩ : ∃ tg : Nat → Nat, tg h.size = 1 ∧ tg h3.size = 2 ∧ tg X = 3 ∧ tg M = 4 ∧ tg Y = 5 ∧ ∀ b, b ≠ h.size → b ≠ h3.size → b ≠ X → b ≠ M → b ≠ Y → tg b = 0 := ⟨fun b => if b = h.size then 1 else if b = h3.size then 2 else if b = X then 3 else if b = M then 4 else if b = Y then 5 else 0, if_pos rfl, by simp only []; rw [if_neg (by omega), if_pos trivial], by simp only []; rw [if_neg (by omega), if_neg (by omega), if_pos trivial], by simp only []; rw [if_neg (by omega), if_neg (by omega), if_neg (by omega), if_pos trivial], by simp only []; rw [if_neg (by omega), if_neg (by omega), if_neg (by omega), if_neg (by omega), if_pos trivial], fun b e1 e2 e3 e4 e5 => by simp only []; rw [if_neg e1, if_neg e2, if_neg e3, if_neg e4, if_neg e5]⟩
  refine ⟨⟨h.size, h.size, h3.size, X, M, Y⟩, tg, ⟨⟨fun _ => 0, fun _ => 0, 0, 0, 0, fun _ => 0, 0⟩, ⟨fun _ => false, fun _ => none, fun _ => 0, fun _ => false, 0⟩, fun _ => none, ⟨[], 0, 0⟩, 0, fun _ => False, fun b => b = Y, none, 0, [], none, 0, [], 0, true⟩, rfl, rfl, ⟨hU8, ⟨hwb8, wi_zero rfl rfl rfl (fun _ _ => rfl) (fun _ _ => rfl) _ _, hrs8, by simp only []; omega⟩, ⟨hmb8, MR.zero (fun _ _ => rfl) (fun _ _ => ⟨rfl, rfl⟩) _, hms8, ⟨fun f => f, fun e => by simp only [] at e; omega⟩, fun b f => f.elim, fun b f => f.elim⟩, IL.nil _, by simp, OwnR.nil _ _ _ _, by simp, by simp, fun i hi e => by simp [dueW] at e, Nat.le_refl _, by simp, fun _ => rfl, Nat.le_refl _, t1, t2, t3, t4, fun b e => by rw [e]; exact t5, fun b f => f.elim, by simp [blkA], by simp [blkA], by simp, fun b hb => t0 b (by omega) (by omega) (by omega) (by omega) (by omega), fun b hb => t0 b (by simp only [] at hb; omega) (by simp only [] at hb; omega) (by simp only [] at hb; omega) (by simp only [] at hb; omega) (by simp only [] at hb; omega), by simp only []; omega⟩, rfl, rfl, rfl, ?_⟩
  exact ((((hEh1.trans hE2).step hEh3 (fun b hb e => by omega)).trans hE4).step hEh5 (fun b hb e => by omega)).trans hE6 |>.step hE78 (fun b hb e => by omega)
set_option maxHeartbeats 3200000 in
theorem walk_spec (h : Heap) (sa : Option Addr) (n cap : Nat) (q : Bool) (hs : Scr h.size h sa n) (hn : n ≤ 9223372036854775807) :
    FC Tryz.prog 7 (#[.slice sa n cap, .bool (decide (q = true))] : Array Value) h fun v h' => (∃ j : Int, v = .tuple #[.int .i64 (-1), .int .i64 j]) ∧ Ext (fun b => h.size ≤ b) h h' := by
  refine FC_of [(0, .slice sa n cap), (1, .bool (decide (q = true)))] Tryz.func7 rfl Tryz.ntmps7 (by simp) rfl (fun R hR => ?_)
  refine V_sr T.mix (by kernel_rfl) (fun K1 hK1 => ?_)
  refine S_as rfl ?_
  refine S_as rfl ?_
  refine S_nil (hK1 _ _ (V_keep [0, 1] (by simp only [proj, lk, reduceIte, Nat.reduceEqDiff]; rfl) ?_)); clear hK1
  refine V_sr T.mix (by kernel_rfl) (fun K2 hK2 => ?_)
  refine S_call T.hb9 rfl ?_
  refine FC.mono (newworld_spec h) ?_
  rintro v' h1 ⟨A, tg1, u1, rfl, hAb, w1, _, _, _, hE1⟩
  have hEs : Ext (fun b => h.size ≤ b) h h1 := hE1.mono fun _ f => f.elim
  refine S_as rfl ?_
  refine S_nil (hK2 _ _ (V_keep [0, 1, 6] (by simp only [proj, lk, reduceIte, Nat.reduceEqDiff]; rfl) ?_)); clear hK2
  refine V_seqJ (fun l h' => ∃ (h3 : Heap) (tg3 : Nat → Nat) (u3 : US), (UI h3 tg3 A u3 0) ∧ (Ext (fun b => h.size ≤ b) h h3) ∧ l = [(0, .slice sa n cap), (1, .bool (decide (q = true))), (6, .pointer (some ⟨A.U, 0, none⟩))] ∧ h3 = h') ?_ ?_
  · skip
    refine V_sr T.mix (by kernel_rfl) (fun K4 hK4 => ?_)
    refine S_mv rfl ?_
    refine S_not rfl ?_
    refine S_nil (hK4 _ _ (V_keep [0, 1, 6, 11] (by simp only [proj, lk, reduceIte, Nat.reduceEqDiff]; rfl) ?_)); clear hK4
    refine V_condp rfl (fun c474 => ?_) (fun c474 => ?_)
    · skip
      refine V_sr T.mix (by kernel_rfl) (fun K5 hK5 => ?_)
      refine S_mv rfl ?_
      refine S_call T.hb10 rfl ?_
      refine FC.mono (alike_spec h1 tg1 A u1 (0) w1) ?_
      rintro v' h2 ⟨rfl, tg2, u2, w2, hobh2, hkph2⟩
      refine S_notb rfl ?_
      refine S_nil (hK5 _ _ (V_keep [0, 1, 6, 14] (by simp only [proj, lk, reduceIte, Nat.reduceEqDiff]; rfl) ?_)); clear hK5
      refine V_condb rfl (fun c475 => ?_) (fun c475 => ?_)
      · skip
        cases c475
      · skip
        refine V_skipk [0, 1, 6] (by simp only [proj, lk, reduceIte, Nat.reduceEqDiff]; rfl) ?_
        exact ⟨h2, tg2, u2, w2, hEs.trans (by have h9 := w1.low hkph2; rw [hAb] at h9; exact h9), rfl, rfl⟩
    · skip
      refine V_skipk [0, 1, 6] (by simp only [proj, lk, reduceIte, Nat.reduceEqDiff]; rfl) ?_
      exact ⟨h1, tg1, u1, w1, hEs, rfl, rfl⟩
  rintro l h' ⟨h3, tg3, u3, w3, hE3s, rfl, rfl⟩
  refine V_seq (fun K6 hK6 => ?_)
  refine V_sr T.mix (by kernel_rfl) (fun K7 hK7 => ?_)
  refine S_as rfl ?_
  refine S_nil (hK7 _ _ (V_keep [0, 1, 6, 7] (by simp only [proj, lk, reduceIte, Nat.reduceEqDiff]; rfl) ?_)); clear hK7
  refine V_block ?_
  refine V_loop (fun m l h' => ∃ (i : Nat) (hk : Heap) (tgk : Nat → Nat) (uk : US), (i ≤ n) ∧ (i ≤ 4398046511104) ∧ (UI hk tgk A uk (12 * i)) ∧ (Ext (fun b => h.size ≤ b) h hk) ∧ m = n - i ∧ l = [(0, .slice sa n cap), (1, .bool (decide (q = true))), (6, .pointer (some ⟨A.U, 0, none⟩)), (7, .int .i64 i)] ∧ hk = h') _ ⟨0, h3, tg3, u3, by omega, by omega, w3, hE3s, rfl, rfl, rfl⟩ ?_
  rintro m l h' ⟨i, hk, tgk, uk, hi, hi2, w, hE, rfl, rfl, rfl⟩ K8 hK8
  refine V_seq (fun K9 hK9 => ?_)
  refine V_sr T.mix (by kernel_rfl) (fun K10 hK10 => ?_)
  refine S_cut (K' := fun l h' => ∃ b : Bool, (b = true ↔ (i < n ∧ i < 4398046511104)) ∧ l = [(0, .slice sa n cap), (1, .bool (decide (q = true))), (6, .pointer (some ⟨A.U, 0, none⟩)), (7, .int .i64 i), (22, .bool b)] ∧ hk = h') ?_ ?_
  · skip
    refine S_mv rfl ?_
    refine S_mv rfl ?_
    refine S_lenl T.el22 rfl ?_
    refine S_bin rfl rfl rfl ?_
    refine S_mv rfl ?_
    refine S_dec (fun g479 => ?_) (fun g479 => ?_)
    · skip
      refine S_gt rfl ?_
      refine S_mv rfl ?_
      refine S_gt rfl ?_
      refine S_bin rfl rfl rfl ?_
      refine S_pt rfl rfl ?_
      exact S_nilk [0, 1, 6, 7, 22] (by simp only [proj, lk, reduceIte, Nat.reduceEqDiff]; rfl) ⟨_, (by first | (simp [*]; done) | (simp; omega)), rfl, rfl⟩
    · skip
      refine S_gf rfl ?_
      refine S_gf rfl ?_
      refine S_pf rfl rfl ?_
      exact S_nilk [0, 1, 6, 7, 22] (by simp only [proj, lk, reduceIte, Nat.reduceEqDiff]; rfl) ⟨_, (by first | (simp [*]; done) | (simp; omega)), rfl, rfl⟩
  rintro l h' ⟨b, hb479, rfl, rfl⟩
  refine hK10 _ _ ?_; clear hK10
  refine V_condb rfl (fun c479 => ?_) (fun c479 => ?_)
  · replace c479 := hb479.1 c479
    refine V_skipk [0, 1, 6, 7] (by simp only [proj, lk, reduceIte, Nat.reduceEqDiff]; rfl) ?_
    refine hK9 _ _ ?_; clear hK9
    refine V_seq (fun K12 hK12 => ?_)
    refine V_block ?_
    refine V_seq (fun K13 hK13 => ?_)
    refine V_sr T.mix (by kernel_rfl) (fun K14 hK14 => ?_)
    refine S_mv rfl ?_
    refine S_mv rfl ?_
    refine S_mv rfl ?_
    obtain ⟨sb, so, rfl, hlt, k, oa, ob, oc, os, ot, hc⟩ := (hs.ext (Nat.le_refl _) hE) i (by exact c479.1)
    refine S_ix T.el22 rfl rfl (by omega) (by omega) ?_
    refine S_ldn T.ag32 rfl (by simpa using hc) ?_
    refine S_call T.hb11 rfl ?_
    refine FC.mono (play_spec hk tgk A uk (12 * i) w k oa ob oc os ot (by omega)) ?_
    rintro v' h4 ⟨rfl, tg4, u4, w4, _, hkp4⟩
    have hE4 : Ext (fun b => h.size ≤ b) h h4 := hE.trans (by have h9 := w.low hkp4; rw [hAb] at h9; exact h9)
    refine S_notb rfl ?_
    refine S_nil (hK14 _ _ (V_keep [0, 1, 6, 7, 31] (by simp only [proj, lk, reduceIte, Nat.reduceEqDiff]; rfl) ?_)); clear hK14
    refine V_condb rfl (fun c480 => ?_) (fun c480 => ?_)
    · skip
      cases c480
    · skip
      refine V_skipk [0, 1, 6, 7] (by simp only [proj, lk, reduceIte, Nat.reduceEqDiff]; rfl) ?_
      refine hK13 _ _ ?_; clear hK13
      refine V_seq (fun K15 hK15 => ?_)
      refine V_sr T.mix (by kernel_rfl) (fun K16 hK16 => ?_)
      refine S_mv rfl ?_
      refine S_call T.hb12 rfl ?_
      refine FC.mono (sametrails_spec h4 tg4 A u4 (12 * i + 12) w4) ?_
      rintro v' h' ⟨rfl, rfl⟩
      refine S_notb rfl ?_
      refine S_nil (hK16 _ _ (V_keep [0, 1, 6, 7, 36] (by simp only [proj, lk, reduceIte, Nat.reduceEqDiff]; rfl) ?_)); clear hK16
      refine V_condb rfl (fun c483 => ?_) (fun c483 => ?_)
      · skip
        cases c483
      · skip
        refine V_skipk [0, 1, 6, 7] (by simp only [proj, lk, reduceIte, Nat.reduceEqDiff]; rfl) ?_
        refine hK15 _ _ ?_; clear hK15
        refine V_sr T.mix (by kernel_rfl) (fun K17 hK17 => ?_)
        refine S_mv rfl ?_
        refine S_not rfl ?_
        refine S_nil (hK17 _ _ (V_keep [0, 1, 6, 7, 40] (by simp only [proj, lk, reduceIte, Nat.reduceEqDiff]; rfl) ?_)); clear hK17
        refine V_condp rfl (fun c486 => ?_) (fun c486 => ?_)
        · skip
          refine V_sr T.mix (by kernel_rfl) (fun K18 hK18 => ?_)
          refine S_mv rfl ?_
          refine S_call T.hb10 rfl ?_
          refine FC.mono (alike_spec h4 tg4 A u4 (12 * i + 12) w4) ?_
          rintro v' h5 ⟨rfl, tg5, u5, w5, hobh5, hkph5⟩
          refine S_notb rfl ?_
          refine S_nil (hK18 _ _ (V_keep [0, 1, 6, 7, 43] (by simp only [proj, lk, reduceIte, Nat.reduceEqDiff]; rfl) ?_)); clear hK18
          refine V_condb rfl (fun c487 => ?_) (fun c487 => ?_)
          · skip
            cases c487
          · skip
            refine V_skipk [0, 1, 6, 7] (by simp only [proj, lk, reduceIte, Nat.reduceEqDiff]; rfl) ?_
            refine hK12 _ _ ?_; clear hK12
            refine V_reg T.mix (by kernel_rfl) ?_
            refine S_mv rfl ?_
            first | refine S_add rfl rfl (by omega) (by omega) ?_ | refine S_bin rfl rfl rfl ?_
            refine S_as rfl ?_
            refine S_nilk [0, 1, 6, 7] (by simp only [proj, lk, reduceIte, Nat.reduceEqDiff]; rfl) ?_
            exact hK8 _ _ ⟨_, by omega, i + 1, h5, tg5, u5, by omega, by omega, w5, hE4.trans (by have h9 := w4.low hkph5; rw [hAb] at h9; exact h9), rfl, rfl, rfl⟩
        · skip
          refine V_skipk [0, 1, 6, 7] (by simp only [proj, lk, reduceIte, Nat.reduceEqDiff]; rfl) ?_
          refine hK12 _ _ ?_; clear hK12
          refine V_reg T.mix (by kernel_rfl) ?_
          refine S_mv rfl ?_
          first | refine S_add rfl rfl (by omega) (by omega) ?_ | refine S_bin rfl rfl rfl ?_
          refine S_as rfl ?_
          refine S_nilk [0, 1, 6, 7] (by simp only [proj, lk, reduceIte, Nat.reduceEqDiff]; rfl) ?_
          exact hK8 _ _ ⟨_, by omega, i + 1, h4, tg4, u4, by omega, by omega, w4, hE4, rfl, rfl, rfl⟩
  · replace c479 : ¬ _ := fun hp => Bool.false_ne_true (c479.symm.trans (hb479.2 hp))
    refine V_exitk [0, 6] rfl (by simp only [proj, lk, reduceIte, Nat.reduceEqDiff]; rfl) ?_
    refine hK6 _ _ ?_; clear hK6
    refine V_sr T.mix (by kernel_rfl) (fun K19 hK19 => ?_)
    refine S_mv rfl ?_
    refine S_lenl T.el22 rfl ?_
    refine S_as rfl ?_
    refine S_nil (hK19 _ _ (V_keep [6, 8] (by simp only [proj, lk, reduceIte, Nat.reduceEqDiff]; rfl) ?_)); clear hK19
    refine V_seqJ (fun l h' => ∃ (nv : Int), (True) ∧ l = [(6, .pointer (some ⟨A.U, 0, none⟩)), (8, .int .i64 nv)] ∧ hk = h') ?_ ?_
    · skip
      refine V_sr T.mix (by kernel_rfl) (fun K21 hK21 => ?_)
      refine S_mv rfl ?_
      refine S_bin rfl rfl rfl ?_
      refine S_nil (hK21 _ _ (V_keep [6, 8, 49] (by simp only [proj, lk, reduceIte, Nat.reduceEqDiff]; rfl) ?_)); clear hK21
      refine V_condp rfl (fun c493 => ?_) (fun c493 => ?_)
      · skip
        refine V_reg T.mix (by kernel_rfl) ?_
        refine S_as rfl ?_
        refine S_nilk [6, 8] (by simp only [proj, lk, reduceIte, Nat.reduceEqDiff]; rfl) ?_
        exact ⟨_, trivial, rfl, rfl⟩
      · skip
        refine V_skipk [6, 8] (by simp only [proj, lk, reduceIte, Nat.reduceEqDiff]; rfl) ?_
        exact ⟨_, trivial, rfl, rfl⟩
    rintro l h' ⟨nv, htt, rfl, rfl⟩
    refine V_seq (fun K22 hK22 => ?_)
    refine V_sr T.mix (by kernel_rfl) (fun K23 hK23 => ?_)
    refine S_mv rfl ?_
    refine S_call T.hb13 rfl ?_
    refine FC.mono (untouched_spec hk tgk A uk (12 * i) w) ?_
    rintro v' h' ⟨rfl, rfl⟩
    refine S_notb rfl ?_
    refine S_nil (hK23 _ _ (V_keep [8, 52] (by simp only [proj, lk, reduceIte, Nat.reduceEqDiff]; rfl) ?_)); clear hK23
    refine V_condb rfl (fun c496 => ?_) (fun c496 => ?_)
    · skip
      cases c496
    · skip
      refine V_skipk [8] (by simp only [proj, lk, reduceIte, Nat.reduceEqDiff]; rfl) ?_
      refine hK22 _ _ ?_; clear hK22
      refine V_sr T.mix (by kernel_rfl) (fun K24 hK24 => ?_)
      refine S_mv rfl ?_
      refine S_as rfl ?_
      refine S_as rfl ?_
      refine S_nil (hK24 _ _ (V_keep [4, 5] (by simp only [proj, lk, reduceIte, Nat.reduceEqDiff]; rfl) ?_)); clear hK24
      refine V_ret ?_
      refine hR _ _ (ret2 rfl rfl rfl ?_)
      exact ⟨⟨_, rfl⟩, hE⟩
set_option maxHeartbeats 400000 in
theorem rut_spec (h : Heap) (sa : Option Addr) (n cap : Nat) (hs : Scr h.size h sa n) (hn : n ≤ 9223372036854775807) :
    FC Tryz.prog 6 (#[.slice sa n cap] : Array Value) h fun v h' => v = .int .i64 (-1) ∧ Ext (fun b => h.size ≤ b) h h' := by
  refine FC_of [(0, .slice sa n cap)] Tryz.func6 rfl Tryz.ntmps6 (by simp) rfl (fun R hR => ?_)
  refine V_sr T.mix (by kernel_rfl) (fun K1 hK1 => ?_)
  refine S_as rfl ?_
  refine S_nil (hK1 _ _ (V_keep [0] (by simp only [proj, lk, reduceIte, Nat.reduceEqDiff]; rfl) ?_)); clear hK1
  refine V_sr T.mix (by kernel_rfl) (fun K2 hK2 => ?_)
  refine S_mv rfl ?_
  refine S_call T.hb7 rfl ?_
  refine FC.mono (walk_spec h sa n cap false hs hn) ?_
  rintro v h2 ⟨⟨j, rfl⟩, hE⟩
  refine S_mv rfl ?_
  refine S_ex rfl rfl ?_
  refine S_ex rfl rfl ?_
  refine S_as rfl ?_
  refine S_as rfl ?_
  refine S_nil (hK2 _ _ (V_keep [3] (by simp only [proj, lk, reduceIte, Nat.reduceEqDiff]; rfl) ?_)); clear hK2
  refine V_sr T.mix (by kernel_rfl) (fun K3 hK3 => ?_)
  refine S_mv rfl ?_
  refine S_as rfl ?_
  refine S_nil (hK3 _ _ (V_keep [2] (by simp only [proj, lk, reduceIte, Nat.reduceEqDiff]; rfl) ?_)); clear hK3
  refine V_ret ?_
  refine hR _ _ (ret1 rfl rfl ?_)
  exact ⟨rfl, hE⟩
set_option maxHeartbeats 400000 in
theorem ref_spec (h : Heap) (sa : Option Addr) (n cap : Nat) (hs : Scr h.size h sa n) (hn : n ≤ 9223372036854775807) :
    FC Tryz.prog 3 (#[.slice sa n cap] : Array Value) h fun v h' => v = .bool true ∧ Ext (fun b => h.size ≤ b) h h' := by
  refine FC_of [(0, .slice sa n cap)] Tryz.func3 rfl Tryz.ntmps3 (by simp) rfl (fun R hR => ?_)
  refine V_sr T.mix (by kernel_rfl) (fun K1 hK1 => ?_)
  refine S_as rfl ?_
  refine S_nil (hK1 _ _ (V_keep [0] (by simp only [proj, lk, reduceIte, Nat.reduceEqDiff]; rfl) ?_)); clear hK1
  refine V_sr T.mix (by kernel_rfl) (fun K2 hK2 => ?_)
  refine S_mv rfl ?_
  refine S_call T.hb6 rfl ?_
  refine FC.mono (rut_spec h sa n cap hs hn) ?_
  rintro v h2 ⟨rfl, hE⟩
  refine S_as rfl ?_
  refine S_nil (hK2 _ _ (V_keep [3] (by simp only [proj, lk, reduceIte, Nat.reduceEqDiff]; rfl) ?_)); clear hK2
  refine V_sr T.mix (by kernel_rfl) (fun K3 hK3 => ?_)
  refine S_mv rfl ?_
  refine S_bin rfl rfl rfl ?_
  refine S_as rfl ?_
  refine S_nil (hK3 _ _ (V_keep [2] (by simp only [proj, lk, reduceIte, Nat.reduceEqDiff]; rfl) ?_)); clear hK3
  refine V_ret ?_
  refine hR _ _ (ret1 rfl rfl ?_)
  exact ⟨rfl, hE⟩
set_option maxHeartbeats 400000 in
theorem refq_spec (h : Heap) (sa : Option Addr) (n cap : Nat) (hs : Scr h.size h sa n) (hn : n ≤ 9223372036854775807) :
    FC Tryz.prog 4 (#[.slice sa n cap] : Array Value) h fun v h' => v = .bool true ∧ Ext (fun b => h.size ≤ b) h h' := by
  refine FC_of [(0, .slice sa n cap)] Tryz.func4 rfl Tryz.ntmps4 (by simp) rfl (fun R hR => ?_)
  refine V_sr T.mix (by kernel_rfl) (fun K1 hK1 => ?_)
  refine S_as rfl ?_
  refine S_nil (hK1 _ _ (V_keep [0] (by simp only [proj, lk, reduceIte, Nat.reduceEqDiff]; rfl) ?_)); clear hK1
  refine V_sr T.mix (by kernel_rfl) (fun K2 hK2 => ?_)
  refine S_mv rfl ?_
  refine S_call T.hb7 rfl ?_
  refine FC.mono (walk_spec h sa n cap true hs hn) ?_
  rintro v h2 ⟨⟨j, rfl⟩, hE⟩
  refine S_mv rfl ?_
  refine S_ex rfl rfl ?_
  refine S_ex rfl rfl ?_
  refine S_as rfl ?_
  refine S_as rfl ?_
  refine S_nil (hK2 _ _ (V_keep [3] (by simp only [proj, lk, reduceIte, Nat.reduceEqDiff]; rfl) ?_)); clear hK2
  refine V_sr T.mix (by kernel_rfl) (fun K3 hK3 => ?_)
  refine S_mv rfl ?_
  refine S_bin rfl rfl rfl ?_
  refine S_as rfl ?_
  refine S_nil (hK3 _ _ (V_keep [2] (by simp only [proj, lk, reduceIte, Nat.reduceEqDiff]; rfl) ?_)); clear hK3
  refine V_ret ?_
  refine hR _ _ (ret1 rfl rfl ?_)
  exact ⟨rfl, hE⟩
end Go.Proofs.Qxb6500403aGreat
