import Derived.Test.Qxb6500400aGreatYm
set_option linter.unusedVariables false
set_option linter.unusedSimpArgs false
namespace Go.Proofs.Qxb6500400aGreat
open Go.Eng Go.Trl Go.Chk Go.Wat

theorem ccG_of : ∀ (c : List Int) (la : Nat), Nrm c → (∀ x ∈ c, la < x.natAbs) → ccG la c = 0
  | [], _, _, _ => rfl
  | x :: r, la, h, hl => by
    have h1 := h.1 x (by simp)
    unfold gd at h1
    have h2 := hl x (by simp)
    rw [ccG, if_pos h1, if_neg (by omega)]
    exact ccG_of r _ ⟨fun y hy => h.1 y (by simp [hy]), (List.pairwise_cons.1 h.2).2⟩ (List.pairwise_cons.1 h.2).1
theorem ccE_of {c : List Int} (h : Nrm c) : ccE c = 0 := by
  have := h.len
  unfold ccE; rw [if_neg (by omega)]
  refine ccG_of c 0 h fun x hx => ?_
  have := h.1 x hx; unfold gd at this; omega
theorem analyzeF_len (s : TS) (cl : Nat → Option (List Int)) (id : Int) : (analyzeF s cl id).lits.length ≤ 12 := by
  unfold analyzeF
  cases liveC cl id with
  | none => simp
  | some c =>
    simp only []
    split
    · split
      · simp
      · split
        · simp
        · split
          · simp
          · exact shF_len _ _ _ _ _
    · simp
theorem ansF_len (s : TS) (cl : Nat → Option (List Int)) (id : Int) : (ansF s cl id).lits.length ≤ 12 := by
  unfold ansF
  cases liveC cl id with
  | none => simp
  | some c =>
    simp only []
    split
    · split
      · simp
      · exact (shH_len _ _ _ _).1
    · simp
set_option maxHeartbeats 3200000 in
theorem keeps_spec (h : Heap) (tg : Nat → Nat) (A : UA) (u : US) (nb : Nat) (w : UI h tg A u nb) (c : List Int) (conf : Int) (hlc : liveC u.cl conf = some c) (j0 : Nat) (g : Ans) (hg : AnK u.s u.cl c j0 g) (sn : Sn u.cl u.s.L) (xa : Option Addr) (hIx : IL h xa g.lits.length g.lits) :
    FC Tryz.prog 77 (#[.pointer (some ⟨A.U, 0, none⟩), .agg #[.int .i64 ((g.err : Int)), .slice xa g.lits.length g.lits.length, .int .i64 (g.asr), .int .i64 (g.back)]] : Array Value) h fun rv h' => rv = .bool true ∧ Ext (fun _ => False) h h' := by
  have hok := w.wx.ok
  have hgl := hg.nr.len
  have hnl := mr_nl w.mv.r
  have hcs : ∀ c ∈ liveN u.cl 52, Nrm c := fun c hc => by obtain ⟨i, hi, e⟩ := mem_liveN.1 hc; exact hnl i hi c e
  have hll := liveN_len u.cl 52
  have hnf : ¬ Fix (liveN u.cl 52) (deny g.lits) := no_fix hok sn (fun id c hi e => mem_liveN.2 ⟨id, hi, e⟩) hlc hg
  refine FC_of [(0, .pointer (some ⟨A.U, 0, none⟩)), (1, .agg #[.int .i64 ((g.err : Int)), .slice xa g.lits.length g.lits.length, .int .i64 (g.asr), .int .i64 (g.back)])] Tryz.func77 rfl Tryz.ntmps77 (by simp) rfl (fun R hR => ?_)
  refine V_sr T.mix (by kernel_rfl) (fun K1 hK1 => ?_)
  refine S_boxA rfl ?_
  generalize hh : Array.push h _ = h1
  have hG1 : B h1 h.size #[.int .i64 ((g.err : Int)), .slice xa g.lits.length g.lits.length, .int .i64 (g.asr), .int .i64 (g.back)] 104 := by rw [← hh]; exact B.new _ _ _
  have hEh1 : Ext (fun _ => False) h h1 := by rw [← hh]; exact Ext.push _ _ _
  have hsh1 : h1.size = h.size + 1 := by rw [← hh]; simp
  clear hh
  have w1 := w.new hEh1
  have hIx1 := hIx.ext hEh1 (fun _ _ f => f)
  have hO1 := hEh1
  try clear u0 u1 u2 u3 u4 u5 u6 u7 u8 u9 huok
  obtain ⟨u0, u1, u2, u3, u4, u5, u6, u7, u8, u9, huok⟩ := uq (w1.dd)
  try clear g0 g1 g2 g3
  obtain ⟨g0, g1, g2, g3⟩ := bq4 (hG1)
  refine S_as rfl ?_
  refine S_nil (hK1 _ _ (V_keep [0, 3] (by simp only [proj, lk, reduceIte, Nat.reduceEqDiff]; rfl) ?_)); clear hK1
  refine V_seq (fun K2 hK2 => ?_)
  refine V_sr T.mix (by kernel_rfl) (fun K3 hK3 => ?_)
  first | refine S_fa0 T.f104_1 rfl ?_ | refine S_fa T.f104_1 rfl ?_
  refine S_ldK T.ag39 rfl (fun K' hK' => ?_)
  simp (disch := omega) only [u0, u1, u2, u3, u4, u5, u6, u7, u8, u9, g0, g1, g2, g3, oP_some, Nat.add_zero]
  refine hK' _ ?_; clear hK' K'
  refine S_call T.hb90 rfl ?_
  refine FC.mono (checkclause_spec h1 xa _ g.lits hIx1 (by omega)) ?_
  rintro v' h' ⟨rfl, rfl⟩
  rw [ccE_of hg.nr]
  refine S_bin rfl rfl rfl ?_
  refine S_nil (hK3 _ _ (V_keep [0, 3, 9] (by simp only [proj, lk, reduceIte, Nat.reduceEqDiff]; rfl) ?_)); clear hK3
  refine V_condp rfl (fun c331 => ?_) (fun c331 => ?_)
  · skip
    exfalso; exact c331 rfl
  · skip
    refine V_skipk [0, 3] (by simp only [proj, lk, reduceIte, Nat.reduceEqDiff]; rfl) ?_
    refine hK2 _ _ ?_; clear hK2
    refine V_seq (fun K4 hK4 => ?_)
    refine V_sr T.mix (by kernel_rfl) (fun K5 hK5 => ?_)
    refine S_mv rfl ?_
    refine S_nc rfl ?_
    first | refine S_fa0 T.f42_2 rfl ?_ | refine S_fa T.f42_2 rfl ?_
    refine S_ldnK T.ag38 rfl (fun K' hK' => ?_)
    simp (disch := omega) only [u0, u1, u2, u3, u4, u5, u6, u7, u8, u9, g0, g1, g2, g3, oPs_cons, oPs_nil, oP_some, Nat.reduceAdd, Nat.add_zero]
    refine hK' _ ?_; clear hK' K'
    refine S_ldnK T.ag104 rfl (fun K' hK' => ?_)
    simp (disch := omega) only [u0, u1, u2, u3, u4, u5, u6, u7, u8, u9, g0, g1, g2, g3, oPs_cons, oPs_nil, oP_some, Nat.reduceAdd, Nat.add_zero]
    refine hK' _ ?_; clear hK' K'
    refine S_call T.hb113 rfl ?_
    refine FC.mono (levels_spec h1 A.D A.M A.Y u.mm u.cl u.G u.F u.s w1.mv c j0 g hg xa hIx1) ?_
    rintro v' h2 ⟨rfl, hE2⟩
    have w2 := w1.new hE2
    have hIx2 := hIx1.ext hE2 (fun _ _ f => f)
    have hG2 := hG1.ext hE2 (fun f => f)
    have hO2 := hO1.trans hE2
    try clear u0 u1 u2 u3 u4 u5 u6 u7 u8 u9 huok
    obtain ⟨u0, u1, u2, u3, u4, u5, u6, u7, u8, u9, huok⟩ := uq (w2.dd)
    try clear g0 g1 g2 g3
    obtain ⟨g0, g1, g2, g3⟩ := bq4 (hG2)
    refine S_notb rfl ?_
    refine S_nil (hK5 _ _ (V_keep [0, 3, 16] (by simp only [proj, lk, reduceIte, Nat.reduceEqDiff]; rfl) ?_)); clear hK5
    refine V_condb rfl (fun c334 => ?_) (fun c334 => ?_)
    · skip
      cases c334
    · skip
      refine V_skipk [0, 3] (by simp only [proj, lk, reduceIte, Nat.reduceEqDiff]; rfl) ?_
      refine hK4 _ _ ?_; clear hK4
      refine V_seq (fun K6 hK6 => ?_)
      refine V_sr T.mix (by kernel_rfl) (fun K7 hK7 => ?_)
      refine S_mv rfl ?_
      refine S_nc rfl ?_
      first | refine S_fa0 T.f42_2 rfl ?_ | refine S_fa T.f42_2 rfl ?_
      refine S_ldnK T.ag38 rfl (fun K' hK' => ?_)
      simp (disch := omega) only [u0, u1, u2, u3, u4, u5, u6, u7, u8, u9, g0, g1, g2, g3, oPs_cons, oPs_nil, oP_some, Nat.reduceAdd, Nat.add_zero]
      refine hK' _ ?_; clear hK' K'
      refine S_ldnK T.ag104 rfl (fun K' hK' => ?_)
      simp (disch := omega) only [u0, u1, u2, u3, u4, u5, u6, u7, u8, u9, g0, g1, g2, g3, oPs_cons, oPs_nil, oP_some, Nat.reduceAdd, Nat.add_zero]
      refine hK' _ ?_; clear hK' K'
      refine S_call T.hb114 rfl ?_
      refine FC.mono (asserting_spec h2 A.D A.M A.Y u.mm u.cl u.G u.F u.s w2.mv c j0 g hg xa hIx2) ?_
      rintro v' h3 ⟨rfl, hE3⟩
      have w3 := w2.new hE3
      have hIx3 := hIx2.ext hE3 (fun _ _ f => f)
      have hG3 := hG2.ext hE3 (fun f => f)
      have hO3 := hO2.trans hE3
      try clear u0 u1 u2 u3 u4 u5 u6 u7 u8 u9 huok
      obtain ⟨u0, u1, u2, u3, u4, u5, u6, u7, u8, u9, huok⟩ := uq (w3.dd)
      try clear g0 g1 g2 g3
      obtain ⟨g0, g1, g2, g3⟩ := bq4 (hG3)
      refine S_notb rfl ?_
      refine S_nil (hK7 _ _ (V_keep [0, 3, 23] (by simp only [proj, lk, reduceIte, Nat.reduceEqDiff]; rfl) ?_)); clear hK7
      refine V_condb rfl (fun c337 => ?_) (fun c337 => ?_)
      · skip
        cases c337
      · skip
        refine V_skipk [0, 3] (by simp only [proj, lk, reduceIte, Nat.reduceEqDiff]; rfl) ?_
        refine hK6 _ _ ?_; clear hK6
        refine V_seq (fun K8 hK8 => ?_)
        refine V_sr T.mix (by kernel_rfl) (fun K9 hK9 => ?_)
        refine S_mv rfl ?_
        refine S_nc rfl ?_
        first | refine S_fa0 T.f42_2 rfl ?_ | refine S_fa T.f42_2 rfl ?_
        refine S_ldnK T.ag38 rfl (fun K' hK' => ?_)
        simp (disch := omega) only [u0, u1, u2, u3, u4, u5, u6, u7, u8, u9, g0, g1, g2, g3, oPs_cons, oPs_nil, oP_some, Nat.reduceAdd, Nat.add_zero]
        refine hK' _ ?_; clear hK' K'
        refine S_ldnK T.ag104 rfl (fun K' hK' => ?_)
        simp (disch := omega) only [u0, u1, u2, u3, u4, u5, u6, u7, u8, u9, g0, g1, g2, g3, oPs_cons, oPs_nil, oP_some, Nat.reduceAdd, Nat.add_zero]
        refine hK' _ ?_; clear hK' K'
        refine S_call T.hb115 rfl ?_
        refine FC.mono (lean_spec h3 A.D A.M A.Y u.mm u.cl u.G u.F u.s w3.mv c j0 g hg xa hIx3) ?_
        rintro v' h4 ⟨rfl, hE4⟩
        have w4 := w3.new hE4
        have hIx4 := hIx3.ext hE4 (fun _ _ f => f)
        have hG4 := hG3.ext hE4 (fun f => f)
        have hO4 := hO3.trans hE4
        try clear u0 u1 u2 u3 u4 u5 u6 u7 u8 u9 huok
        obtain ⟨u0, u1, u2, u3, u4, u5, u6, u7, u8, u9, huok⟩ := uq (w4.dd)
        try clear g0 g1 g2 g3
        obtain ⟨g0, g1, g2, g3⟩ := bq4 (hG4)
        refine S_notb rfl ?_
        refine S_nil (hK9 _ _ (V_keep [0, 3, 30] (by simp only [proj, lk, reduceIte, Nat.reduceEqDiff]; rfl) ?_)); clear hK9
        refine V_condb rfl (fun c340 => ?_) (fun c340 => ?_)
        · skip
          cases c340
        · skip
          refine V_skipk [0, 3] (by simp only [proj, lk, reduceIte, Nat.reduceEqDiff]; rfl) ?_
          refine hK8 _ _ ?_; clear hK8
          refine V_sr T.mix (by kernel_rfl) (fun K10 hK10 => ?_)
          refine S_mv rfl ?_
          refine S_nc rfl ?_
          first | refine S_fa0 T.f42_2 rfl ?_ | refine S_fa T.f42_2 rfl ?_
          refine S_ldnK T.ag38 rfl (fun K' hK' => ?_)
          simp (disch := omega) only [u0, u1, u2, u3, u4, u5, u6, u7, u8, u9, g0, g1, g2, g3, oPs_cons, oPs_nil, oP_some, Nat.reduceAdd, Nat.add_zero]
          refine hK' _ ?_; clear hK' K'
          refine S_call T.hb116 rfl ?_
          refine FC.mono (live_spec h4 A.D A.M A.Y u.mm u.cl u.G u.F u.s w4.mv) ?_
          rintro v' h5 ⟨la, lc, rfl, hLV, hE5⟩
          have w5 := w4.new hE5
          have hIx5 := hIx4.ext hE5 (fun _ _ f => f)
          have hG5 := hG4.ext hE5 (fun f => f)
          have hO5 := hO4.trans hE5
          try clear u0 u1 u2 u3 u4 u5 u6 u7 u8 u9 huok
          obtain ⟨u0, u1, u2, u3, u4, u5, u6, u7, u8, u9, huok⟩ := uq (w5.dd)
          try clear g0 g1 g2 g3
          obtain ⟨g0, g1, g2, g3⟩ := bq4 (hG5)
          refine S_as rfl ?_
          refine S_nil (hK10 _ _ (V_keep [3, 5] (by simp only [proj, lk, reduceIte, Nat.reduceEqDiff]; rfl) ?_)); clear hK10
          refine V_seq (fun K11 hK11 => ?_)
          refine V_sr T.mix (by kernel_rfl) (fun K12 hK12 => ?_)
          refine S_mv rfl ?_
          first | refine S_fa0 T.f104_1 rfl ?_ | refine S_fa T.f104_1 rfl ?_
          refine S_ldK T.ag39 rfl (fun K' hK' => ?_)
          simp (disch := omega) only [u0, u1, u2, u3, u4, u5, u6, u7, u8, u9, g0, g1, g2, g3, oP_some, Nat.add_zero]
          refine hK' _ ?_; clear hK' K'
          refine S_call T.hb117 rfl ?_
          refine FC.mono (follows_spec h5 la lc _ _ (liveN u.cl 52) hLV hcs (by omega) xa _ g.lits hIx5 hg.nr (fun ms _ hs => rup_sound (fun l hl => by have h9 := hg.nr.1 l hl; unfold gd at h9; omega) (fun r hr l hl => by have h9 := (hcs r hr).1 l hl; unfold gd at h9; omega) hs hnf)) ?_
          rintro v' h' ⟨rfl, rfl⟩
          refine S_notb rfl ?_
          refine S_nil (hK12 _ _ (V_keep [3, 5, 40] (by simp only [proj, lk, reduceIte, Nat.reduceEqDiff]; rfl) ?_)); clear hK12
          refine V_condb rfl (fun c344 => ?_) (fun c344 => ?_)
          · skip
            cases c344
          · skip
            refine V_skipk [3, 5] (by simp only [proj, lk, reduceIte, Nat.reduceEqDiff]; rfl) ?_
            refine hK11 _ _ ?_; clear hK11
            refine V_sr T.mix (by kernel_rfl) (fun K13 hK13 => ?_)
            refine S_mv rfl ?_
            first | refine S_fa0 T.f104_1 rfl ?_ | refine S_fa T.f104_1 rfl ?_
            refine S_ldK T.ag39 rfl (fun K' hK' => ?_)
            simp (disch := omega) only [u0, u1, u2, u3, u4, u5, u6, u7, u8, u9, g0, g1, g2, g3, oP_some, Nat.add_zero]
            refine hK' _ ?_; clear hK' K'
            refine S_call T.hb118 rfl ?_
            refine FC.mono (mrup_spec h5 la lc _ _ (liveN u.cl 52) hLV hcs (by omega) xa _ g.lits hIx5 hg.nr) ?_
            rintro v' h6 ⟨gr, rfl, hgr, hE6⟩
            obtain rfl := hgr.2 hnf
            refine S_as rfl ?_
            refine S_nil (hK13 _ _ (V_keep [4] (by simp only [proj, lk, reduceIte, Nat.reduceEqDiff]; rfl) ?_)); clear hK13
            refine V_ret ?_
            refine hR _ _ (ret1 rfl rfl ?_)
            exact ⟨rfl, hO5.trans hE6⟩
set_option maxHeartbeats 1600000 in
theorem learn_spec (h : Heap) (tg : Nat → Nat) (A : UA) (u : US) (nb : Nat) (w : UI h tg A u nb) (hnb : nb ≤ 900000000000000) (hqc : u.q.calls ≤ 1000) :
    FC Tryz.prog 34 (#[.pointer (some ⟨A.U, 0, none⟩)] : Array Value) h fun rv h' => rv = .bool true ∧ ∃ (tg' : Nat → Nat) (u' : US), UI h' tg' A u' (nb + 12) ∧ KP tg tg' h h' := by
  try clear u0 u1 u2 u3 u4 u5 u6 u7 u8 u9 huok
  obtain ⟨u0, u1, u2, u3, u4, u5, u6, u7, u8, u9, huok⟩ := uq (w.dd)
  have hal := ansF_len u.s u.cl u.last
  refine FC_of [(0, .pointer (some ⟨A.U, 0, none⟩))] Tryz.func34 rfl Tryz.ntmps34 (by simp) rfl (fun R hR => ?_)
  refine V_sr T.mix (by kernel_rfl) (fun K1 hK1 => ?_)
  refine S_as rfl ?_
  refine S_nil (hK1 _ _ (V_keep [0] (by simp only [proj, lk, reduceIte, Nat.reduceEqDiff]; rfl) ?_)); clear hK1
  refine V_seq (fun K2 hK2 => ?_)
  refine V_sr T.mix (by kernel_rfl) (fun K3 hK3 => ?_)
  refine S_mv rfl ?_
  refine S_nc rfl ?_
  first | refine S_fa0 T.f42_5 rfl ?_ | refine S_fa T.f42_5 rfl ?_
  refine S_ldK T.ag4 rfl (fun K' hK' => ?_)
  simp (disch := omega) only [u0, u1, u2, u3, u4, u5, u6, u7, u8, u9, oP_some, Nat.add_zero]
  refine hK' _ ?_; clear hK' K'
  refine S_nil (hK3 _ _ (V_keep [0, 7] (by simp only [proj, lk, reduceIte, Nat.reduceEqDiff]; rfl) ?_)); clear hK3
  refine V_condb rfl (fun c230 => ?_) (fun c230 => ?_)
  · skip
    refine V_sr T.mix (by kernel_rfl) (fun K4 hK4 => ?_)
    refine S_as rfl ?_
    refine S_nil (hK4 _ _ (V_keep [2] (by simp only [proj, lk, reduceIte, Nat.reduceEqDiff]; rfl) ?_)); clear hK4
    refine V_ret ?_
    refine hR _ _ (ret1 rfl rfl ?_)
    exact ⟨rfl, tg, u, w.up (by omega), KP.refl _ _⟩
  · skip
    have hsn := w.sd (by simpa using c230)
    refine V_skipk [0] (by simp only [proj, lk, reduceIte, Nat.reduceEqDiff]; rfl) ?_
    refine hK2 _ _ ?_; clear hK2
    refine V_srX #[0, 1, 2, 3, 4, 5, 6, 7, 8, 9, 10, 11] [0, 1, 2, 3, 4, 5, 6, 7, 8, 9, 10, 11] #[0, 1, 2, 3, 4, 5, 6, 7, 8, 10, 9, 11] [0, 1, 2, 3, 4, 5, 6, 7, 8, 10, 9, 11] 10 9 T.mix (by kernel_rfl) (fun K5 hK5 => ?_)
    suffices hJ5 : ∀ l h', (∃ (h3 : Heap) (gb : Nat) (xa : Option Addr) (g : Ans) (tg3 : Nat → Nat) (us3 : US), (UI h3 tg3 A us3 nb) ∧ (B h3 gb #[.int .i64 ((g.err : Int)), .slice xa g.lits.length g.lits.length, .int .i64 (g.asr), .int .i64 (g.back)] 104) ∧ (tg3 gb = 0) ∧ (g.lits.length ≤ 12) ∧ (IL h3 xa g.lits.length g.lits) ∧ (∀ b, blkA xa = some b → tg3 b = 0) ∧ (KP tg tg3 h h3) ∧ l = [(0, .pointer (some ⟨A.U, 0, none⟩)), (3, .pointer (some ⟨gb, 0, none⟩))] ∧ h3 = h') → K5 l h' by
      refine ⟨?_, ?_⟩
      · skip
        refine S_mv rfl ?_
        refine S_nc rfl ?_
        first | refine S_fa0 T.f42_2 rfl ?_ | refine S_fa T.f42_2 rfl ?_
        first | refine S_fa0 T.f38_2 rfl ?_ | refine S_fa T.f38_2 rfl ?_
        refine S_ldK T.ag36 rfl (fun K' hK' => ?_)
        simp (disch := omega) only [u0, u1, u2, u3, u4, u5, u6, u7, u8, u9, oP_some, Nat.add_zero]
        refine hK' _ ?_; clear hK' K'
        refine S_mv rfl ?_
        refine S_nc rfl ?_
        first | refine S_fa0 T.f42_4 rfl ?_ | refine S_fa T.f42_4 rfl ?_
        refine S_ldK T.ag3 rfl (fun K' hK' => ?_)
        simp (disch := omega) only [u0, u1, u2, u3, u4, u5, u6, u7, u8, u9, oP_some, Nat.add_zero]
        refine hK' _ ?_; clear hK' K'
        refine S_call T.hb74 rfl ?_
        refine FC.mono (manalyze_spec h A.D A.Y A.M u.q w.lm u.mm u.cl u.G u.F u.s w.mv w.dj hsn (by omega) u.last) ?_
        rintro v' h1 ⟨xa, q1, hv1, hIx, hx0, hxb, hlm, hln, hq1, hxq, hE1⟩
        generalize ansF u.s u.cl u.last = g at hv1 hIx hx0 hln hal
        subst hv1
        obtain ⟨tg1, w1, tl1, t01⟩ := w.turnq hE1 hlm hq1
        have hz1 := hE1.1
        refine S_allocA T.z104 ?_
        generalize hh : Array.push h1 _ = h2
        have hG2 : B h2 h1.size #[.int .i64 (0), .slice none 0 0, .int .i64 (0), .int .i64 (0)] 104 := by rw [← hh]; exact B.new _ _ _
        have hEh2 : Ext (fun _ => False) h1 h2 := by rw [← hh]; exact Ext.push _ _ _
        have hsh2 : h2.size = h1.size + 1 := by rw [← hh]; simp
        clear hh
        try clear hgok
        have hgok : ∀ j, j < 4 → okPut h2 ⟨h1.size, j, none⟩ = true := fun j hj => (hG2).ok (by simpa using hj)
        refine S_stl T.sz104 rfl rfl rfl rfl (fun j hj => by simp (disch := omega) only [hgok]) ?_
        generalize hh : putsH _ _ _ _ = h3
        have hG3 : B h3 (h1.size) #[.int .i64 ((g.err : Int)), .slice xa g.lits.length g.lits.length, .int .i64 (g.asr), .int .i64 (g.back)] 104 := by rw [← hh]; exact B.puts_all (hG2) (cs' := #[.int .i64 ((g.err : Int)), .slice xa g.lits.length g.lits.length, .int .i64 (g.asr), .int .i64 (g.back)]) rfl
        have hEh3 : Ext (fun k => k = h1.size) h2 h3 := by rw [← hh]; exact Ext.puts (S := fun k => k = h1.size) rfl _ _ _
        clear hh
        refine S_nilk [0, 3] (by simp only [proj, lk, reduceIte, Nat.reduceEqDiff]; rfl) ?_
        have w3 := (w1.new hEh2).ext hEh3 (fun b e => by rw [e]; exact w1.z _ (Nat.le_refl _))
        exact hJ5 _ _ ⟨h3, h1.size, xa, g, tg1, _, w3, hG3, w1.z _ (Nat.le_refl _), hal, (hIx.ext hEh2 (fun _ _ f => f)).ext hEh3 (fun b e z => by have h9 := hIx.lt e; omega), fun b e => t01 b (hxb b e) (hxq b e), ((KP.of hE1 (fun b e => by rw [w.tq b e]; omega) tl1).trans (KP.quiet hEh2)).tmp hEh3 (fun b e => by omega), rfl, rfl⟩
      · skip
        refine S_mv rfl ?_
        refine S_nc rfl ?_
        first | refine S_fa0 T.f42_2 rfl ?_ | refine S_fa T.f42_2 rfl ?_
        first | refine S_fa0 T.f38_2 rfl ?_ | refine S_fa T.f38_2 rfl ?_
        refine S_ldK T.ag36 rfl (fun K' hK' => ?_)
        simp (disch := omega) only [u0, u1, u2, u3, u4, u5, u6, u7, u8, u9, oP_some, Nat.add_zero]
        refine hK' _ ?_; clear hK' K'
        refine S_mv rfl ?_
        refine S_nc rfl ?_
        first | refine S_fa0 T.f42_4 rfl ?_ | refine S_fa T.f42_4 rfl ?_
        refine S_ldK T.ag3 rfl (fun K' hK' => ?_)
        simp (disch := omega) only [u0, u1, u2, u3, u4, u5, u6, u7, u8, u9, oP_some, Nat.add_zero]
        refine hK' _ ?_; clear hK' K'
        refine S_allocA T.z104 ?_
        generalize hh : Array.push h _ = h1
        have hG1 : B h1 h.size #[.int .i64 (0), .slice none 0 0, .int .i64 (0), .int .i64 (0)] 104 := by rw [← hh]; exact B.new _ _ _
        have hEh1 : Ext (fun _ => False) h h1 := by rw [← hh]; exact Ext.push _ _ _
        have hsh1 : h1.size = h.size + 1 := by rw [← hh]; simp
        clear hh
        have w1 := w.new hEh1
        try clear u0 u1 u2 u3 u4 u5 u6 u7 u8 u9 huok
        obtain ⟨u0, u1, u2, u3, u4, u5, u6, u7, u8, u9, huok⟩ := uq (w1.dd)
        refine S_call T.hb74 rfl ?_
        refine FC.mono (manalyze_spec h1 A.D A.Y A.M u.q w1.lm u.mm u.cl u.G u.F u.s w1.mv w1.dj hsn (by omega) u.last) ?_
        rintro v' h2 ⟨xa, q1, hv1, hIx, hx0, hxb, hlm, hln, hq1, hxq, hE2⟩
        generalize ansF u.s u.cl u.last = g at hv1 hIx hx0 hln hal
        subst hv1
        obtain ⟨tg2, w2, tl2, t02⟩ := w1.turnq hE2 hlm hq1
        have hz2 := hE2.1
        have hG2 := hG1.ext hE2 (fun e => by have h9 := w.tq _ e; rw [w.z _ (Nat.le_refl _)] at h9; omega)
        try clear hgok
        have hgok : ∀ j, j < 4 → okPut h2 ⟨h.size, j, none⟩ = true := fun j hj => (hG2).ok (by simpa using hj)
        refine S_stl T.sz104 rfl rfl rfl rfl (fun j hj => by simp (disch := omega) only [hgok]) ?_
        generalize hh : putsH _ _ _ _ = h3
        have hG3 : B h3 (h.size) #[.int .i64 ((g.err : Int)), .slice xa g.lits.length g.lits.length, .int .i64 (g.asr), .int .i64 (g.back)] 104 := by rw [← hh]; exact B.puts_all (hG2) (cs' := #[.int .i64 ((g.err : Int)), .slice xa g.lits.length g.lits.length, .int .i64 (g.asr), .int .i64 (g.back)]) rfl
        have hEh3 : Ext (fun k => k = h.size) h2 h3 := by rw [← hh]; exact Ext.puts (S := fun k => k = h.size) rfl _ _ _
        clear hh
        refine S_nilk [0, 3] (by simp only [proj, lk, reduceIte, Nat.reduceEqDiff]; rfl) ?_
        have hgt2 : tg2 h.size = 0 := by rw [tl2 _ (by omega)]; exact w.z _ (Nat.le_refl _)
        have w3 := w2.ext hEh3 (fun b e => by rw [e]; exact hgt2)
        exact hJ5 _ _ ⟨h3, h.size, xa, g, tg2, _, w3, hG3, hgt2, hal, hIx.ext hEh3 (fun b e z => by have h9 := hxb b e; omega), fun b e => t02 b (hxb b e) (hxq b e), ((KP.quiet hEh1).trans (KP.of hE2 (fun b e => by rw [w.tq b e]; omega) tl2)).tmp hEh3 (fun b e => by omega), rfl, rfl⟩
    rintro l h' ⟨h3, gb, xa, g, tg3, us3, w3, hG3, hgt, hgl, hIx3, hxt, hkp3, rfl, rfl⟩
    refine hK5 _ _ ?_; clear hK5
    try clear g0 g1 g2 g3
    obtain ⟨g0, g1, g2, g3⟩ := bq4 (hG3)
    refine V_seq (fun K6 hK6 => ?_)
    refine V_sr T.mix (by kernel_rfl) (fun K7 hK7 => ?_)
    first | refine S_fa0 T.f104_0 rfl ?_ | refine S_fa T.f104_0 rfl ?_
    refine S_ldK T.ag93 rfl (fun K' hK' => ?_)
    simp (disch := omega) only [g0, oP_some, Nat.add_zero]
    refine hK' _ ?_; clear hK' K'
    refine S_bin rfl rfl rfl ?_
    refine S_nil (hK7 _ _ (V_keep [0, 3, 20] (by simp only [proj, lk, reduceIte, Nat.reduceEqDiff]; rfl) ?_)); clear hK7
    refine V_condp rfl (fun c234 => ?_) (fun c234 => ?_)
    · skip
      refine V_sr T.mix (by kernel_rfl) (fun K8 hK8 => ?_)
      refine S_as rfl ?_
      refine S_nil (hK8 _ _ (V_keep [2] (by simp only [proj, lk, reduceIte, Nat.reduceEqDiff]; rfl) ?_)); clear hK8
      refine V_ret ?_
      refine hR _ _ (ret1 rfl rfl ?_)
      exact ⟨rfl, tg3, us3, w3.up (by omega), hkp3⟩
    · skip
      refine V_skipk [0, 3] (by simp only [proj, lk, reduceIte, Nat.reduceEqDiff]; rfl) ?_
      refine hK6 _ _ ?_; clear hK6
      refine V_seq (fun K9 hK9 => ?_)
      refine V_sr T.mix (by kernel_rfl) (fun K10 hK10 => ?_)
      refine S_mv rfl ?_
      first | refine S_fa0 T.f104_3 rfl ?_ | refine S_fa T.f104_3 rfl ?_
      refine S_ldK T.ag3 rfl (fun K' hK' => ?_)
      simp (disch := omega) only [g3, oP_some, Nat.add_zero]
      refine hK' _ ?_; clear hK' K'
      refine S_call T.hb29 rfl ?_
      refine FC.mono (samebackjump_spec h3 tg3 A us3 nb w3 g.back (by omega)) ?_
      rintro v' h4 ⟨rfl, tg4, us4, w4, hkp4⟩
      try clear g0 g1 g2 g3
      obtain ⟨g0, g1, g2, g3⟩ := bq4 (hG3.ext hkp4.1 (fun e => e hgt))
      refine S_notb rfl ?_
      refine S_nil (hK10 _ _ (V_keep [0, 3, 25] (by simp only [proj, lk, reduceIte, Nat.reduceEqDiff]; rfl) ?_)); clear hK10
      refine V_condb rfl (fun c237 => ?_) (fun c237 => ?_)
      · skip
        cases c237
      · skip
        refine V_skipk [0, 3] (by simp only [proj, lk, reduceIte, Nat.reduceEqDiff]; rfl) ?_
        refine hK9 _ _ ?_; clear hK9
        refine V_sr T.mix (by kernel_rfl) (fun K11 hK11 => ?_)
        refine S_mv rfl ?_
        first | refine S_fa0 T.f104_1 rfl ?_ | refine S_fa T.f104_1 rfl ?_
        refine S_ldK T.ag39 rfl (fun K' hK' => ?_)
        simp (disch := omega) only [g1, oP_some, Nat.add_zero]
        refine hK' _ ?_; clear hK' K'
        refine S_call T.hb26 rfl ?_
        have hcall := sameadd_spec h4 tg4 A us4 (nb + 12) w4 xa _ g.lits (hIx3.ext hkp4.1 (fun b e z => z (hxt b e))) (by omega) true
        rw [show decide (true = true) = true from rfl] at hcall
        refine FC.mono hcall ?_
        rintro v' h5 ⟨rfl, tg5, us5, w5, hkp5⟩
        refine S_as rfl ?_
        refine S_nil (hK11 _ _ (V_keep [2] (by simp only [proj, lk, reduceIte, Nat.reduceEqDiff]; rfl) ?_)); clear hK11
        refine V_ret ?_
        refine hR _ _ (ret1 rfl rfl ?_)
        exact ⟨rfl, tg5, us5, w5, (hkp3.trans hkp4).trans hkp5⟩
set_option maxHeartbeats 3200000 in
theorem sameanalyze_spec (h : Heap) (tg : Nat → Nat) (A : UA) (u : US) (nb : Nat) (w : UI h tg A u nb) (id : Int) (hqc : u.q.calls ≤ 1000) :
    FC Tryz.prog 33 (#[.pointer (some ⟨A.U, 0, none⟩), .int .i64 id] : Array Value) h fun rv h' => rv = .bool true ∧ ∃ (tg' : Nat → Nat) (u' : US), UI h' tg' A u' (nb + 12) ∧ KP tg tg' h h' := by
  try clear u0 u1 u2 u3 u4 u5 u6 u7 u8 u9 huok
  obtain ⟨u0, u1, u2, u3, u4, u5, u6, u7, u8, u9, huok⟩ := uq (w.dd)
  have hok := w.wx.ok
  have hnl := mr_nl w.mv.r
  have hsl := shotF_len (s := u.s) hnl
  have hal := analyzeF_len u.s u.cl id
  have hlt := w.lt1
  have hhb := w.hb
  refine FC_of [(0, .pointer (some ⟨A.U, 0, none⟩)), (1, .int .i64 id)] Tryz.func33 rfl Tryz.ntmps33 (by simp) rfl (fun R hR => ?_)
  refine V_sr T.mix (by kernel_rfl) (fun K1 hK1 => ?_)
  refine S_as rfl ?_
  refine S_nil (hK1 _ _ (V_keep [0, 1] (by simp only [proj, lk, reduceIte, Nat.reduceEqDiff]; rfl) ?_)); clear hK1
  refine V_sr T.mix (by kernel_rfl) (fun K2 hK2 => ?_)
  refine S_mv rfl ?_
  refine S_nc rfl ?_
  first | refine S_fa0 T.f42_0 rfl ?_ | refine S_fa T.f42_0 rfl ?_
  refine S_ldnK T.ag31 rfl (fun K' hK' => ?_)
  simp (disch := omega) only [u0, u1, u2, u3, u4, u5, u6, u7, u8, u9, oPs_cons, oPs_nil, oP_some, Nat.reduceAdd, Nat.add_zero]
  refine hK' _ ?_; clear hK' K'
  refine S_call T.hb22 rfl ?_
  refine FC.mono (shotb_spec h A.C A.X u.W u.cl u.s u.p w.wx) ?_
  rintro v' h1 ⟨a1, c1, hv1, hI1, hb1, hE1⟩
  generalize hL1 : shotF u.s u.cl = l1 at hv1 hI1 hsl
  subst hv1
  have w1 := w.new hE1
  have hz1 := hE1.1
  try clear u0 u1 u2 u3 u4 u5 u6 u7 u8 u9 huok
  obtain ⟨u0, u1, u2, u3, u4, u5, u6, u7, u8, u9, huok⟩ := uq (w1.dd)
  refine S_as rfl ?_
  refine S_nil (hK2 _ _ (V_keep [0, 1, 5] (by simp only [proj, lk, reduceIte, Nat.reduceEqDiff]; rfl) ?_)); clear hK2
  refine V_sr T.mix (by kernel_rfl) (fun K3 hK3 => ?_)
  refine S_mv rfl ?_
  refine S_nc rfl ?_
  first | refine S_fa0 T.f42_0 rfl ?_ | refine S_fa T.f42_0 rfl ?_
  first | refine S_fa0 T.f31_1 rfl ?_ | refine S_fa T.f31_1 rfl ?_
  refine S_ldK T.ag29 rfl (fun K' hK' => ?_)
  simp (disch := omega) only [u0, u1, u2, u3, u4, u5, u6, u7, u8, u9, oP_some, Nat.add_zero]
  refine hK' _ ?_; clear hK' K'
  refine S_call T.hb37 rfl ?_
  refine FC.mono (wvisits_spec h1 A.C A.X u.W w1.wx.b) ?_
  rintro v' h' ⟨rfl, rfl⟩
  refine S_as rfl ?_
  refine S_nil (hK3 _ _ (V_keep [0, 1, 5, 6] (by simp only [proj, lk, reduceIte, Nat.reduceEqDiff]; rfl) ?_)); clear hK3
  refine V_sr T.mix (by kernel_rfl) (fun K4 hK4 => ?_)
  refine S_mv rfl ?_
  refine S_nc rfl ?_
  first | refine S_fa0 T.f42_1 rfl ?_ | refine S_fa T.f42_1 rfl ?_
  refine S_ldK T.ag33 rfl (fun K' hK' => ?_)
  simp (disch := omega) only [u0, u1, u2, u3, u4, u5, u6, u7, u8, u9, oP_some, Nat.add_zero]
  refine hK' _ ?_; clear hK' K'
  refine S_mv rfl ?_
  refine S_call T.hb72 rfl ?_
  refine FC.mono (analyze_spec h1 A.K A.C A.X w1.lb u.W u.cl u.s u.p w1.wx w1.nk id) ?_
  rintro v' h2 ⟨xa, hv2, hIx, hx0, hxb, hlb2, hE2⟩
  generalize hga : analyzeF u.s u.cl id = g at hv2 hIx hx0 hal
  subst hv2
  have w2 := w1.real hE2 hlb2
  have hz2 := hE2.1
  refine S_allocA T.z104 ?_
  generalize hh : Array.push h2 _ = h3
  have hG0 : B h3 h2.size #[.int .i64 (0), .slice none 0 0, .int .i64 (0), .int .i64 (0)] 104 := by rw [← hh]; exact B.new _ _ _
  have hEh3 : Ext (fun _ => False) h2 h3 := by rw [← hh]; exact Ext.push _ _ _
  have hsh3 : h3.size = h2.size + 1 := by rw [← hh]; simp
  clear hh
  have w3 := w2.new hEh3
  try clear hgok
  have hgok : ∀ j, j < 4 → okPut h3 ⟨h2.size, j, none⟩ = true := fun j hj => (hG0).ok (by simpa using hj)
  refine S_stl T.sz104 rfl rfl rfl rfl (fun j hj => by simp (disch := omega) only [hgok]) ?_
  generalize hh : putsH _ _ _ _ = h4
  have hG4 : B h4 (h2.size) #[.int .i64 ((g.err : Int)), .slice xa g.lits.length g.lits.length, .int .i64 (g.asr), .int .i64 (g.back)] 104 := by rw [← hh]; exact B.puts_all (hG0) (cs' := #[.int .i64 ((g.err : Int)), .slice xa g.lits.length g.lits.length, .int .i64 (g.asr), .int .i64 (g.back)]) rfl
  have hEh4 : Ext (fun k => k = h2.size) h3 h4 := by rw [← hh]; exact Ext.puts (S := fun k => k = h2.size) rfl _ _ _
  clear hh
  have hgt : tg h2.size = 0 := w2.z _ (Nat.le_refl _)
  have w4 := w3.ext hEh4 (fun b e => by rw [e]; exact hgt)
  have hz4 := hEh4.1
  have hI14 : IL h4 a1 c1 l1 := ((hI1.ext hE2 (fun b e z => by have h9 := hb1 b e; omega)).ext hEh3 (fun _ _ f => f)).ext hEh4 (fun b e z => by have h9 := hI1.lt e; omega)
  have hIx4 : IL h4 xa g.lits.length g.lits := (hIx.ext hEh3 (fun _ _ f => f)).ext hEh4 (fun b e z => by have h9 := hIx.lt e; omega)
  have hxt : ∀ b, blkA xa = some b → tg b = 0 := fun b e => w1.z b (hxb b e)
  have hxba : ∀ b, blkA xa = some b → A.base ≤ b := fun b e => by have h9 := hxb b e; omega
  have hkp4 : KP tg tg h h4 := (((KP.quiet hE1).trans (KP.of hE2 (fun b e => by rw [e, w.tK]; omega) (fun _ _ => rfl))).trans (KP.quiet hEh3)).tmp hEh4 (fun b e => by omega)
  try clear u0 u1 u2 u3 u4 u5 u6 u7 u8 u9 huok
  obtain ⟨u0, u1, u2, u3, u4, u5, u6, u7, u8, u9, huok⟩ := uq (w4.dd)
  try clear g0 g1 g2 g3
  obtain ⟨g0, g1, g2, g3⟩ := bq4 (hG4)
  refine S_nil (hK4 _ _ (V_keep [0, 1, 5, 6, 7] (by simp only [proj, lk, reduceIte, Nat.reduceEqDiff]; rfl) ?_)); clear hK4
  refine V_seq (fun K5 hK5 => ?_)
  refine V_sr T.mix (by kernel_rfl) (fun K6 hK6 => ?_)
  refine S_mv rfl ?_
  refine S_call T.hb16 rfl ?_
  refine FC.mono (untouched_spec h4 tg A u nb w4) ?_
  rintro v' h' ⟨rfl, rfl⟩
  refine S_notb rfl ?_
  refine S_nil (hK6 _ _ (V_keep [0, 1, 5, 6, 7, 30] (by simp only [proj, lk, reduceIte, Nat.reduceEqDiff]; rfl) ?_)); clear hK6
  refine V_condb rfl (fun c382 => ?_) (fun c382 => ?_)
  · skip
    cases c382
  · skip
    refine V_skipk [0, 1, 5, 6, 7] (by simp only [proj, lk, reduceIte, Nat.reduceEqDiff]; rfl) ?_
    refine hK5 _ _ ?_; clear hK5
    refine V_sr T.mix (by kernel_rfl) (fun K7 hK7 => ?_)
    refine S_mv rfl ?_
    refine S_nc rfl ?_
    first | refine S_fa0 T.f42_0 rfl ?_ | refine S_fa T.f42_0 rfl ?_
    refine S_ldnK T.ag31 rfl (fun K' hK' => ?_)
    simp (disch := omega) only [u0, u1, u2, u3, u4, u5, u6, u7, u8, u9, oPs_cons, oPs_nil, oP_some, Nat.reduceAdd, Nat.add_zero]
    refine hK' _ ?_; clear hK' K'
    refine S_call T.hb22 rfl ?_
    refine FC.mono (shotb_spec h4 A.C A.X u.W u.cl u.s u.p w4.wx) ?_
    rintro v' h5 ⟨a2, c2, hv2, hI2, _, hE5⟩
    rw [hL1] at hv2 hI2
    subst hv2
    clear hL1
    have w5 := w4.new hE5
    have hz5 := hE5.1
    have hG5 := hG4.ext hE5 (fun f => f)
    have hIx5 := hIx4.ext hE5 (fun _ _ f => f)
    have hI15 := hI14.ext hE5 (fun _ _ f => f)
    have hkp5 := hkp4.trans (KP.quiet hE5)
    try clear u0 u1 u2 u3 u4 u5 u6 u7 u8 u9 huok
    obtain ⟨u0, u1, u2, u3, u4, u5, u6, u7, u8, u9, huok⟩ := uq (w5.dd)
    try clear g0 g1 g2 g3
    obtain ⟨g0, g1, g2, g3⟩ := bq4 (hG5)
    refine S_as rfl ?_
    refine S_nil (hK7 _ _ (V_keep [0, 1, 5, 6, 7, 8] (by simp only [proj, lk, reduceIte, Nat.reduceEqDiff]; rfl) ?_)); clear hK7
    refine V_sr T.mix (by kernel_rfl) (fun K8 hK8 => ?_)
    refine S_mv rfl ?_
    refine S_nc rfl ?_
    first | refine S_fa0 T.f42_0 rfl ?_ | refine S_fa T.f42_0 rfl ?_
    first | refine S_fa0 T.f31_1 rfl ?_ | refine S_fa T.f31_1 rfl ?_
    refine S_ldK T.ag29 rfl (fun K' hK' => ?_)
    simp (disch := omega) only [u0, u1, u2, u3, u4, u5, u6, u7, u8, u9, oP_some, Nat.add_zero]
    refine hK' _ ?_; clear hK' K'
    refine S_call T.hb37 rfl ?_
    refine FC.mono (wvisits_spec h5 A.C A.X u.W w5.wx.b) ?_
    rintro v' h' ⟨rfl, rfl⟩
    refine S_as rfl ?_
    refine S_nil (hK8 _ _ (V_keep [0, 1, 5, 6, 7, 8, 9] (by simp only [proj, lk, reduceIte, Nat.reduceEqDiff]; rfl) ?_)); clear hK8
    refine V_seq (fun K9 hK9 => ?_)
    refine V_sr T.mix (by kernel_rfl) (fun K10 hK10 => ?_)
    refine S_mv rfl ?_
    refine S_mv rfl ?_
    refine S_bin rfl rfl rfl ?_
    refine S_nil (hK10 _ _ (V_keep [0, 1, 5, 7, 8, 44] (by simp only [proj, lk, reduceIte, Nat.reduceEqDiff]; rfl) ?_)); clear hK10
    refine V_condp rfl (fun c387 => ?_) (fun c387 => ?_)
    · skip
      exfalso; exact c387 rfl
    · skip
      refine V_skipk [0, 1, 5, 7, 8] (by simp only [proj, lk, reduceIte, Nat.reduceEqDiff]; rfl) ?_
      refine hK9 _ _ ?_; clear hK9
      refine V_seq (fun K11 hK11 => ?_)
      refine V_sr T.mix (by kernel_rfl) (fun K12 hK12 => ?_)
      refine S_mv rfl ?_
      refine S_mv rfl ?_
      refine S_call T.hb24 rfl ?_
      refine FC.mono (sameints_spec h5 a1 a2 c1 c2 l1 l1 hI15 hI2 (by omega) (by omega)) ?_
      rintro v' h' ⟨rfl, rfl⟩
      refine S_notb rfl ?_
      refine S_nil (hK12 _ _ (V_keep [0, 1, 7, 48] (by simp only [proj, lk, reduceIte, Nat.reduceEqDiff]; rfl) ?_)); clear hK12
      refine V_condb rfl (fun c390 => ?_) (fun c390 => ?_)
      · skip
        exfalso; simp at c390
      · skip
        refine V_skipk [0, 1, 7] (by simp only [proj, lk, reduceIte, Nat.reduceEqDiff]; rfl) ?_
        refine hK11 _ _ ?_; clear hK11
        refine V_seq (fun K13 hK13 => ?_)
        refine V_sr T.mix (by kernel_rfl) (fun K14 hK14 => ?_)
        refine S_mv rfl ?_
        refine S_nc rfl ?_
        first | refine S_fa0 T.f42_5 rfl ?_ | refine S_fa T.f42_5 rfl ?_
        refine S_ldK T.ag4 rfl (fun K' hK' => ?_)
        simp (disch := omega) only [u0, u1, u2, u3, u4, u5, u6, u7, u8, u9, oP_some, Nat.add_zero]
        refine hK' _ ?_; clear hK' K'
        refine S_nil (hK14 _ _ (V_keep [0, 1, 7, 52] (by simp only [proj, lk, reduceIte, Nat.reduceEqDiff]; rfl) ?_)); clear hK14
        refine V_condb rfl (fun c393 => ?_) (fun c393 => ?_)
        · skip
          refine V_sr T.mix (by kernel_rfl) (fun K15 hK15 => ?_)
          refine S_mv rfl ?_
          first | refine S_fa0 T.f104_1 rfl ?_ | refine S_fa T.f104_1 rfl ?_
          refine S_ldK T.ag39 rfl (fun K' hK' => ?_)
          simp (disch := omega) only [g1, oP_some, Nat.add_zero]
          refine hK' _ ?_; clear hK' K'
          refine S_call T.hb73 rfl ?_
          refine FC.mono (keep_spec h5 tg A u nb w5 xa g.lits hIx5 (by omega) hxt hxba) ?_
          rintro v' h6 ⟨rfl, tg6, us6, w6, hE6, ht6⟩
          refine S_nil (hK15 _ _ (V_keep [] (by simp only [proj, lk, reduceIte, Nat.reduceEqDiff]; rfl) ?_)); clear hK15
          refine V_sr T.mix (by kernel_rfl) (fun K16 hK16 => ?_)
          refine S_as rfl ?_
          refine S_nil (hK16 _ _ (V_keep [4] (by simp only [proj, lk, reduceIte, Nat.reduceEqDiff]; rfl) ?_)); clear hK16
          refine V_ret ?_
          refine hR _ _ (ret1 rfl rfl ?_)
          exact ⟨rfl, tg6, us6, w6.up (by omega), hkp5.1.step hE6 (fun b hb e => by rcases e with e | e; (exact e); (exfalso; have h9 := hxb b e; omega)), fun b hb e => ht6 b (by omega) e (fun z => by have h9 := hxb b z; omega)⟩
        · skip
          have hsn := w.sd (by simpa using c393)
          have hae := an_real hok hsn hnl id
          rw [hga] at hae
          refine V_skipk [0, 1, 7] (by simp only [proj, lk, reduceIte, Nat.reduceEqDiff]; rfl) ?_
          refine hK13 _ _ ?_; clear hK13
          refine V_sr T.mix (by kernel_rfl) (fun K17 hK17 => ?_)
          refine S_mv rfl ?_
          refine S_nc rfl ?_
          first | refine S_fa0 T.f42_2 rfl ?_ | refine S_fa T.f42_2 rfl ?_
          first | refine S_fa0 T.f38_2 rfl ?_ | refine S_fa T.f38_2 rfl ?_
          refine S_ldK T.ag36 rfl (fun K' hK' => ?_)
          simp (disch := omega) only [u0, u1, u2, u3, u4, u5, u6, u7, u8, u9, oP_some, Nat.add_zero]
          refine hK' _ ?_; clear hK' K'
          refine S_mv rfl ?_
          refine S_call T.hb74 rfl ?_
          refine FC.mono (manalyze_spec h5 A.D A.Y A.M u.q w5.lm u.mm u.cl u.G u.F u.s w5.mv w5.dj hsn (by omega) id) ?_
          rintro v' h6 ⟨xm, q6, hv6, hIm, _, hmb, hlm6, _, hq6, hmq, hE6⟩
          rw [← hae] at hv6 hIm
          subst hv6
          obtain ⟨tg6, w6, tl6, t06⟩ := w5.turnq hE6 hlm6 hq6
          have hz6 := hE6.1
          refine S_allocA T.z104 ?_
          generalize hh : Array.push h6 _ = h7
          have hM0 : B h7 h6.size #[.int .i64 (0), .slice none 0 0, .int .i64 (0), .int .i64 (0)] 104 := by rw [← hh]; exact B.new _ _ _
          have hEh7 : Ext (fun _ => False) h6 h7 := by rw [← hh]; exact Ext.push _ _ _
          have hsh7 : h7.size = h6.size + 1 := by rw [← hh]; simp
          clear hh
          have w7 := w6.new hEh7
          try clear hgok
          have hgok : ∀ j, j < 4 → okPut h7 ⟨h6.size, j, none⟩ = true := fun j hj => (hM0).ok (by simpa using hj)
          refine S_stl T.sz104 rfl rfl rfl rfl (fun j hj => by simp (disch := omega) only [hgok]) ?_
          generalize hh : putsH _ _ _ _ = h8
          have hM8 : B h8 (h6.size) #[.int .i64 ((g.err : Int)), .slice xm g.lits.length g.lits.length, .int .i64 (g.asr), .int .i64 (g.back)] 104 := by rw [← hh]; exact B.puts_all (hM0) (cs' := #[.int .i64 ((g.err : Int)), .slice xm g.lits.length g.lits.length, .int .i64 (g.asr), .int .i64 (g.back)]) rfl
          have hEh8 : Ext (fun k => k = h6.size) h7 h8 := by rw [← hh]; exact Ext.puts (S := fun k => k = h6.size) rfl _ _ _
          clear hh
          have w8 := w7.ext hEh8 (fun b e => by rw [e]; exact w6.z _ (Nat.le_refl _))
          have hz8 := hEh8.1
          have nq : ∀ b, tg b = 0 → ¬ LT u.q A.D b := fun b e z => by have h9 := w.tq b z; omega
          have hG8 := ((hG5.ext hE6 (nq _ hgt)).ext hEh7 (fun f => f)).ext hEh8 (fun e => by omega)
          have hIx8 : IL h8 xa g.lits.length g.lits := ((hIx5.ext hE6 (fun b e => nq b (hxt b e))).ext hEh7 (fun _ _ f => f)).ext hEh8 (fun b e z => by have h9 := hIx5.lt e; omega)
          have hIm8 : IL h8 xm g.lits.length g.lits := (hIm.ext hEh7 (fun _ _ f => f)).ext hEh8 (fun b e z => by have h9 := hIm.lt e; omega)
          have hkp8 : KP tg tg6 h h8 := ((hkp5.trans (KP.of hE6 (fun b e => by rw [w.tq b e]; omega) tl6)).trans (KP.quiet hEh7)).tmp hEh8 (fun b e => by omega)
          have hxt6 : ∀ b, blkA xa = some b → tg6 b = 0 := fun b e => by rw [tl6 b (hIx5.lt e)]; exact hxt b e
          try clear u0 u1 u2 u3 u4 u5 u6 u7 u8 u9 huok
          obtain ⟨u0, u1, u2, u3, u4, u5, u6, u7, u8, u9, huok⟩ := uq ((show B _ A.U (ucs A u) 42 from w8.dd))
          try clear g0 g1 g2 g3
          obtain ⟨g0, g1, g2, g3⟩ := bq4 (hG8)
          try clear m0 m1 m2 m3
          obtain ⟨m0, m1, m2, m3⟩ := bq4 (hM8)
          refine S_nil (hK17 _ _ (V_keep [0, 1, 7, 10] (by simp only [proj, lk, reduceIte, Nat.reduceEqDiff]; rfl) ?_)); clear hK17
          refine V_seq (fun K18 hK18 => ?_)
          refine V_srM #[0, 1, 2, 3, 4, 5, 6, 7, 8] [0, 1, 2, 3, 4, 5, 6] 7 [8] T.mix (by kernel_rfl) rfl ⟨rfl, rfl⟩ (fun K19 hK19 => ?_)
          first | refine S_fa0 T.f104_0 rfl ?_ | refine S_fa T.f104_0 rfl ?_
          refine S_ldK T.ag93 rfl (fun K' hK' => ?_)
          simp (disch := omega) only [u0, u1, u2, u3, u4, u5, u6, u7, u8, u9, m0, oP_some, Nat.add_zero]
          refine hK' _ ?_; clear hK' K'
          refine S_mv rfl ?_
          refine S_nc rfl ?_
          first | refine S_fa0 T.f42_2 rfl ?_ | refine S_fa T.f42_2 rfl ?_
          refine S_ldnK T.ag38 rfl (fun K' hK' => ?_)
          simp (disch := omega) only [u0, u1, u2, u3, u4, u5, u6, u7, u8, u9, m0, oPs_cons, oPs_nil, oP_some, Nat.reduceAdd, Nat.add_zero]
          refine hK' _ ?_; clear hK' K'
          refine S_mv rfl ?_
          refine S_nil ?_
          refine SM_call T.hb75 rfl ?_
          refine FC.mono (due_spec h8 A.D A.M A.Y u.mm u.cl u.G u.F u.s w8.mv hsn id) ?_
          rintro v' h9 ⟨hv9, hE9⟩
          first | refine ⟨Grows.refl _, ?_⟩ | refine ⟨Grows.of_ext (by assumption), ?_⟩
          rw [← hae] at hv9
          subst hv9
          have w9 := w8.new hE9
          have hG9 := hG8.ext hE9 (fun f => f)
          have hM9 := hM8.ext hE9 (fun f => f)
          have hIx9 := hIx8.ext hE9 (fun _ _ f => f)
          have hIm9 := hIm8.ext hE9 (fun _ _ f => f)
          have hz9 := hE9.1
          refine S_bin rfl rfl rfl ?_
          refine S_nil (hK19 _ _ (V_keep [0, 7, 10, 72] (by simp only [proj, lk, reduceIte, Nat.reduceEqDiff]; rfl) ?_)); clear hK19
          refine V_condp rfl (fun c398 => ?_) (fun c398 => ?_)
          · skip
            exfalso; exact c398 rfl
          · skip
            try clear g0 g1 g2 g3
            obtain ⟨g0, g1, g2, g3⟩ := bq4 (hG9)
            try clear m0 m1 m2 m3
            obtain ⟨m0, m1, m2, m3⟩ := bq4 (hM9)
            refine V_skipk [0, 7, 10] (by simp only [proj, lk, reduceIte, Nat.reduceEqDiff]; rfl) ?_
            refine hK18 _ _ ?_; clear hK18
            refine V_seq (fun K20 hK20 => ?_)
            refine V_sr T.mix (by kernel_rfl) (fun K21 hK21 => ?_)
            first | refine S_fa0 T.f104_0 rfl ?_ | refine S_fa T.f104_0 rfl ?_
            refine S_ldK T.ag93 rfl (fun K' hK' => ?_)
            simp (disch := omega) only [g0, g2, g3, m0, m2, m3, oP_some, Nat.add_zero]
            refine hK' _ ?_; clear hK' K'
            first | refine S_fa0 T.f104_0 rfl ?_ | refine S_fa T.f104_0 rfl ?_
            refine S_ldK T.ag93 rfl (fun K' hK' => ?_)
            simp (disch := omega) only [g0, g2, g3, m0, m2, m3, oP_some, Nat.add_zero]
            refine hK' _ ?_; clear hK' K'
            refine S_bin rfl rfl rfl ?_
            refine S_mv rfl ?_
            refine S_dec (fun g401 => ?_) (fun g401 => ?_)
            · skip
              exact absurd rfl g401
            · skip
              refine S_gt rfl ?_
              first | refine S_fa0 T.f104_2 rfl ?_ | refine S_fa T.f104_2 rfl ?_
              refine S_gt rfl ?_
              refine S_ldK T.ag3 rfl (fun K' hK' => ?_)
              simp (disch := omega) only [g0, g2, g3, m0, m2, m3, oP_some, Nat.add_zero]
              refine hK' _ ?_; clear hK' K'
              refine S_gt rfl ?_
              first | refine S_fa0 T.f104_2 rfl ?_ | refine S_fa T.f104_2 rfl ?_
              refine S_gt rfl ?_
              refine S_ldK T.ag3 rfl (fun K' hK' => ?_)
              simp (disch := omega) only [g0, g2, g3, m0, m2, m3, oP_some, Nat.add_zero]
              refine hK' _ ?_; clear hK' K'
              refine S_gt rfl ?_
              refine S_bin rfl rfl rfl ?_
              refine S_pf rfl rfl ?_
              refine S_mv rfl ?_
              refine S_dec (fun g401a => ?_) (fun g401a => ?_)
              · skip
                exact absurd rfl g401a
              · skip
                refine S_gt rfl ?_
                first | refine S_fa0 T.f104_3 rfl ?_ | refine S_fa T.f104_3 rfl ?_
                refine S_gt rfl ?_
                refine S_ldK T.ag3 rfl (fun K' hK' => ?_)
                simp (disch := omega) only [g0, g2, g3, m0, m2, m3, oP_some, Nat.add_zero]
                refine hK' _ ?_; clear hK' K'
                refine S_gt rfl ?_
                first | refine S_fa0 T.f104_3 rfl ?_ | refine S_fa T.f104_3 rfl ?_
                refine S_gt rfl ?_
                refine S_ldK T.ag3 rfl (fun K' hK' => ?_)
                simp (disch := omega) only [g0, g2, g3, m0, m2, m3, oP_some, Nat.add_zero]
                refine hK' _ ?_; clear hK' K'
                refine S_gt rfl ?_
                refine S_bin rfl rfl rfl ?_
                refine S_pf rfl rfl ?_
                refine S_nil (hK21 _ _ (V_keep [0, 7, 10, 91] (by simp only [proj, lk, reduceIte, Nat.reduceEqDiff]; rfl) ?_)); clear hK21
                refine V_condp rfl (fun c401 => ?_) (fun c401 => ?_)
                · skip
                  exact absurd rfl c401
                · skip
                  refine V_skipk [0, 7, 10] (by simp only [proj, lk, reduceIte, Nat.reduceEqDiff]; rfl) ?_
                  refine hK20 _ _ ?_; clear hK20
                  refine V_seq (fun K22 hK22 => ?_)
                  refine V_sr T.mix (by kernel_rfl) (fun K23 hK23 => ?_)
                  first | refine S_fa0 T.f104_1 rfl ?_ | refine S_fa T.f104_1 rfl ?_
                  refine S_ldK T.ag39 rfl (fun K' hK' => ?_)
                  simp (disch := omega) only [g1, m1, oP_some, Nat.add_zero]
                  refine hK' _ ?_; clear hK' K'
                  first | refine S_fa0 T.f104_1 rfl ?_ | refine S_fa T.f104_1 rfl ?_
                  refine S_ldK T.ag39 rfl (fun K' hK' => ?_)
                  simp (disch := omega) only [g1, m1, oP_some, Nat.add_zero]
                  refine hK' _ ?_; clear hK' K'
                  refine S_call T.hb24 rfl ?_
                  refine FC.mono (sameints_spec h9 xa xm _ _ g.lits g.lits hIx9 hIm9 (by omega) (by omega)) ?_
                  rintro v' h' ⟨rfl, rfl⟩
                  refine S_notb rfl ?_
                  refine S_nil (hK23 _ _ (V_keep [0, 7, 97] (by simp only [proj, lk, reduceIte, Nat.reduceEqDiff]; rfl) ?_)); clear hK23
                  refine V_condb rfl (fun c404 => ?_) (fun c404 => ?_)
                  · skip
                    exfalso; simp at c404
                  · skip
                    refine V_skipk [0, 7] (by simp only [proj, lk, reduceIte, Nat.reduceEqDiff]; rfl) ?_
                    refine hK22 _ _ ?_; clear hK22
                    refine V_seq (fun K24 hK24 => ?_)
                    refine V_sr T.mix (by kernel_rfl) (fun K25 hK25 => ?_)
                    first | refine S_fa0 T.f104_1 rfl ?_ | refine S_fa T.f104_1 rfl ?_
                    refine S_ldK T.ag39 rfl (fun K' hK' => ?_)
                    simp (disch := omega) only [g1, oP_some, Nat.add_zero]
                    refine hK' _ ?_; clear hK' K'
                    refine S_call T.hb76 rfl ?_
                    refine FC.mono (fresh_spec h9 xa g.lits.length hx0) ?_
                    rintro v' h' ⟨rfl, rfl⟩
                    refine S_notb rfl ?_
                    refine S_nil (hK25 _ _ (V_keep [0, 7, 101] (by simp only [proj, lk, reduceIte, Nat.reduceEqDiff]; rfl) ?_)); clear hK25
                    refine V_condb rfl (fun c407 => ?_) (fun c407 => ?_)
                    · skip
                      cases c407
                    · skip
                      refine V_skipk [0, 7] (by simp only [proj, lk, reduceIte, Nat.reduceEqDiff]; rfl) ?_
                      refine hK24 _ _ ?_; clear hK24
                      refine V_seqJ (fun l h' => ∃ (h10 : Heap), (Ext (fun _ => False) h9 h10) ∧ l = [(0, .pointer (some ⟨A.U, 0, none⟩)), (7, .pointer (some ⟨h2.size, 0, none⟩))] ∧ h10 = h') ?_ ?_
                      · skip
                        refine V_sr T.mix (by kernel_rfl) (fun K27 hK27 => ?_)
                        first | refine S_fa0 T.f104_0 rfl ?_ | refine S_fa T.f104_0 rfl ?_
                        refine S_ldK T.ag93 rfl (fun K' hK' => ?_)
                        simp (disch := omega) only [g0, oP_some, Nat.add_zero]
                        refine hK' _ ?_; clear hK' K'
                        refine S_bin rfl rfl rfl ?_
                        refine S_nil (hK27 _ _ (V_keep [0, 7, 104] (by simp only [proj, lk, reduceIte, Nat.reduceEqDiff]; rfl) ?_)); clear hK27
                        refine V_condp rfl (fun c410 => ?_) (fun c410 => ?_)
                        · skip
                          have hg0 : g.err = 0 := by omega
                          obtain ⟨cc, j0, hlc, hK⟩ := ansK hok hsn hnl (conf := id) (by rw [← hae]; exact hg0)
                          rw [← hae] at hK
                          refine V_sr T.mix (by kernel_rfl) (fun K28 hK28 => ?_)
                          refine S_mv rfl ?_
                          refine S_ldnK T.ag104 rfl (fun K' hK' => ?_)
                          simp (disch := omega) only [g0, g1, g2, g3, oPs_cons, oPs_nil, oP_some, Nat.reduceAdd, Nat.add_zero]
                          refine hK' _ ?_; clear hK' K'
                          refine S_call T.hb77 rfl ?_
                          refine FC.mono (keeps_spec h9 tg6 A { u with q := q6 } nb w9 cc id hlc j0 g hK hsn xa hIx9) ?_
                          rintro v' h10 ⟨rfl, hE10⟩
                          refine S_notb rfl ?_
                          refine S_nil (hK28 _ _ (V_keep [0, 7, 108] (by simp only [proj, lk, reduceIte, Nat.reduceEqDiff]; rfl) ?_)); clear hK28
                          refine V_condb rfl (fun c411 => ?_) (fun c411 => ?_)
                          · skip
                            cases c411
                          · skip
                            refine V_skipk [0, 7] (by simp only [proj, lk, reduceIte, Nat.reduceEqDiff]; rfl) ?_
                            exact ⟨h10, hE10, rfl, rfl⟩
                        · skip
                          refine V_skipk [0, 7] (by simp only [proj, lk, reduceIte, Nat.reduceEqDiff]; rfl) ?_
                          exact ⟨h9, Ext.refl _ _, rfl, rfl⟩
                      rintro l h' ⟨h10, hE10, rfl, rfl⟩
                      have w10 := w9.new hE10
                      have hz10 := hE10.1
                      have hkp10 := (hkp8.trans (KP.quiet hE9)).trans (KP.quiet (tg := tg6) hE10)
                      try clear g0 g1 g2 g3
                      obtain ⟨g0, g1, g2, g3⟩ := bq4 (hG9.ext hE10 (fun f => f))
                      refine V_sr T.mix (by kernel_rfl) (fun K29 hK29 => ?_)
                      refine S_mv rfl ?_
                      first | refine S_fa0 T.f104_1 rfl ?_ | refine S_fa T.f104_1 rfl ?_
                      refine S_ldK T.ag39 rfl (fun K' hK' => ?_)
                      simp (disch := omega) only [g1, oP_some, Nat.add_zero]
                      refine hK' _ ?_; clear hK' K'
                      refine S_call T.hb73 rfl ?_
                      refine FC.mono (keep_spec h10 tg6 A { u with q := q6 } nb w10 xa g.lits (hIx9.ext hE10 (fun _ _ f => f)) (by omega) hxt6 hxba) ?_
                      rintro v' h11 ⟨rfl, tg11, us11, w11, hE11, ht11⟩
                      refine S_nil (hK29 _ _ (V_keep [] (by simp only [proj, lk, reduceIte, Nat.reduceEqDiff]; rfl) ?_)); clear hK29
                      refine V_sr T.mix (by kernel_rfl) (fun K30 hK30 => ?_)
                      refine S_as rfl ?_
                      refine S_nil (hK30 _ _ (V_keep [4] (by simp only [proj, lk, reduceIte, Nat.reduceEqDiff]; rfl) ?_)); clear hK30
                      refine V_ret ?_
                      refine hR _ _ (ret1 rfl rfl ?_)
                      exact ⟨rfl, tg11, us11, w11.up (by omega), hkp10.1.step hE11 (fun b hb e => by rcases e with e | e; (exact fun z => e (hkp10.2 b hb z)); (exfalso; have h9 := hxb b e; omega)), fun b hb e => ht11 b (by omega) (hkp10.2 b hb e) (fun z => by have h9 := hxb b z; omega)⟩
end Go.Proofs.Qxb6500400aGreat
