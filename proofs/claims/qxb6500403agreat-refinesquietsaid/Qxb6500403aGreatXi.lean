import Derived.Test.Qxb6500403aGreatSw
set_option linter.unusedVariables false
set_option linter.unusedSimpArgs false
namespace Go.Proofs.Qxb6500403aGreat
open Go.Eng Go.Trl Go.Chk Go.Wat

theorem uq {h : Heap} {A : UA} {u : US} (hD : B h A.U (ucs A u) 48) : cellH h ⟨A.U, 0, none⟩ = some (.pointer (some ⟨A.X, 0, none⟩)) ∧ cellH h ⟨A.U, 1, none⟩ = some (.pointer (some ⟨A.C, 0, none⟩)) ∧ cellH h ⟨A.U, 2, none⟩ = some (.pointer (some ⟨A.Y, 0, none⟩)) ∧ cellH h ⟨A.U, 3, none⟩ = some (.pointer (some ⟨A.M, 0, none⟩)) ∧ cellH h ⟨A.U, 4, none⟩ = some (.slice u.ra u.rg.length u.rc) ∧ cellH h ⟨A.U, 5, none⟩ = some (.slice u.ma u.mine.length u.mc) ∧ cellH h ⟨A.U, 6, none⟩ = some (.int .i64 (u.V : Int)) ∧ cellH h ⟨A.U, 7, none⟩ = some (.bool u.kn) ∧ ∀ j, j < 8 → okPut h ⟨A.U, j, none⟩ = true :=
  ⟨hD.cell 0, hD.cell 1, hD.cell 2, hD.cell 3, hD.cell 4, hD.cell 5, hD.cell 6, hD.cell 7, fun j hj => hD.ok (by simpa [ucs] using hj)⟩
/-- what an observer leaves -/
structure Obs (u u' : US) : Prop where
  cl : u'.cl = u.cl
  s : u'.s = u.s
  rg : u'.rg = u.rg
  W : u'.W = u.W
theorem Obs.refl (u : US) : Obs u u := ⟨rfl, rfl, rfl, rfl⟩
theorem Obs.trans {u v x : US} (a : Obs u v) (b : Obs v x) : Obs u x := ⟨b.cl.trans a.cl, b.s.trans a.s, b.rg.trans a.rg, b.W.trans a.W⟩
theorem rmem {l : List (Option Addr × Nat)} {j : Nat} (h : j < l.length) : l.getD j (none, 0) ∈ l := by
  rw [List.getD_eq_getElem?_getD, List.getElem?_eq_getElem h]; simp
theorem kvs_drop (l : List (Option Addr × Nat)) : kvs (l.drop 1) = (kvs l).drop 1 := by simp [kvs]
theorem kvs_one (l : List (Option Addr × Nat)) : ∀ v ∈ kvs l, v.oneCell' = true := by intro v hv; simp only [kvs, List.mem_map] at hv; obtain ⟨q, _, rfl⟩ := hv; rfl

theorem clF_len {h : Heap} {mm : MC} {cl : Nat → Option (List Int)} {G : Nat → Prop} (r : MR h mm cl G) (id : Int) : (clF cl id).length ≤ 12 := by
  unfold clF
  cases e : liveC cl id with
  | none => simp
  | some cc =>
    obtain ⟨n, c2, _, h1, h2, h3⟩ := liveS (cl := cl) (id := id) (by rw [e]; rfl)
    rw [e] at h3; cases h3
    exact (r.c n h1 cc h2).1.len
set_option maxHeartbeats 400000 in
theorem untouched_spec (h : Heap) (tg : Nat → Nat) (A : UA) (u : US) (nb : Nat) (w : UI h tg A u nb) :
    FC Tryz.prog 13 (#[.pointer (some ⟨A.U, 0, none⟩)] : Array Value) h fun rv h' => rv = .bool true ∧ h = h' := by
  try clear u0 u1 u2 u3 u4 u5 u6 u7 huok
  obtain ⟨u0, u1, u2, u3, u4, u5, u6, u7, huok⟩ := uq (w.dd)
  have hml := w.ml
  refine FC_of [(0, .pointer (some ⟨A.U, 0, none⟩))] Tryz.func13 rfl Tryz.ntmps13 (by simp) rfl (fun R hR => ?_)
  refine V_sr T.mix (by kernel_rfl) (fun K1 hK1 => ?_)
  refine S_as rfl ?_
  refine S_nil (hK1 _ _ (V_keep [0] (by simp only [proj, lk, reduceIte, Nat.reduceEqDiff]; rfl) ?_)); clear hK1
  refine V_seq (fun K2 hK2 => ?_)
  refine V_sr T.mix (by kernel_rfl) (fun K3 hK3 => ?_)
  refine S_as rfl ?_
  refine S_nil (hK3 _ _ (V_keep [0, 3] (by simp only [proj, lk, reduceIte, Nat.reduceEqDiff]; rfl) ?_)); clear hK3
  refine V_block ?_
  refine V_loop (fun m l h' => ∃ (j : Nat), (j ≤ u.mine.length) ∧ m = u.mine.length - j ∧ l = [(0, .pointer (some ⟨A.U, 0, none⟩)), (3, .int .i64 (j : Int))] ∧ h = h') _ ⟨0, by omega, rfl, rfl, rfl⟩ ?_
  rintro m l h' ⟨j, hj, rfl, rfl, rfl⟩ K4 hK4
  refine V_seq (fun K5 hK5 => ?_)
  refine V_sr T.mix (by kernel_rfl) (fun K6 hK6 => ?_)
  refine S_mv rfl ?_
  refine S_mv rfl ?_
  refine S_nc rfl ?_
  first | refine S_fa0 T.f48_4 rfl ?_ | refine S_fa T.f48_4 rfl ?_
  refine S_ldK T.ag34 rfl (fun K' hK' => ?_)
  simp (disch := omega) only [u0, u1, u2, u3, u4, u5, u6, u7, oP_some, Nat.add_zero]
  refine hK' _ ?_; clear hK' K'
  refine S_lenl T.el34 rfl ?_
  refine S_bin rfl rfl rfl ?_
  refine S_nil (hK6 _ _ (V_keep [0, 3, 11] (by simp only [proj, lk, reduceIte, Nat.reduceEqDiff]; rfl) ?_)); clear hK6
  refine V_condp rfl (fun c78 => ?_) (fun c78 => ?_)
  · skip
    obtain ⟨bm, hbm, _, hcm, _⟩ := w.mi.get (show 0 < u.mine.length by omega)
    have hcl := hcm j (by omega)
    have hkp := w.kp _ (rmem (show j < u.mine.length by omega))
    have hkb := hkp.2
    refine V_skipk [0, 3] (by simp only [proj, lk, reduceIte, Nat.reduceEqDiff]; rfl) ?_
    refine hK5 _ _ ?_; clear hK5
    refine V_seq (fun K7 hK7 => ?_)
    refine V_block ?_
    refine V_sr T.mix (by kernel_rfl) (fun K8 hK8 => ?_)
    refine S_as rfl ?_
    refine S_nil (hK8 _ _ (V_keep [0, 3, 4] (by simp only [proj, lk, reduceIte, Nat.reduceEqDiff]; rfl) ?_)); clear hK8
    refine V_block ?_
    refine V_loop (fun m l h' => ∃ (i : Nat), (i ≤ (u.mine.getD j (none, 0)).2) ∧ m = (u.mine.getD j (none, 0)).2 - i ∧ l = [(0, .pointer (some ⟨A.U, 0, none⟩)), (3, .int .i64 (j : Int)), (4, .int .i64 (i : Int))] ∧ h = h') _ ⟨0, by omega, rfl, rfl, rfl⟩ ?_
    rintro m l h' ⟨i, hi, rfl, rfl, rfl⟩ K9 hK9
    refine V_seq (fun K10 hK10 => ?_)
    refine V_sr T.mix (by kernel_rfl) (fun K11 hK11 => ?_)
    refine S_mv rfl ?_
    refine S_mv rfl ?_
    refine S_nc rfl ?_
    first | refine S_fa0 T.f48_4 rfl ?_ | refine S_fa T.f48_4 rfl ?_
    refine S_ldK T.ag34 rfl (fun K' hK' => ?_)
    simp (disch := omega) only [u5, oP_some, Nat.add_zero]
    refine hK' _ ?_; clear hK' K'
    rw [hbm]
    refine S_mv rfl ?_
    first | refine S_ixn T.el34 rfl rfl (by omega) ?_ | refine S_ix1 T.el34 rfl rfl (by omega) (by omega) ?_ | refine S_ix T.el34 rfl rfl (by omega) (by omega) ?_
    refine S_ldK T.ag33 rfl (fun K' hK' => ?_)
    simp (disch := omega) only [u5, hcl, oP_some, Nat.add_zero]
    refine hK' _ ?_; clear hK' K'
    refine S_lenl T.el33 rfl ?_
    refine S_bin rfl rfl rfl ?_
    refine S_nil (hK11 _ _ (V_keep [0, 3, 4, 23] (by simp only [proj, lk, reduceIte, Nat.reduceEqDiff]; rfl) ?_)); clear hK11
    refine V_condp rfl (fun c79 => ?_) (fun c79 => ?_)
    · skip
      obtain ⟨bq, hbq, _, _, _⟩ := hkp.1.get (by rw [List.length_replicate]; omega)
      have hIq := hkp.1
      rw [hbq] at hIq
      have hat : ∀ i, i < (u.mine.getD j (none, 0)).2 → cellH h ⟨bq, i, none⟩ = some (.int .i64 (-7777777)) := fun i hi => by rw [hIq.at (by rw [List.length_replicate]; exact hi), rep_get _ _ hi]
      refine V_skipk [0, 3, 4] (by simp only [proj, lk, reduceIte, Nat.reduceEqDiff]; rfl) ?_
      refine hK10 _ _ ?_; clear hK10
      refine V_seq (fun K12 hK12 => ?_)
      refine V_block ?_
      refine V_sr T.mix (by kernel_rfl) (fun K13 hK13 => ?_)
      refine S_mv rfl ?_
      refine S_nc rfl ?_
      first | refine S_fa0 T.f48_4 rfl ?_ | refine S_fa T.f48_4 rfl ?_
      refine S_ldK T.ag34 rfl (fun K' hK' => ?_)
      simp (disch := omega) only [u5, oP_some, Nat.add_zero]
      refine hK' _ ?_; clear hK' K'
      rw [hbm]
      refine S_mv rfl ?_
      first | refine S_ixn T.el34 rfl rfl (by omega) ?_ | refine S_ix1 T.el34 rfl rfl (by omega) (by omega) ?_ | refine S_ix T.el34 rfl rfl (by omega) (by omega) ?_
      refine S_ldK T.ag33 rfl (fun K' hK' => ?_)
      simp (disch := omega) only [hcl, oP_some, Nat.add_zero]
      refine hK' _ ?_; clear hK' K'
      rw [hbq]
      refine S_mv rfl ?_
      first | refine S_ixn T.el33 rfl rfl (by omega) ?_ | refine S_ix1 T.el33 rfl rfl (by omega) (by omega) ?_ | refine S_ix T.el33 rfl rfl (by omega) (by omega) ?_
      refine S_ldK T.ag3 rfl (fun K' hK' => ?_)
      simp (disch := omega) only [u5, hcl, hat, oP_some, Nat.add_zero]
      refine hK' _ ?_; clear hK' K'
      refine S_bin rfl rfl rfl ?_
      refine S_nil (hK13 _ _ (V_keep [0, 3, 4, 36] (by simp only [proj, lk, reduceIte, Nat.reduceEqDiff]; rfl) ?_)); clear hK13
      refine V_condp rfl (fun c80 => ?_) (fun c80 => ?_)
      · skip
        exfalso; exact c80 rfl
      · skip
        refine V_skipk [0, 3, 4] (by simp only [proj, lk, reduceIte, Nat.reduceEqDiff]; rfl) ?_
        refine hK12 _ _ ?_; clear hK12
        refine V_reg T.mix (by kernel_rfl) ?_
        refine S_mv rfl ?_
        first | refine S_add rfl rfl (by omega) (by omega) ?_ | refine S_bin rfl rfl rfl ?_
        refine S_as rfl ?_
        refine S_nilk [0, 3, 4] (by simp only [proj, lk, reduceIte, Nat.reduceEqDiff]; rfl) ?_
        exact hK9 _ _ ⟨_, by omega, i + 1, by omega, rfl, rfl, rfl⟩
    · skip
      refine V_exitk [0, 3] rfl (by simp only [proj, lk, reduceIte, Nat.reduceEqDiff]; rfl) ?_
      refine hK7 _ _ ?_; clear hK7
      refine V_reg T.mix (by kernel_rfl) ?_
      refine S_mv rfl ?_
      first | refine S_add rfl rfl (by omega) (by omega) ?_ | refine S_bin rfl rfl rfl ?_
      refine S_as rfl ?_
      refine S_nilk [0, 3] (by simp only [proj, lk, reduceIte, Nat.reduceEqDiff]; rfl) ?_
      exact hK4 _ _ ⟨_, by omega, j + 1, by omega, rfl, rfl, rfl⟩
  · skip
    refine V_exitk [] rfl (by simp only [proj, lk, reduceIte, Nat.reduceEqDiff]; rfl) ?_
    refine hK2 _ _ ?_; clear hK2
    refine V_sr T.mix (by kernel_rfl) (fun K14 hK14 => ?_)
    refine S_as rfl ?_
    refine S_nil (hK14 _ _ (V_keep [2] (by simp only [proj, lk, reduceIte, Nat.reduceEqDiff]; rfl) ?_)); clear hK14
    refine V_ret ?_
    refine hR _ _ (ret1 rfl rfl ?_)
    exact ⟨rfl, rfl⟩
set_option maxHeartbeats 1600000 in
theorem keep_spec (h : Heap) (tg : Nat → Nat) (A : UA) (u : US) (nb : Nat) (w : UI h tg A u nb) (la : Option Addr) (n : Nat) (hkn : Kp h (la, n)) (h0 : ∀ b, blkA la = some b → tg b = 0) (hlb : ∀ b, blkA la = some b → A.base ≤ b) :
    FC Tryz.prog 96 (#[.pointer (some ⟨A.U, 0, none⟩), .slice la n n] : Array Value) h fun rv h' => rv = .bool true ∧ ∃ (tg' : Nat → Nat) (ma' : Option Addr) (mc' : Nat) (mine' : List (Option Addr × Nat)), UI h' tg' A { u with ma := ma', mc := mc', mine := mine' } nb ∧ Ext (fun b => tg b ≠ 0) h h' ∧ (∀ b, b < h.size → tg b = 0 → blkA la ≠ some b → tg' b = 0) := by
  try clear u0 u1 u2 u3 u4 u5 u6 u7 huok
  obtain ⟨u0, u1, u2, u3, u4, u5, u6, u7, huok⟩ := uq (w.dd)
  have hml := w.ml
  have hUl := w.lt1.1
  have hmU : ∀ b, blkA u.ma = some b → b ≠ A.U := fun b e z => by have h9 := w.tm b e; rw [z, w.tU] at h9; omega
  refine FC_of [(0, .pointer (some ⟨A.U, 0, none⟩)), (1, .slice la n n)] Tryz.func96 rfl Tryz.ntmps96 (by simp) rfl (fun R hR => ?_)
  refine V_sr T.mix (by kernel_rfl) (fun K1 hK1 => ?_)
  refine S_as rfl ?_
  refine S_nil (hK1 _ _ (V_keep [0, 1] (by simp only [proj, lk, reduceIte, Nat.reduceEqDiff]; rfl) ?_)); clear hK1
  refine V_seqJ (fun l h' => ∃ (h3 : Heap) (ma3 : Option Addr) (mc3 : Nat) (mine3 : List (Option Addr × Nat)), (B h3 A.U (ucs A { u with ma := ma3, mc := mc3, mine := mine3 }) 48) ∧ (MI h3 ma3 mc3 mine3) ∧ (mine3.length < 16) ∧ (∀ q ∈ mine3, q ∈ u.mine) ∧ (∀ b, blkA ma3 = some b → blkA u.ma = some b ∨ h.size ≤ b) ∧ (Ext (fun b => b = A.U ∨ blkA u.ma = some b) h h3) ∧ l = [(0, .pointer (some ⟨A.U, 0, none⟩)), (1, .slice la n n)] ∧ h3 = h') ?_ ?_
  · skip
    refine V_sr T.mix (by kernel_rfl) (fun K3 hK3 => ?_)
    refine S_mv rfl ?_
    refine S_nc rfl ?_
    first | refine S_fa0 T.f48_4 rfl ?_ | refine S_fa T.f48_4 rfl ?_
    refine S_ldK T.ag34 rfl (fun K' hK' => ?_)
    simp (disch := omega) only [u0, u1, u2, u3, u4, u5, u6, u7, oP_some, Nat.add_zero]
    refine hK' _ ?_; clear hK' K'
    refine S_lenl T.el34 rfl ?_
    refine S_bin rfl rfl rfl ?_
    refine S_nil (hK3 _ _ (V_keep [0, 1, 13] (by simp only [proj, lk, reduceIte, Nat.reduceEqDiff]; rfl) ?_)); clear hK3
    refine V_condp rfl (fun c61 => ?_) (fun c61 => ?_)
    · skip
      obtain ⟨bm, hbm, _, hcm, _⟩ := w.mi.get (show 0 < u.mine.length by omega)
      have hcl := hcm 0 (by omega)
      have hkp := w.kp _ (rmem (show 0 < u.mine.length by omega))
      have hkb := hkp.2
      have hmi := w.mi
      rw [hbm] at hmi
      have hcap := (OwnR.len hmi).2
      refine V_sr T.mix (by kernel_rfl) (fun K4 hK4 => ?_)
      refine S_mv rfl ?_
      refine S_nc rfl ?_
      first | refine S_fa0 T.f48_4 rfl ?_ | refine S_fa T.f48_4 rfl ?_
      refine S_ldK T.ag34 rfl (fun K' hK' => ?_)
      simp (disch := omega) only [u5, oP_some, Nat.add_zero]
      refine hK' _ ?_; clear hK' K'
      rw [hbm]
      first | refine S_ixn T.el34 rfl rfl (by omega) ?_ | refine S_ix1 T.el34 rfl rfl (by omega) (by omega) ?_ | refine S_ix T.el34 rfl rfl (by omega) (by omega) ?_
      refine S_ldK T.ag33 rfl (fun K' hK' => ?_)
      simp (disch := omega) only [hcl, Int.toNat_zero, Nat.zero_mul, Nat.zero_add, oP_some, Nat.add_zero]
      refine hK' _ ?_; clear hK' K'
      refine S_as rfl ?_
      refine S_nil (hK4 _ _ (V_keep [0, 1, 5] (by simp only [proj, lk, reduceIte, Nat.reduceEqDiff]; rfl) ?_)); clear hK4
      refine V_seq (fun K5 hK5 => ?_)
      refine V_sr T.mix (by kernel_rfl) (fun K6 hK6 => ?_)
      refine S_as rfl ?_
      refine S_nil (hK6 _ _ (V_keep [0, 1, 5, 6] (by simp only [proj, lk, reduceIte, Nat.reduceEqDiff]; rfl) ?_)); clear hK6
      refine V_block ?_
      refine V_loop (fun m l h' => ∃ (i : Nat), (i ≤ (u.mine.getD 0 (none, 0)).2) ∧ m = (u.mine.getD 0 (none, 0)).2 - i ∧ l = [(0, .pointer (some ⟨A.U, 0, none⟩)), (1, .slice la n n), (5, .slice (u.mine.getD 0 (none, 0)).1 (u.mine.getD 0 (none, 0)).2 (u.mine.getD 0 (none, 0)).2), (6, .int .i64 (i : Int))] ∧ h = h') _ ⟨0, by omega, rfl, rfl, rfl⟩ ?_
      rintro m l h' ⟨i, hi, rfl, rfl, rfl⟩ K7 hK7
      refine V_seq (fun K8 hK8 => ?_)
      refine V_sr T.mix (by kernel_rfl) (fun K9 hK9 => ?_)
      refine S_mv rfl ?_
      refine S_mv rfl ?_
      refine S_lenl T.el33 rfl ?_
      refine S_bin rfl rfl rfl ?_
      refine S_nil (hK9 _ _ (V_keep [0, 1, 5, 6, 23] (by simp only [proj, lk, reduceIte, Nat.reduceEqDiff]; rfl) ?_)); clear hK9
      refine V_condp rfl (fun c63 => ?_) (fun c63 => ?_)
      · skip
        obtain ⟨bq, hbq, _, _, _⟩ := hkp.1.get (by rw [List.length_replicate]; omega)
        have hIq := hkp.1
        rw [hbq] at hIq
        have hat : ∀ i, i < (u.mine.getD 0 (none, 0)).2 → cellH h ⟨bq, i, none⟩ = some (.int .i64 (-7777777)) := fun i hi => by rw [hIq.at (by rw [List.length_replicate]; exact hi), rep_get _ _ hi]
        try rw [hbq]
        refine V_skipk [0, 1, 5, 6] (by simp only [proj, lk, reduceIte, Nat.reduceEqDiff]; rfl) ?_
        refine hK8 _ _ ?_; clear hK8
        refine V_seq (fun K10 hK10 => ?_)
        refine V_block ?_
        refine V_sr T.mix (by kernel_rfl) (fun K11 hK11 => ?_)
        refine S_mv rfl ?_
        refine S_mv rfl ?_
        first | refine S_ixn T.el33 rfl rfl (by omega) ?_ | refine S_ix1 T.el33 rfl rfl (by omega) (by omega) ?_ | refine S_ix T.el33 rfl rfl (by omega) (by omega) ?_
        refine S_ldK T.ag3 rfl (fun K' hK' => ?_)
        simp (disch := omega) only [hat, oP_some, Nat.add_zero]
        refine hK' _ ?_; clear hK' K'
        refine S_bin rfl rfl rfl ?_
        refine S_nil (hK11 _ _ (V_keep [0, 1, 5, 6, 30] (by simp only [proj, lk, reduceIte, Nat.reduceEqDiff]; rfl) ?_)); clear hK11
        refine V_condp rfl (fun c64 => ?_) (fun c64 => ?_)
        · skip
          exfalso; exact c64 rfl
        · skip
          refine V_skipk [0, 1, 5, 6] (by simp only [proj, lk, reduceIte, Nat.reduceEqDiff]; rfl) ?_
          refine hK10 _ _ ?_; clear hK10
          refine V_reg T.mix (by kernel_rfl) ?_
          refine S_mv rfl ?_
          first | refine S_add rfl rfl (by omega) (by omega) ?_ | refine S_bin rfl rfl rfl ?_
          refine S_as rfl ?_
          refine S_nilk [0, 1, 5, 6] (by simp only [proj, lk, reduceIte, Nat.reduceEqDiff]; rfl) ?_
          try rw [← hbq]
          exact hK7 _ _ ⟨_, by omega, i + 1, by omega, rfl, rfl, rfl⟩
      · skip
        refine V_exitk [0, 1] rfl (by simp only [proj, lk, reduceIte, Nat.reduceEqDiff]; rfl) ?_
        refine hK5 _ _ ?_; clear hK5
        refine V_sr T.mix (by kernel_rfl) (fun K12 hK12 => ?_)
        refine S_as rfl ?_
        refine S_nil (hK12 _ _ (V_keep [0, 1, 7] (by simp only [proj, lk, reduceIte, Nat.reduceEqDiff]; rfl) ?_)); clear hK12
        refine V_sr T.mix (by kernel_rfl) (fun K13 hK13 => ?_)
        refine S_mv rfl ?_
        refine S_mv rfl ?_
        refine S_nc rfl ?_
        first | refine S_fa0 T.f48_4 rfl ?_ | refine S_fa T.f48_4 rfl ?_
        refine S_ldK T.ag34 rfl (fun K' hK' => ?_)
        simp (disch := omega) only [u5, oP_some, Nat.add_zero]
        refine hK' _ ?_; clear hK' K'
        rw [hbm]
        refine S_sl rfl rfl rfl (sliceV_one T.el34 (by omega) hcap) ?_
        refine S_appx (lo := h.size) T.ei34 T.ni34 T.us34 rfl rfl rfl (OwnR.nil _ _ _ _) (by omega) (srcV_one hmi (by omega)) (by rw [List.length_drop, kvs_len, Nat.mul_one]) (by omega) (by decide) (by decide) (by rw [← kvs_drop, List.all_eq_true]; exact kvs_one _) (fun a2 c2 h2 ho2 hE2 hb2 => ?_)
        have hE2f : Ext (fun _ => False) h h2 := hE2.mono fun b e => by simp [blkA] at e
        have hD2 := w.dd.ext hE2f (fun f => f)
        try clear u0 u1 u2 u3 u4 u5 u6 u7 huok
        obtain ⟨u0, u1, u2, u3, u4, u5, u6, u7, huok⟩ := uq (hD2)
        have ha2 : ∀ b, blkA a2 = some b → h.size ≤ b := fun b e => (OwnR.blk2 ho2 e).1
        have hm2 : MI h2 a2 c2 (u.mine.drop 1) := by
          have h9 := own0 ho2
          rw [List.nil_append, ← kvs_drop, Nat.zero_add] at h9
          unfold MI; rw [List.length_drop]; exact h9
        refine S_as rfl ?_
        refine S_nil (hK13 _ _ (V_keep [0, 1, 7] (by simp only [proj, lk, reduceIte, Nat.reduceEqDiff]; rfl) ?_)); clear hK13
        refine V_reg T.mix (by kernel_rfl) ?_
        refine S_mv rfl ?_
        refine S_mv rfl ?_
        refine S_nc rfl ?_
        first | refine S_fa0 T.f48_4 rfl ?_ | refine S_fa T.f48_4 rfl ?_
        refine S_st T.sz34 rfl rfl rfl rfl (by simp (disch := omega) only [huok]) ?_
        generalize hh : putH _ _ _ = h3
        have hD3 : B h3 A.U (ucs A { u with ma := a2, mc := c2, mine := (u.mine.drop 1) }) 48 := by rw [← hh]; exact (hD2.put 5 _).cong (by simp [ucs])
        have hE3 : Ext (fun b => b = A.U) h2 h3 := by rw [← hh]; exact Ext.put _ _ rfl
        clear hh
        refine S_nilk [0, 1] (by simp only [proj, lk, reduceIte, Nat.reduceEqDiff]; rfl) ?_
        exact ⟨h3, a2, c2, u.mine.drop 1, hD3, hm2.ext hE3 (fun b e z => by have h7 := ha2 b e; omega), by simp; omega, fun q hq => List.mem_of_mem_drop hq, fun b e => .inr (ha2 b e), (hE2f.mono fun _ f => f.elim).trans (hE3.mono fun _ e => .inl e), rfl, rfl⟩
    · skip
      refine V_skipk [0, 1] (by simp only [proj, lk, reduceIte, Nat.reduceEqDiff]; rfl) ?_
      exact ⟨h, u.ma, u.mc, u.mine, w.dd, w.mi, by omega, fun q hq => hq, fun b e => .inl e, Ext.refl _ _, rfl, rfl⟩
  rintro l h' ⟨h3, ma3, mc3, mine3, hD3, hmi3, hml3, hsub, hb3, hE3, rfl, rfl⟩
  try clear u0 u1 u2 u3 u4 u5 u6 u7 huok
  obtain ⟨u0, u1, u2, u3, u4, u5, u6, u7, huok⟩ := uq (hD3)
  have hs3 := hE3.1
  have hm3U : ∀ b, blkA ma3 = some b → b ≠ A.U := fun b e z => by rcases hb3 b e with q | q; (exact hmU b q z); (omega)
  refine V_sr T.mix (by kernel_rfl) (fun K14 hK14 => ?_)
  refine S_mv rfl ?_
  refine S_mv rfl ?_
  refine S_nc rfl ?_
  first | refine S_fa0 T.f48_4 rfl ?_ | refine S_fa T.f48_4 rfl ?_
  refine S_ldK T.ag34 rfl (fun K' hK' => ?_)
  simp (disch := omega) only [u0, u1, u2, u3, u4, u5, u6, u7, oP_some, Nat.add_zero]
  refine hK' _ ?_; clear hK' K'
  refine S_mv rfl ?_
  refine S_bs T.ei34 rfl (by decide) (by decide) (T.bs34_1_0 _ _ _) ?_
  refine S_appx (lo := 0) T.ei34 T.ni34 T.us34 rfl rfl rfl (OwnR.ext hmi3 (Ext.push (fun _ => False) _ _) (fun _ _ f => f)) (Nat.zero_le _) (cellsH_new _ _ _) rfl (by omega) (by decide) (by decide) rfl (fun a4 c4 h4 ho4 hE4x hb4x => ?_)
  have hE4 : Ext (fun z => blkA ma3 = some z) h3 h4 := (Ext.push _ _ _).trans hE4x
  have hb4 := new_blk2 (h := h3) hb4x (by simp)
  have hD4 := hD3.ext hE4 (fun e => hm3U A.U e rfl)
  try clear u0 u1 u2 u3 u4 u5 u6 u7 huok
  obtain ⟨u0, u1, u2, u3, u4, u5, u6, u7, huok⟩ := uq (hD4)
  refine S_nc rfl ?_
  first | refine S_fa0 T.f48_4 rfl ?_ | refine S_fa T.f48_4 rfl ?_
  refine S_st T.sz34 rfl rfl rfl rfl (by simp (disch := omega) only [huok]) ?_
  generalize hh : putH _ _ _ = h5
  have hD5 : B h5 A.U (ucs A { u with ma := a4, mc := c4, mine := (mine3 ++ [(la, n)]) }) 48 := by rw [← hh]; exact (hD4.put 5 _).cong (by simp [ucs])
  have hE5 : Ext (fun b => b = A.U) h4 h5 := by rw [← hh]; exact Ext.put _ _ rfl
  clear hh
  refine S_nil (hK14 _ _ (V_keep [] (by simp only [proj, lk, reduceIte, Nat.reduceEqDiff]; rfl) ?_)); clear hK14
  refine V_sr T.mix (by kernel_rfl) (fun K15 hK15 => ?_)
  refine S_as rfl ?_
  refine S_nil (hK15 _ _ (V_keep [4] (by simp only [proj, lk, reduceIte, Nat.reduceEqDiff]; rfl) ?_)); clear hK15
  refine V_ret ?_
  refine hR _ _ (ret1 rfl rfl ?_)
  have hmi5 : MI h5 a4 c4 (mine3 ++ [(la, n)]) := by
    have h9 : MI h4 a4 c4 (mine3 ++ [(la, n)]) := by unfold MI; rw [kvs_snoc, List.length_append]; exact ho4
    exact h9.ext hE5 (fun b e z => by rcases hb4 b e with q | q; (exact hm3U b q z); (omega))
  have hEt : Ext (fun b => b = A.U ∨ blkA u.ma = some b) h h5 := (hE3.step hE4 (fun b hb e => by rcases hb3 b e with q | q; (exact .inr q); (omega))).trans (hE5.mono fun _ e => .inl e)
  obtain ⟨tg2, w2, ht2⟩ := w.keep (la := la) (n := n) hEt hD5 hmi5 (fun q hq => by rcases List.mem_append.1 hq with z | z; (exact .inl (hsub q z)); (exact .inr (List.mem_singleton.1 z))) (by simp; omega) (fun b e => by rcases hb4 b e with q | q; (exact hb3 b q); (exact .inr (by omega))) hkn h0 hlb
  exact ⟨rfl, tg2, a4, c4, _, w2, hEt.mono (fun b e => by rcases e with e | e; (rw [e, w.tU]; omega); (rw [w.tm b e]; omega)), fun b hb e hl => by rw [ht2 b hb hl]; exact e⟩
set_option maxHeartbeats 400000 in
theorem owned_spec (h : Heap) (tg : Nat → Nat) (A : UA) (u : US) (nb : Nat) (w : UI h tg A u nb) (la : Option Addr) (xs : List Int) (hI : IL h la xs.length xs) (hnil : xs.length = 0 → la = none) (h0 : ∀ b, blkA la = some b → tg b = 0) (hlb : ∀ b, blkA la = some b → A.base ≤ b) (hxl : xs.length ≤ 1000) :
    FC Tryz.prog 66 (#[.pointer (some ⟨A.U, 0, none⟩), .slice la xs.length xs.length] : Array Value) h fun rv h' => rv = .bool true ∧ ∃ (tg' : Nat → Nat) (u' : US), UI h' tg' A u' nb ∧ Obs u u' ∧ Ext (fun b => tg b ≠ 0 ∨ blkA la = some b) h h' ∧ (∀ b, b < h.size → tg b = 0 → blkA la ≠ some b → tg' b = 0) := by
  refine FC_of [(0, .pointer (some ⟨A.U, 0, none⟩)), (1, .slice la xs.length xs.length)] Tryz.func66 rfl Tryz.ntmps66 (by simp) rfl (fun R hR => ?_)
  refine V_sr T.mix (by kernel_rfl) (fun K1 hK1 => ?_)
  refine S_as rfl ?_
  refine S_nil (hK1 _ _ (V_keep [0, 1] (by simp only [proj, lk, reduceIte, Nat.reduceEqDiff]; rfl) ?_)); clear hK1
  refine V_seq (fun K2 hK2 => ?_)
  refine V_sr T.mix (by kernel_rfl) (fun K3 hK3 => ?_)
  refine S_mv rfl ?_
  refine S_call T.hb13 rfl ?_
  refine FC.mono (untouched_spec h tg A u nb w) ?_
  rintro v' h' ⟨rfl, rfl⟩
  refine S_notb rfl ?_
  refine S_nil (hK3 _ _ (V_keep [0, 1, 8] (by simp only [proj, lk, reduceIte, Nat.reduceEqDiff]; rfl) ?_)); clear hK3
  refine V_condb rfl (fun c91 => ?_) (fun c91 => ?_)
  · skip
    cases c91
  · skip
    refine V_skipk [0, 1] (by simp only [proj, lk, reduceIte, Nat.reduceEqDiff]; rfl) ?_
    refine hK2 _ _ ?_; clear hK2
    refine V_seq (fun K4 hK4 => ?_)
    refine V_sr T.mix (by kernel_rfl) (fun K5 hK5 => ?_)
    refine S_mv rfl ?_
    refine S_lenl T.el33 rfl ?_
    refine S_bin rfl rfl rfl ?_
    refine S_nil (hK5 _ _ (V_keep [0, 1, 11] (by simp only [proj, lk, reduceIte, Nat.reduceEqDiff]; rfl) ?_)); clear hK5
    refine V_condp rfl (fun c94 => ?_) (fun c94 => ?_)
    · skip
      refine V_sr T.mix (by kernel_rfl) (fun K6 hK6 => ?_)
      refine S_mv rfl ?_
      refine S_bin rfl rfl (by simp only [binV, T.kd33]; rfl) ?_
      refine S_as rfl ?_
      refine S_nil (hK6 _ _ (V_keep [4] (by simp only [proj, lk, reduceIte, Nat.reduceEqDiff]; rfl) ?_)); clear hK6
      refine V_ret ?_
      refine hR _ _ (ret1 rfl rfl ?_)
      exact ⟨by rw [hnil (by omega)]; rfl, tg, u, w, Obs.refl u, Ext.refl _ _, fun b hb e _ => e⟩
    · skip
      refine V_skipk [0, 1] (by simp only [proj, lk, reduceIte, Nat.reduceEqDiff]; rfl) ?_
      refine hK4 _ _ ?_; clear hK4
      refine V_seq (fun K7 hK7 => ?_)
      refine V_sr T.mix (by kernel_rfl) (fun K8 hK8 => ?_)
      refine S_mv rfl ?_
      refine S_capl T.el33 rfl ?_
      refine S_mv rfl ?_
      refine S_lenl T.el33 rfl ?_
      refine S_bin rfl rfl rfl ?_
      refine S_nil (hK8 _ _ (V_keep [0, 1, 18] (by simp only [proj, lk, reduceIte, Nat.reduceEqDiff]; rfl) ?_)); clear hK8
      refine V_condp rfl (fun c97 => ?_) (fun c97 => ?_)
      · skip
        exfalso; exact c97 rfl
      · skip
        refine V_skipk [0, 1] (by simp only [proj, lk, reduceIte, Nat.reduceEqDiff]; rfl) ?_
        refine hK7 _ _ ?_; clear hK7
        refine V_seq (fun K9 hK9 => ?_)
        refine V_sr T.mix (by kernel_rfl) (fun K10 hK10 => ?_)
        refine S_as rfl ?_
        refine S_nil (hK10 _ _ (V_keep [0, 1, 5] (by simp only [proj, lk, reduceIte, Nat.reduceEqDiff]; rfl) ?_)); clear hK10
        refine V_block ?_
        refine V_loop (fun m l h' => ∃ (i : Nat) (hk : Heap), (i ≤ xs.length) ∧ (IL hk la xs.length (List.replicate i (-7777777) ++ xs.drop i)) ∧ (Ext (fun b => blkA la = some b) h hk) ∧ m = xs.length - i ∧ l = [(0, .pointer (some ⟨A.U, 0, none⟩)), (1, .slice la xs.length xs.length), (5, .int .i64 (i : Int))] ∧ hk = h') _ ⟨0, h, by omega, by simpa using hI, Ext.refl _ _, rfl, rfl, rfl⟩ ?_
        rintro m l h' ⟨i, hk, hi, hIk, hE, rfl, rfl, rfl⟩ K11 hK11
        refine V_seq (fun K12 hK12 => ?_)
        refine V_sr T.mix (by kernel_rfl) (fun K13 hK13 => ?_)
        refine S_mv rfl ?_
        refine S_mv rfl ?_
        refine S_lenl T.el33 rfl ?_
        refine S_bin rfl rfl rfl ?_
        refine S_nil (hK13 _ _ (V_keep [0, 1, 5, 22] (by simp only [proj, lk, reduceIte, Nat.reduceEqDiff]; rfl) ?_)); clear hK13
        refine V_condp rfl (fun c100 => ?_) (fun c100 => ?_)
        · skip
          have hln : (List.replicate i (-7777777 : Int) ++ xs.drop i).length = xs.length := by simp; omega
          obtain ⟨ba, hba, ha2, ha3, ha4⟩ := IL.get hIk (by omega)
          have hcp := IL.cap hIk
          have hok := ha4 i (by omega)
          subst hba
          refine V_skipk [0, 1, 5] (by simp only [proj, lk, reduceIte, Nat.reduceEqDiff]; rfl) ?_
          refine hK12 _ _ ?_; clear hK12
          refine V_seq (fun K14 hK14 => ?_)
          refine V_block ?_
          refine V_reg T.mix (by kernel_rfl) ?_
          refine S_mv rfl ?_
          refine S_mv rfl ?_
          first | refine S_ixn T.el33 rfl rfl (by omega) ?_ | refine S_ix1 T.el33 rfl rfl (by omega) (by omega) ?_ | refine S_ix T.el33 rfl rfl (by omega) (by omega) ?_
          refine S_st T.sz3 rfl rfl rfl rfl (by simp (disch := omega) only [hok]) ?_
          generalize hh : putH _ _ _ = h2
          have hI2 : IL h2 (some ⟨ba, 0, none⟩) xs.length (List.replicate (i + 1) (-7777777) ++ xs.drop (i + 1)) := by rw [← hh, ← spoil_set xs (by omega)]; exact hIk.put i _
          have hE2 : Ext (fun b => blkA (some ⟨ba, 0, none⟩) = some b) h h2 := by rw [← hh]; exact hE.trans (Ext.put _ _ rfl)
          clear hh
          refine S_nilk [0, 1, 5] (by simp only [proj, lk, reduceIte, Nat.reduceEqDiff]; rfl) ?_
          refine hK14 _ _ ?_; clear hK14
          refine V_reg T.mix (by kernel_rfl) ?_
          refine S_mv rfl ?_
          first | refine S_add rfl rfl (by omega) (by omega) ?_ | refine S_bin rfl rfl rfl ?_
          refine S_as rfl ?_
          refine S_nilk [0, 1, 5] (by simp only [proj, lk, reduceIte, Nat.reduceEqDiff]; rfl) ?_
          exact hK11 _ _ ⟨_, by omega, i + 1, h2, by omega, hI2, hE2, rfl, rfl, rfl⟩
        · skip
          refine V_exitk [0, 1] rfl (by simp only [proj, lk, reduceIte, Nat.reduceEqDiff]; rfl) ?_
          refine hK9 _ _ ?_; clear hK9
          refine V_sr T.mix (by kernel_rfl) (fun K15 hK15 => ?_)
          refine S_mv rfl ?_
          refine S_mv rfl ?_
          refine S_call T.hb96 rfl ?_
          have wk : UI hk tg A u nb := w.ext hE (fun b e => h0 b e)
          refine FC.mono (keep_spec hk tg A u nb wk la xs.length ⟨by have h9 := hIk; rw [show i = xs.length by omega, List.drop_length, List.append_nil] at h9; exact h9, hxl⟩ h0 hlb) ?_
          rintro v' h2 ⟨rfl, tg2, a2, c2, l2, w2, hE2, ht2⟩
          refine S_as rfl ?_
          refine S_nil (hK15 _ _ (V_keep [4] (by simp only [proj, lk, reduceIte, Nat.reduceEqDiff]; rfl) ?_)); clear hK15
          refine V_ret ?_
          refine hR _ _ (ret1 rfl rfl ?_)
          exact ⟨rfl, tg2, _, w2, ⟨rfl, rfl, rfl, rfl⟩, (hE.mono fun b e => .inr e).trans (hE2.mono fun b e => .inl e), fun b hb e hl => ht2 b (Nat.lt_of_lt_of_le hb hE.1) e hl⟩
set_option maxHeartbeats 400000 in
theorem in_spec (h : Heap) (a : Option Addr) (cap : Nat) (xs : List Int) (ho : IL h a cap xs) (hl : xs.length ≤ 1099511627776) (x : Int) :
    FC Tryz.prog 95 (#[.slice a xs.length cap, .int .i64 x] : Array Value) h fun rv h' => rv = .bool (decide (x ∈ xs)) ∧ h = h' := by
  refine FC_of [(0, .slice a xs.length cap), (1, .int .i64 x)] Tryz.func95 rfl Tryz.ntmps95 (by simp) rfl (fun R hR => ?_)
  refine V_sr T.mix (by kernel_rfl) (fun K1 hK1 => ?_)
  refine S_as rfl ?_
  refine S_nil (hK1 _ _ (V_keep [0, 1] (by simp only [proj, lk, reduceIte, Nat.reduceEqDiff]; rfl) ?_)); clear hK1
  refine V_seq (fun K2 hK2 => ?_)
  refine V_sr T.mix (by kernel_rfl) (fun K3 hK3 => ?_)
  refine S_as rfl ?_
  refine S_nil (hK3 _ _ (V_keep [0, 1, 5] (by simp only [proj, lk, reduceIte, Nat.reduceEqDiff]; rfl) ?_)); clear hK3
  refine V_block ?_
  refine V_loop (fun m l h' => ∃ (i : Nat), (i ≤ xs.length) ∧ (x ∉ xs.take i) ∧ m = xs.length - i ∧ l = [(0, .slice a xs.length cap), (1, .int .i64 x), (5, .int .i64 (i : Int))] ∧ h = h') _ ⟨0, by omega, by simp, rfl, rfl, rfl⟩ ?_
  rintro m l h' ⟨i, hi, hn, rfl, rfl, rfl⟩ K4 hK4
  refine V_seq (fun K5 hK5 => ?_)
  refine V_sr T.mix (by kernel_rfl) (fun K6 hK6 => ?_)
  refine S_mv rfl ?_
  refine S_mv rfl ?_
  refine S_lenl T.el33 rfl ?_
  refine S_bin rfl rfl rfl ?_
  refine S_nil (hK6 _ _ (V_keep [0, 1, 5, 9] (by simp only [proj, lk, reduceIte, Nat.reduceEqDiff]; rfl) ?_)); clear hK6
  refine V_condp rfl (fun c125 => ?_) (fun c125 => ?_)
  · skip
    obtain ⟨bb, rfl, _, _, _⟩ := ho.get (by omega)
    refine V_skipk [0, 1, 5] (by simp only [proj, lk, reduceIte, Nat.reduceEqDiff]; rfl) ?_
    refine hK5 _ _ ?_; clear hK5
    refine V_seq (fun K7 hK7 => ?_)
    refine V_block ?_
    refine V_sr T.mix (by kernel_rfl) (fun K8 hK8 => ?_)
    refine S_mv rfl ?_
    refine S_mv rfl ?_
    first | refine S_ixn T.el33 rfl rfl (by omega) ?_ | refine S_ix1 T.el33 rfl rfl (by omega) (by omega) ?_ | refine S_ix T.el33 rfl rfl (by omega) (by omega) ?_
    refine S_ldK T.ag3 rfl (fun K' hK' => ?_)
    simp (disch := omega) only [ho.at, oP_some, Nat.add_zero]
    refine hK' _ ?_; clear hK' K'
    refine S_mv rfl ?_
    refine S_bin rfl rfl rfl ?_
    refine S_nil (hK8 _ _ (V_keep [0, 1, 5, 17] (by simp only [proj, lk, reduceIte, Nat.reduceEqDiff]; rfl) ?_)); clear hK8
    refine V_condp rfl (fun c126 => ?_) (fun c126 => ?_)
    · skip
      refine V_sr T.mix (by kernel_rfl) (fun K9 hK9 => ?_)
      refine S_as rfl ?_
      refine S_nil (hK9 _ _ (V_keep [4] (by simp only [proj, lk, reduceIte, Nat.reduceEqDiff]; rfl) ?_)); clear hK9
      refine V_ret ?_
      refine hR _ _ (ret1 rfl rfl ?_)
      exact ⟨by rw [decide_eq_true (by rw [← c126]; exact mem_at (by omega))], rfl⟩
    · skip
      refine V_skipk [0, 1, 5] (by simp only [proj, lk, reduceIte, Nat.reduceEqDiff]; rfl) ?_
      refine hK7 _ _ ?_; clear hK7
      refine V_reg T.mix (by kernel_rfl) ?_
      refine S_mv rfl ?_
      first | refine S_add rfl rfl (by omega) (by omega) ?_ | refine S_bin rfl rfl rfl ?_
      refine S_as rfl ?_
      refine S_nilk [0, 1, 5] (by simp only [proj, lk, reduceIte, Nat.reduceEqDiff]; rfl) ?_
      exact hK4 _ _ ⟨_, by omega, i + 1, by omega, fun e => by rcases (mem_take_snoc (by omega)).1 e with q | q; (exact hn q); (exact c126 q.symm), rfl, rfl, rfl⟩
  · skip
    refine V_exitk [] rfl (by simp only [proj, lk, reduceIte, Nat.reduceEqDiff]; rfl) ?_
    refine hK2 _ _ ?_; clear hK2
    refine V_sr T.mix (by kernel_rfl) (fun K10 hK10 => ?_)
    refine S_as rfl ?_
    refine S_nil (hK10 _ _ (V_keep [4] (by simp only [proj, lk, reduceIte, Nat.reduceEqDiff]; rfl) ?_)); clear hK10
    refine V_ret ?_
    refine hR _ _ (ret1 rfl rfl ?_)
    exact ⟨by rw [decide_eq_false (by rw [show i = xs.length by omega, List.take_length] at hn; exact hn)], rfl⟩
set_option maxHeartbeats 400000 in
theorem samevisits_spec (h : Heap) (tg : Nat → Nat) (A : UA) (u : US) (nb : Nat) (w : UI h tg A u nb) :
    FC Tryz.prog 27 (#[.pointer (some ⟨A.U, 0, none⟩)] : Array Value) h fun rv h' => rv = .bool true ∧ ∃ (tg' : Nat → Nat) (u' : US), UI h' tg' A u' nb ∧ Obs u u' ∧ KP tg tg' h h' := by
  try clear u0 u1 u2 u3 u4 u5 u6 u7 huok
  obtain ⟨u0, u1, u2, u3, u4, u5, u6, u7, huok⟩ := uq (w.dd)
  have hvs := w.vs
  have hsb := w.sb
  have hvk := w.vk
  refine FC_of [(0, .pointer (some ⟨A.U, 0, none⟩))] Tryz.func27 rfl Tryz.ntmps27 (by simp) rfl (fun R hR => ?_)
  refine V_sr T.mix (by kernel_rfl) (fun K1 hK1 => ?_)
  refine S_as rfl ?_
  refine S_nil (hK1 _ _ (V_keep [0] (by simp only [proj, lk, reduceIte, Nat.reduceEqDiff]; rfl) ?_)); clear hK1
  refine V_sr T.mix (by kernel_rfl) (fun K2 hK2 => ?_)
  refine S_mv rfl ?_
  refine S_nc rfl ?_
  first | refine S_fa0 T.f48_1 rfl ?_ | refine S_fa T.f48_1 rfl ?_
  refine S_ldK T.ag42 rfl (fun K' hK' => ?_)
  simp (disch := omega) only [u0, u1, u2, u3, u4, u5, u6, u7, oP_some, Nat.add_zero]
  refine hK' _ ?_; clear hK' K'
  refine S_call T.hb72 rfl ?_
  refine FC.mono (wvisits_spec h A.C A.X u.W w.wx.b) ?_
  rintro v' h' ⟨rfl, rfl⟩
  refine S_as rfl ?_
  refine S_nil (hK2 _ _ (V_keep [0, 3] (by simp only [proj, lk, reduceIte, Nat.reduceEqDiff]; rfl) ?_)); clear hK2
  refine V_sr T.mix (by kernel_rfl) (fun K3 hK3 => ?_)
  refine S_mv rfl ?_
  refine S_nc rfl ?_
  first | refine S_fa0 T.f48_2 rfl ?_ | refine S_fa T.f48_2 rfl ?_
  first | refine S_fa0 T.f46_1 rfl ?_ | refine S_fa T.f46_1 rfl ?_
  refine S_ldK T.ag44 rfl (fun K' hK' => ?_)
  simp (disch := omega) only [u0, u1, u2, u3, u4, u5, u6, u7, oP_some, Nat.add_zero]
  refine hK' _ ?_; clear hK' K'
  refine S_call T.hb73 rfl ?_
  refine FC.mono (mwvisits_spec h A.M A.Y u.mm u.cl u.G u.F u.s w.mv) ?_
  rintro v' h' ⟨rfl, rfl⟩
  refine S_as rfl ?_
  refine S_nil (hK3 _ _ (V_keep [0, 3, 4] (by simp only [proj, lk, reduceIte, Nat.reduceEqDiff]; rfl) ?_)); clear hK3
  refine V_seq (fun K4 hK4 => ?_)
  refine V_sr T.mix (by kernel_rfl) (fun K5 hK5 => ?_)
  refine S_mv rfl ?_
  refine S_bin rfl rfl rfl ?_
  refine S_mv rfl ?_
  refine S_dec (fun g233 => ?_) (fun g233 => ?_)
  · skip
    exfalso; omega
  · skip
    refine S_gt rfl ?_
    refine S_mv rfl ?_
    refine S_gt rfl ?_
    refine S_mv rfl ?_
    refine S_gt rfl ?_
    refine S_bin rfl rfl rfl ?_
    refine S_pf rfl rfl ?_
    refine S_nil (hK5 _ _ (V_keep [0, 3, 22] (by simp only [proj, lk, reduceIte, Nat.reduceEqDiff]; rfl) ?_)); clear hK5
    refine V_condp rfl (fun c233 => ?_) (fun c233 => ?_)
    · skip
      exfalso; omega
    · skip
      refine V_skipk [0, 3] (by simp only [proj, lk, reduceIte, Nat.reduceEqDiff]; rfl) ?_
      refine hK4 _ _ ?_; clear hK4
      refine V_seq (fun K6 hK6 => ?_)
      refine V_sr T.mix (by kernel_rfl) (fun K7 hK7 => ?_)
      refine S_mv rfl ?_
      refine S_nc rfl ?_
      first | refine S_fa0 T.f48_6 rfl ?_ | refine S_fa T.f48_6 rfl ?_
      refine S_ldK T.ag4 rfl (fun K' hK' => ?_)
      simp (disch := omega) only [u0, u1, u2, u3, u4, u5, u6, u7, oP_some, Nat.add_zero]
      refine hK' _ ?_; clear hK' K'
      refine S_mv rfl ?_
      refine S_decb (fun g236 => ?_) (fun g236 => ?_)
      · skip
        refine S_gt rfl ?_
        refine S_mv rfl ?_
        refine S_gt rfl ?_
        refine S_mv rfl ?_
        refine S_gt rfl ?_
        refine S_nc rfl ?_
        refine S_gt rfl ?_
        first | refine S_fa0 T.f48_5 rfl ?_ | refine S_fa T.f48_5 rfl ?_
        refine S_gt rfl ?_
        refine S_ldK T.ag3 rfl (fun K' hK' => ?_)
        simp (disch := omega) only [u0, u1, u2, u3, u4, u5, u6, u7, oP_some, Nat.add_zero]
        refine hK' _ ?_; clear hK' K'
        refine S_gt rfl ?_
        refine S_bin rfl rfl rfl ?_
        refine S_pt rfl rfl ?_
        refine S_nil (hK7 _ _ (V_keep [0, 3, 34] (by simp only [proj, lk, reduceIte, Nat.reduceEqDiff]; rfl) ?_)); clear hK7
        refine V_condp rfl (fun c236 => ?_) (fun c236 => ?_)
        · skip
          exfalso; exact c236 (by rw [hvk (by simpa using g236)])
        · skip
          refine V_skipk [0, 3] (by simp only [proj, lk, reduceIte, Nat.reduceEqDiff]; rfl) ?_
          refine hK6 _ _ ?_; clear hK6
          refine V_sr T.mix (by kernel_rfl) (fun K8 hK8 => ?_)
          refine S_mv rfl ?_
          refine S_mv rfl ?_
          refine S_nc rfl ?_
          first | refine S_fa0 T.f48_5 rfl ?_ | refine S_fa T.f48_5 rfl ?_
          refine S_st T.sz3 rfl rfl rfl rfl (by simp (disch := omega) only [huok]) ?_
          generalize hh : putH _ _ _ = h1
          have hD1 : B h1 A.U (ucs A { u with V := u.W.vis }) 48 := by rw [← hh]; exact (w.dd.put 6 _).cong (by simp [ucs])
          have hE1 : Ext (fun b => b = A.U) h h1 := by rw [← hh]; exact Ext.put _ _ rfl
          clear hh
          try clear u0 u1 u2 u3 u4 u5 u6 u7 huok
          obtain ⟨u0, u1, u2, u3, u4, u5, u6, u7, huok⟩ := uq (hD1)
          refine S_nil (hK8 _ _ (V_keep [0] (by simp only [proj, lk, reduceIte, Nat.reduceEqDiff]; rfl) ?_)); clear hK8
          refine V_sr T.mix (by kernel_rfl) (fun K9 hK9 => ?_)
          refine S_mv rfl ?_
          refine S_nc rfl ?_
          first | refine S_fa0 T.f48_6 rfl ?_ | refine S_fa T.f48_6 rfl ?_
          refine S_st T.sz4 rfl rfl rfl rfl (by simp (disch := omega) only [huok]) ?_
          generalize hh : putH _ _ _ = h2
          have hD2 : B h2 A.U (ucs A { u with V := u.W.vis, kn := true }) 48 := by rw [← hh]; exact (hD1.put 7 _).cong (by simp [ucs])
          have hE2 : Ext (fun b => b = A.U) h h2 := by rw [← hh]; exact hE1.trans (Ext.put _ _ rfl)
          clear hh
          refine S_nil (hK9 _ _ (V_keep [] (by simp only [proj, lk, reduceIte, Nat.reduceEqDiff]; rfl) ?_)); clear hK9
          refine V_sr T.mix (by kernel_rfl) (fun K10 hK10 => ?_)
          refine S_as rfl ?_
          refine S_nil (hK10 _ _ (V_keep [2] (by simp only [proj, lk, reduceIte, Nat.reduceEqDiff]; rfl) ?_)); clear hK10
          refine V_ret ?_
          refine hR _ _ (ret1 rfl rfl ?_)
          exact ⟨rfl, tg, _, w.gauge hE2 hD2 (fun _ => rfl), ⟨rfl, rfl, rfl, rfl⟩, hE2.mono (fun b e => by rw [e, w.tU]; omega), fun b _ e => e⟩
      · skip
        refine S_gf rfl ?_
        refine S_gf rfl ?_
        refine S_gf rfl ?_
        refine S_gf rfl ?_
        refine S_gf rfl ?_
        refine S_gf rfl ?_
        refine S_pf rfl rfl ?_
        refine S_nil (hK7 _ _ (V_keep [0, 3, 34] (by simp only [proj, lk, reduceIte, Nat.reduceEqDiff]; rfl) ?_)); clear hK7
        refine V_condf rfl ?_
        refine V_skipk [0, 3] (by simp only [proj, lk, reduceIte, Nat.reduceEqDiff]; rfl) ?_
        refine hK6 _ _ ?_; clear hK6
        refine V_sr T.mix (by kernel_rfl) (fun K11 hK11 => ?_)
        refine S_mv rfl ?_
        refine S_mv rfl ?_
        refine S_nc rfl ?_
        first | refine S_fa0 T.f48_5 rfl ?_ | refine S_fa T.f48_5 rfl ?_
        refine S_st T.sz3 rfl rfl rfl rfl (by simp (disch := omega) only [huok]) ?_
        generalize hh : putH _ _ _ = h1
        have hD1 : B h1 A.U (ucs A { u with V := u.W.vis }) 48 := by rw [← hh]; exact (w.dd.put 6 _).cong (by simp [ucs])
        have hE1 : Ext (fun b => b = A.U) h h1 := by rw [← hh]; exact Ext.put _ _ rfl
        clear hh
        try clear u0 u1 u2 u3 u4 u5 u6 u7 huok
        obtain ⟨u0, u1, u2, u3, u4, u5, u6, u7, huok⟩ := uq (hD1)
        refine S_nil (hK11 _ _ (V_keep [0] (by simp only [proj, lk, reduceIte, Nat.reduceEqDiff]; rfl) ?_)); clear hK11
        refine V_sr T.mix (by kernel_rfl) (fun K12 hK12 => ?_)
        refine S_mv rfl ?_
        refine S_nc rfl ?_
        first | refine S_fa0 T.f48_6 rfl ?_ | refine S_fa T.f48_6 rfl ?_
        refine S_st T.sz4 rfl rfl rfl rfl (by simp (disch := omega) only [huok]) ?_
        generalize hh : putH _ _ _ = h2
        have hD2 : B h2 A.U (ucs A { u with V := u.W.vis, kn := true }) 48 := by rw [← hh]; exact (hD1.put 7 _).cong (by simp [ucs])
        have hE2 : Ext (fun b => b = A.U) h h2 := by rw [← hh]; exact hE1.trans (Ext.put _ _ rfl)
        clear hh
        refine S_nil (hK12 _ _ (V_keep [] (by simp only [proj, lk, reduceIte, Nat.reduceEqDiff]; rfl) ?_)); clear hK12
        refine V_sr T.mix (by kernel_rfl) (fun K13 hK13 => ?_)
        refine S_as rfl ?_
        refine S_nil (hK13 _ _ (V_keep [2] (by simp only [proj, lk, reduceIte, Nat.reduceEqDiff]; rfl) ?_)); clear hK13
        refine V_ret ?_
        refine hR _ _ (ret1 rfl rfl ?_)
        exact ⟨rfl, tg, _, w.gauge hE2 hD2 (fun _ => rfl), ⟨rfl, rfl, rfl, rfl⟩, hE2.mono (fun b e => by rw [e, w.tU]; omega), fun b _ e => e⟩
set_option maxHeartbeats 400000 in
theorem sameids_spec (h : Heap) (tg : Nat → Nat) (A : UA) (u : US) (nb : Nat) (w : UI h tg A u nb) :
    FC Tryz.prog 24 (#[.pointer (some ⟨A.U, 0, none⟩)] : Array Value) h fun rv h' => rv = .bool true ∧ ∃ (tg' : Nat → Nat) (u' : US), UI h' tg' A u' nb ∧ Obs u u' ∧ KP tg tg' h h' := by
  try clear u0 u1 u2 u3 u4 u5 u6 u7 huok
  obtain ⟨u0, u1, u2, u3, u4, u5, u6, u7, huok⟩ := uq (w.dd)
  have hil := idsF_len u.cl 52
  have hhb := w.hb
  refine FC_of [(0, .pointer (some ⟨A.U, 0, none⟩))] Tryz.func24 rfl Tryz.ntmps24 (by simp) rfl (fun R hR => ?_)
  refine V_sr T.mix (by kernel_rfl) (fun K1 hK1 => ?_)
  refine S_as rfl ?_
  refine S_nil (hK1 _ _ (V_keep [0] (by simp only [proj, lk, reduceIte, Nat.reduceEqDiff]; rfl) ?_)); clear hK1
  refine V_sr T.mix (by kernel_rfl) (fun K2 hK2 => ?_)
  refine S_mv rfl ?_
  refine S_nc rfl ?_
  first | refine S_fa0 T.f48_1 rfl ?_ | refine S_fa T.f48_1 rfl ?_
  refine S_ldK T.ag42 rfl (fun K' hK' => ?_)
  simp (disch := omega) only [u0, u1, u2, u3, u4, u5, u6, u7, oP_some, Nat.add_zero]
  refine hK' _ ?_; clear hK' K'
  refine S_call T.hb65 rfl ?_
  refine FC.mono (wids_spec h A.C A.X u.W u.cl u.s u.p w.wx) ?_
  rintro v' h1 ⟨a1, rfl, hI1, hn1, hb1, hE1⟩
  have w1 := w.new hE1
  have hl1 := hE1.1
  try clear u0 u1 u2 u3 u4 u5 u6 u7 huok
  obtain ⟨u0, u1, u2, u3, u4, u5, u6, u7, huok⟩ := uq (w1.dd)
  refine S_as rfl ?_
  refine S_nil (hK2 _ _ (V_keep [0, 3] (by simp only [proj, lk, reduceIte, Nat.reduceEqDiff]; rfl) ?_)); clear hK2
  refine V_sr T.mix (by kernel_rfl) (fun K3 hK3 => ?_)
  refine S_mv rfl ?_
  refine S_nc rfl ?_
  first | refine S_fa0 T.f48_2 rfl ?_ | refine S_fa T.f48_2 rfl ?_
  first | refine S_fa0 T.f46_1 rfl ?_ | refine S_fa T.f46_1 rfl ?_
  refine S_ldK T.ag44 rfl (fun K' hK' => ?_)
  simp (disch := omega) only [u0, u1, u2, u3, u4, u5, u6, u7, oP_some, Nat.add_zero]
  refine hK' _ ?_; clear hK' K'
  refine S_call T.hb58 rfl ?_
  refine FC.mono (mwids_spec h1 A.M A.Y u.mm u.cl u.G u.F u.s w1.mv) ?_
  rintro v' h2 ⟨a2, rfl, hI2, hn2, hb2, hE2⟩
  have w2 := w1.new hE2
  have hl2 := hE2.1
  replace hI1 := hI1.ext hE2 (fun _ _ f => f)
  refine S_as rfl ?_
  refine S_nil (hK3 _ _ (V_keep [0, 3, 4] (by simp only [proj, lk, reduceIte, Nat.reduceEqDiff]; rfl) ?_)); clear hK3
  refine V_seq (fun K4 hK4 => ?_)
  refine V_sr T.mix (by kernel_rfl) (fun K5 hK5 => ?_)
  refine S_mv rfl ?_
  refine S_mv rfl ?_
  refine S_call T.hb20 rfl ?_
  refine FC.mono (sameints_spec h2 a1 a2 _ _ (idsF u.cl 52) (idsF u.cl 52) hI1 hI2 (by omega) (by omega)) ?_
  rintro v' h' ⟨rfl, rfl⟩
  refine S_notb rfl ?_
  refine S_nil (hK5 _ _ (V_keep [0, 3, 19] (by simp only [proj, lk, reduceIte, Nat.reduceEqDiff]; rfl) ?_)); clear hK5
  refine V_condb rfl (fun c223 => ?_) (fun c223 => ?_)
  · skip
    exfalso; simp at c223
  · skip
    refine V_skipk [0, 3] (by simp only [proj, lk, reduceIte, Nat.reduceEqDiff]; rfl) ?_
    refine hK4 _ _ ?_; clear hK4
    refine V_sr T.mix (by kernel_rfl) (fun K6 hK6 => ?_)
    refine S_mv rfl ?_
    refine S_mv rfl ?_
    refine S_call T.hb66 rfl ?_
    refine FC.mono (owned_spec h2 tg A u nb w2 a1 (idsF u.cl 52) hI1 hn1 (fun b e => w.z b (hb1 b e)) (fun b e => by have h9 := hb1 b e; omega) (by omega)) ?_
    rintro v' h3 ⟨rfl, tg3, u3, w3, ho3, hE3, ht3⟩
    refine S_as rfl ?_
    refine S_nil (hK6 _ _ (V_keep [2] (by simp only [proj, lk, reduceIte, Nat.reduceEqDiff]; rfl) ?_)); clear hK6
    refine V_ret ?_
    refine hR _ _ (ret1 rfl rfl ?_)
    exact ⟨rfl, tg3, u3, w3, ho3, ((hE1.trans hE2).mono fun _ f => f.elim).step hE3 (fun b hb e => by rcases e with q | q; (exact q); (have h9 := hb1 b q; omega)), fun b hb e => ht3 b (by omega) e (fun z => by have h9 := hb1 b z; omega)⟩
set_option maxHeartbeats 400000 in
theorem sameclause_spec (h : Heap) (tg : Nat → Nat) (A : UA) (u : US) (nb : Nat) (w : UI h tg A u nb) (id : Int) :
    FC Tryz.prog 25 (#[.pointer (some ⟨A.U, 0, none⟩), .int .i64 id] : Array Value) h fun rv h' => rv = .bool true ∧ ∃ (tg' : Nat → Nat) (u' : US), UI h' tg' A u' nb ∧ Obs u u' ∧ KP tg tg' h h' := by
  try clear u0 u1 u2 u3 u4 u5 u6 u7 huok
  obtain ⟨u0, u1, u2, u3, u4, u5, u6, u7, huok⟩ := uq (w.dd)
  have hcl12 := clF_len w.mv.r id
  have hhb := w.hb
  refine FC_of [(0, .pointer (some ⟨A.U, 0, none⟩)), (1, .int .i64 id)] Tryz.func25 rfl Tryz.ntmps25 (by simp) rfl (fun R hR => ?_)
  refine V_sr T.mix (by kernel_rfl) (fun K1 hK1 => ?_)
  refine S_as rfl ?_
  refine S_nil (hK1 _ _ (V_keep [0, 1] (by simp only [proj, lk, reduceIte, Nat.reduceEqDiff]; rfl) ?_)); clear hK1
  refine V_sr T.mix (by kernel_rfl) (fun K2 hK2 => ?_)
  refine S_mv rfl ?_
  refine S_nc rfl ?_
  first | refine S_fa0 T.f48_1 rfl ?_ | refine S_fa T.f48_1 rfl ?_
  refine S_ldK T.ag42 rfl (fun K' hK' => ?_)
  simp (disch := omega) only [u0, u1, u2, u3, u4, u5, u6, u7, oP_some, Nat.add_zero]
  refine hK' _ ?_; clear hK' K'
  refine S_mv rfl ?_
  refine S_call T.hb67 rfl ?_
  refine FC.mono (wclause_spec h A.C A.X u.W u.cl u.s u.p w.wx id) ?_
  rintro v' h1 ⟨a1, rfl, hI1, hn1, hb1, hE1⟩
  have w1 := w.new hE1
  have hl1 := hE1.1
  try clear u0 u1 u2 u3 u4 u5 u6 u7 huok
  obtain ⟨u0, u1, u2, u3, u4, u5, u6, u7, huok⟩ := uq (w1.dd)
  refine S_mv rfl ?_
  refine S_ex rfl rfl ?_
  refine S_ex rfl rfl ?_
  refine S_as rfl ?_
  refine S_as rfl ?_
  refine S_nil (hK2 _ _ (V_keep [0, 1, 5, 6] (by simp only [proj, lk, reduceIte, Nat.reduceEqDiff]; rfl) ?_)); clear hK2
  refine V_sr T.mix (by kernel_rfl) (fun K3 hK3 => ?_)
  refine S_mv rfl ?_
  refine S_nc rfl ?_
  first | refine S_fa0 T.f48_2 rfl ?_ | refine S_fa T.f48_2 rfl ?_
  first | refine S_fa0 T.f46_1 rfl ?_ | refine S_fa T.f46_1 rfl ?_
  refine S_ldK T.ag44 rfl (fun K' hK' => ?_)
  simp (disch := omega) only [u0, u1, u2, u3, u4, u5, u6, u7, oP_some, Nat.add_zero]
  refine hK' _ ?_; clear hK' K'
  refine S_mv rfl ?_
  refine S_call T.hb59 rfl ?_
  refine FC.mono (mwclause_spec h1 A.M A.Y u.mm u.cl u.G u.F u.s w1.mv id) ?_
  rintro v' h2 ⟨a2, rfl, hI2, hn2, hb2, hE2⟩
  have w2 := w1.new hE2
  have hl2 := hE2.1
  replace hI1 := hI1.ext hE2 (fun _ _ f => f)
  refine S_mv rfl ?_
  refine S_ex rfl rfl ?_
  refine S_ex rfl rfl ?_
  refine S_as rfl ?_
  refine S_as rfl ?_
  refine S_nil (hK3 _ _ (V_keep [0, 5, 6, 7, 8] (by simp only [proj, lk, reduceIte, Nat.reduceEqDiff]; rfl) ?_)); clear hK3
  refine V_seq (fun K4 hK4 => ?_)
  refine V_sr T.mix (by kernel_rfl) (fun K5 hK5 => ?_)
  refine S_mv rfl ?_
  refine S_mv rfl ?_
  refine S_bin rfl rfl rfl ?_
  refine S_nil (hK5 _ _ (V_keep [0, 5, 7, 30] (by simp only [proj, lk, reduceIte, Nat.reduceEqDiff]; rfl) ?_)); clear hK5
  refine V_condp rfl (fun c210 => ?_) (fun c210 => ?_)
  · skip
    exfalso; exact c210 rfl
  · skip
    refine V_skipk [0, 5, 7] (by simp only [proj, lk, reduceIte, Nat.reduceEqDiff]; rfl) ?_
    refine hK4 _ _ ?_; clear hK4
    refine V_seq (fun K6 hK6 => ?_)
    refine V_sr T.mix (by kernel_rfl) (fun K7 hK7 => ?_)
    refine S_mv rfl ?_
    refine S_mv rfl ?_
    refine S_call T.hb20 rfl ?_
    refine FC.mono (sameints_spec h2 a1 a2 _ _ (clF u.cl id) (clF u.cl id) hI1 hI2 (by omega) (by omega)) ?_
    rintro v' h' ⟨rfl, rfl⟩
    refine S_notb rfl ?_
    refine S_nil (hK7 _ _ (V_keep [0, 5, 34] (by simp only [proj, lk, reduceIte, Nat.reduceEqDiff]; rfl) ?_)); clear hK7
    refine V_condb rfl (fun c213 => ?_) (fun c213 => ?_)
    · skip
      exfalso; simp at c213
    · skip
      refine V_skipk [0, 5] (by simp only [proj, lk, reduceIte, Nat.reduceEqDiff]; rfl) ?_
      refine hK6 _ _ ?_; clear hK6
      refine V_sr T.mix (by kernel_rfl) (fun K8 hK8 => ?_)
      refine S_mv rfl ?_
      refine S_mv rfl ?_
      refine S_call T.hb66 rfl ?_
      refine FC.mono (owned_spec h2 tg A u nb w2 a1 (clF u.cl id) hI1 hn1 (fun b e => w.z b (hb1 b e)) (fun b e => by have h9 := hb1 b e; omega) (by omega)) ?_
      rintro v' h3 ⟨rfl, tg3, u3, w3, ho3, hE3, ht3⟩
      refine S_as rfl ?_
      refine S_nil (hK8 _ _ (V_keep [4] (by simp only [proj, lk, reduceIte, Nat.reduceEqDiff]; rfl) ?_)); clear hK8
      refine V_ret ?_
      refine hR _ _ (ret1 rfl rfl ?_)
      exact ⟨rfl, tg3, u3, w3, ho3, ((hE1.trans hE2).mono fun _ f => f.elim).step hE3 (fun b hb e => by rcases e with q | q; (exact q); (have h9 := hb1 b q; omega)), fun b hb e => ht3 b (by omega) e (fun z => by have h9 := hb1 b z; omega)⟩
set_option maxHeartbeats 1600000 in
theorem sametrails_spec (h : Heap) (tg : Nat → Nat) (A : UA) (u : US) (nb : Nat) (w : UI h tg A u nb) :
    FC Tryz.prog 12 (#[.pointer (some ⟨A.U, 0, none⟩)] : Array Value) h fun rv h' => rv = .bool true ∧ h = h' := by
  try clear u0 u1 u2 u3 u4 u5 u6 u7 huok
  obtain ⟨u0, u1, u2, u3, u4, u5, u6, u7, huok⟩ := uq (w.dd)
  refine FC_of [(0, .pointer (some ⟨A.U, 0, none⟩))] Tryz.func12 rfl Tryz.ntmps12 (by simp) rfl (fun R hR => ?_)
  refine V_sr T.mix (by kernel_rfl) (fun K1 hK1 => ?_)
  refine S_as rfl ?_
  refine S_nil (hK1 _ _ (V_keep [0] (by simp only [proj, lk, reduceIte, Nat.reduceEqDiff]; rfl) ?_)); clear hK1
  refine V_sr T.mix (by kernel_rfl) (fun K2 hK2 => ?_)
  refine S_mv rfl ?_
  refine S_nc rfl ?_
  first | refine S_fa0 T.f48_0 rfl ?_ | refine S_fa T.f48_0 rfl ?_
  first | refine S_fa0 T.f41_0 rfl ?_ | refine S_fa T.f41_0 rfl ?_
  refine S_ldK T.ag39 rfl (fun K' hK' => ?_)
  simp (disch := omega) only [u0, u1, u2, u3, u4, u5, u6, u7, oP_some, Nat.add_zero]
  refine hK' _ ?_; clear hK' K'
  refine S_call T.hb42 rfl ?_
  refine FC.mono (level_spec h A.X u.s u.p w.wx.t) ?_
  rintro v' h' ⟨rfl, rfl⟩
  refine S_as rfl ?_
  refine S_nil (hK2 _ _ (V_keep [0, 3] (by simp only [proj, lk, reduceIte, Nat.reduceEqDiff]; rfl) ?_)); clear hK2
  refine V_sr T.mix (by kernel_rfl) (fun K3 hK3 => ?_)
  refine S_mv rfl ?_
  refine S_nc rfl ?_
  first | refine S_fa0 T.f48_2 rfl ?_ | refine S_fa T.f48_2 rfl ?_
  first | refine S_fa0 T.f46_0 rfl ?_ | refine S_fa T.f46_0 rfl ?_
  refine S_ldK T.ag43 rfl (fun K' hK' => ?_)
  simp (disch := omega) only [u0, u1, u2, u3, u4, u5, u6, u7, oP_some, Nat.add_zero]
  refine hK' _ ?_; clear hK' K'
  refine S_call T.hb43 rfl ?_
  refine FC.mono (mlevel_spec h A.Y u.F u.s w.mv.t) ?_
  rintro v' h' ⟨rfl, rfl⟩
  refine S_as rfl ?_
  refine S_nil (hK3 _ _ (V_keep [0, 3, 4] (by simp only [proj, lk, reduceIte, Nat.reduceEqDiff]; rfl) ?_)); clear hK3
  refine V_seq (fun K4 hK4 => ?_)
  refine V_sr T.mix (by kernel_rfl) (fun K5 hK5 => ?_)
  refine S_mv rfl ?_
  refine S_mv rfl ?_
  refine S_bin rfl rfl rfl ?_
  refine S_nil (hK5 _ _ (V_keep [0, 22] (by simp only [proj, lk, reduceIte, Nat.reduceEqDiff]; rfl) ?_)); clear hK5
  refine V_condp rfl (fun c248 => ?_) (fun c248 => ?_)
  · skip
    exfalso; exact c248 rfl
  · skip
    refine V_skipk [0] (by simp only [proj, lk, reduceIte, Nat.reduceEqDiff]; rfl) ?_
    refine hK4 _ _ ?_; clear hK4
    refine V_sr T.mix (by kernel_rfl) (fun K6 hK6 => ?_)
    refine S_mv rfl ?_
    refine S_nc rfl ?_
    first | refine S_fa0 T.f48_0 rfl ?_ | refine S_fa T.f48_0 rfl ?_
    first | refine S_fa0 T.f41_0 rfl ?_ | refine S_fa T.f41_0 rfl ?_
    refine S_ldK T.ag39 rfl (fun K' hK' => ?_)
    simp (disch := omega) only [u0, u1, u2, u3, u4, u5, u6, u7, oP_some, Nat.add_zero]
    refine hK' _ ?_; clear hK' K'
    refine S_call T.hb44 rfl ?_
    refine FC.mono (len_spec h A.X u.s u.p w.wx.t) ?_
    rintro v' h' ⟨rfl, rfl⟩
    refine S_as rfl ?_
    refine S_nil (hK6 _ _ (V_keep [0, 3] (by simp only [proj, lk, reduceIte, Nat.reduceEqDiff]; rfl) ?_)); clear hK6
    refine V_sr T.mix (by kernel_rfl) (fun K7 hK7 => ?_)
    refine S_mv rfl ?_
    refine S_nc rfl ?_
    first | refine S_fa0 T.f48_2 rfl ?_ | refine S_fa T.f48_2 rfl ?_
    first | refine S_fa0 T.f46_0 rfl ?_ | refine S_fa T.f46_0 rfl ?_
    refine S_ldK T.ag43 rfl (fun K' hK' => ?_)
    simp (disch := omega) only [u0, u1, u2, u3, u4, u5, u6, u7, oP_some, Nat.add_zero]
    refine hK' _ ?_; clear hK' K'
    refine S_call T.hb45 rfl ?_
    refine FC.mono (mlen_spec h A.Y u.F u.s w.mv.t) ?_
    rintro v' h' ⟨rfl, rfl⟩
    refine S_as rfl ?_
    refine S_nil (hK7 _ _ (V_keep [0, 3, 4] (by simp only [proj, lk, reduceIte, Nat.reduceEqDiff]; rfl) ?_)); clear hK7
    refine V_seq (fun K8 hK8 => ?_)
    refine V_sr T.mix (by kernel_rfl) (fun K9 hK9 => ?_)
    refine S_mv rfl ?_
    refine S_mv rfl ?_
    refine S_bin rfl rfl rfl ?_
    refine S_nil (hK9 _ _ (V_keep [0, 37] (by simp only [proj, lk, reduceIte, Nat.reduceEqDiff]; rfl) ?_)); clear hK9
    refine V_condp rfl (fun c253 => ?_) (fun c253 => ?_)
    · skip
      exfalso; exact c253 rfl
    · skip
      refine V_skipk [0] (by simp only [proj, lk, reduceIte, Nat.reduceEqDiff]; rfl) ?_
      refine hK8 _ _ ?_; clear hK8
      refine V_sr T.mix (by kernel_rfl) (fun K10 hK10 => ?_)
      refine S_mv rfl ?_
      refine S_nc rfl ?_
      first | refine S_fa0 T.f48_0 rfl ?_ | refine S_fa T.f48_0 rfl ?_
      first | refine S_fa0 T.f41_0 rfl ?_ | refine S_fa T.f41_0 rfl ?_
      refine S_ldK T.ag39 rfl (fun K' hK' => ?_)
      simp (disch := omega) only [u0, u1, u2, u3, u4, u5, u6, u7, oP_some, Nat.add_zero]
      refine hK' _ ?_; clear hK' K'
      refine S_call T.hb46 rfl ?_
      refine FC.mono (pending_spec h A.X u.s u.p w.wx.t) ?_
      rintro v' h' ⟨rfl, rfl⟩
      refine S_as rfl ?_
      refine S_nil (hK10 _ _ (V_keep [0, 3] (by simp only [proj, lk, reduceIte, Nat.reduceEqDiff]; rfl) ?_)); clear hK10
      refine V_sr T.mix (by kernel_rfl) (fun K11 hK11 => ?_)
      refine S_mv rfl ?_
      refine S_nc rfl ?_
      first | refine S_fa0 T.f48_2 rfl ?_ | refine S_fa T.f48_2 rfl ?_
      first | refine S_fa0 T.f46_0 rfl ?_ | refine S_fa T.f46_0 rfl ?_
      refine S_ldK T.ag43 rfl (fun K' hK' => ?_)
      simp (disch := omega) only [u0, u1, u2, u3, u4, u5, u6, u7, oP_some, Nat.add_zero]
      refine hK' _ ?_; clear hK' K'
      refine S_call T.hb47 rfl ?_
      refine FC.mono (mpending_spec h A.Y u.F u.s w.mv.t) ?_
      rintro v' h' ⟨rfl, rfl⟩
      refine S_as rfl ?_
      refine S_nil (hK11 _ _ (V_keep [0, 3, 4] (by simp only [proj, lk, reduceIte, Nat.reduceEqDiff]; rfl) ?_)); clear hK11
      refine V_seq (fun K12 hK12 => ?_)
      refine V_sr T.mix (by kernel_rfl) (fun K13 hK13 => ?_)
      refine S_mv rfl ?_
      refine S_mv rfl ?_
      refine S_bin rfl rfl rfl ?_
      refine S_nil (hK13 _ _ (V_keep [0, 52] (by simp only [proj, lk, reduceIte, Nat.reduceEqDiff]; rfl) ?_)); clear hK13
      refine V_condp rfl (fun c258 => ?_) (fun c258 => ?_)
      · skip
        exfalso; exact c258 rfl
      · skip
        refine V_skipk [0] (by simp only [proj, lk, reduceIte, Nat.reduceEqDiff]; rfl) ?_
        refine hK12 _ _ ?_; clear hK12
        refine V_seq (fun K14 hK14 => ?_)
        refine V_sr T.mix (by kernel_rfl) (fun K15 hK15 => ?_)
        refine S_as rfl ?_
        refine S_nil (hK15 _ _ (V_keep [0, 5] (by simp only [proj, lk, reduceIte, Nat.reduceEqDiff]; rfl) ?_)); clear hK15
        refine V_block ?_
        refine V_loop (fun m l h' => ∃ (n : Int), (-13 ≤ n) ∧ (n ≤ 14) ∧ m = (14 - n).toNat ∧ l = [(0, .pointer (some ⟨A.U, 0, none⟩)), (5, .int .i64 n)] ∧ h = h') _ ⟨-13, by omega, by omega, rfl, rfl, rfl⟩ ?_
        rintro m l h' ⟨n, hn1, hn2, rfl, rfl, rfl⟩ K16 hK16
        refine V_seq (fun K17 hK17 => ?_)
        refine V_sr T.mix (by kernel_rfl) (fun K18 hK18 => ?_)
        refine S_mv rfl ?_
        refine S_bin rfl rfl rfl ?_
        refine S_nil (hK18 _ _ (V_keep [0, 5, 54] (by simp only [proj, lk, reduceIte, Nat.reduceEqDiff]; rfl) ?_)); clear hK18
        refine V_condp rfl (fun c261 => ?_) (fun c261 => ?_)
        · skip
          refine V_skipk [0, 5] (by simp only [proj, lk, reduceIte, Nat.reduceEqDiff]; rfl) ?_
          refine hK17 _ _ ?_; clear hK17
          refine V_seq (fun K19 hK19 => ?_)
          refine V_block ?_
          refine V_sr T.mix (by kernel_rfl) (fun K20 hK20 => ?_)
          refine S_mv rfl ?_
          refine S_nc rfl ?_
          first | refine S_fa0 T.f48_0 rfl ?_ | refine S_fa T.f48_0 rfl ?_
          first | refine S_fa0 T.f41_0 rfl ?_ | refine S_fa T.f41_0 rfl ?_
          refine S_ldK T.ag39 rfl (fun K' hK' => ?_)
          simp (disch := omega) only [u0, u1, u2, u3, u4, u5, u6, u7, oP_some, Nat.add_zero]
          refine hK' _ ?_; clear hK' K'
          refine S_mv rfl ?_
          refine S_call T.hb48 rfl ?_
          refine FC.mono (value_spec h A.X u.s u.p w.wx.t n) ?_
          rintro v' h' ⟨rfl, rfl⟩
          refine S_as rfl ?_
          refine S_nil (hK20 _ _ (V_keep [0, 3, 5] (by simp only [proj, lk, reduceIte, Nat.reduceEqDiff]; rfl) ?_)); clear hK20
          refine V_sr T.mix (by kernel_rfl) (fun K21 hK21 => ?_)
          refine S_mv rfl ?_
          refine S_nc rfl ?_
          first | refine S_fa0 T.f48_2 rfl ?_ | refine S_fa T.f48_2 rfl ?_
          first | refine S_fa0 T.f46_0 rfl ?_ | refine S_fa T.f46_0 rfl ?_
          refine S_ldK T.ag43 rfl (fun K' hK' => ?_)
          simp (disch := omega) only [u0, u1, u2, u3, u4, u5, u6, u7, oP_some, Nat.add_zero]
          refine hK' _ ?_; clear hK' K'
          refine S_mv rfl ?_
          refine S_call T.hb49 rfl ?_
          refine FC.mono (mvalue_spec h A.Y u.F u.s w.mv.t n) ?_
          rintro v' h' ⟨rfl, rfl⟩
          refine S_as rfl ?_
          refine S_nil (hK21 _ _ (V_keep [0, 3, 4, 5] (by simp only [proj, lk, reduceIte, Nat.reduceEqDiff]; rfl) ?_)); clear hK21
          refine V_sr T.mix (by kernel_rfl) (fun K22 hK22 => ?_)
          refine S_mv rfl ?_
          refine S_mv rfl ?_
          refine S_bin rfl rfl rfl ?_
          refine S_nil (hK22 _ _ (V_keep [0, 5, 73] (by simp only [proj, lk, reduceIte, Nat.reduceEqDiff]; rfl) ?_)); clear hK22
          refine V_condp rfl (fun c264 => ?_) (fun c264 => ?_)
          · skip
            exfalso; exact c264 rfl
          · skip
            refine V_skipk [0, 5] (by simp only [proj, lk, reduceIte, Nat.reduceEqDiff]; rfl) ?_
            refine hK19 _ _ ?_; clear hK19
            refine V_reg T.mix (by kernel_rfl) ?_
            refine S_mv rfl ?_
            first | refine S_add rfl rfl (by omega) (by omega) ?_ | refine S_bin rfl rfl rfl ?_
            refine S_as rfl ?_
            refine S_nilk [0, 5] (by simp only [proj, lk, reduceIte, Nat.reduceEqDiff]; rfl) ?_
            exact hK16 _ _ ⟨_, by omega, n + 1, by omega, by omega, rfl, rfl, rfl⟩
        · skip
          refine V_exitk [0] rfl (by simp only [proj, lk, reduceIte, Nat.reduceEqDiff]; rfl) ?_
          refine hK14 _ _ ?_; clear hK14
          refine V_seq (fun K23 hK23 => ?_)
          refine V_sr T.mix (by kernel_rfl) (fun K24 hK24 => ?_)
          refine S_as rfl ?_
          refine S_nil (hK24 _ _ (V_keep [0, 6] (by simp only [proj, lk, reduceIte, Nat.reduceEqDiff]; rfl) ?_)); clear hK24
          refine V_block ?_
          refine V_loop (fun m l h' => ∃ (n : Int), (-1 ≤ n) ∧ (n ≤ 14) ∧ m = (14 - n).toNat ∧ l = [(0, .pointer (some ⟨A.U, 0, none⟩)), (6, .int .i64 n)] ∧ h = h') _ ⟨-1, by omega, by omega, rfl, rfl, rfl⟩ ?_
          rintro m l h' ⟨n, hn1, hn2, rfl, rfl, rfl⟩ K25 hK25
          refine V_seq (fun K26 hK26 => ?_)
          refine V_sr T.mix (by kernel_rfl) (fun K27 hK27 => ?_)
          refine S_mv rfl ?_
          refine S_bin rfl rfl rfl ?_
          refine S_nil (hK27 _ _ (V_keep [0, 6, 75] (by simp only [proj, lk, reduceIte, Nat.reduceEqDiff]; rfl) ?_)); clear hK27
          refine V_condp rfl (fun c268 => ?_) (fun c268 => ?_)
          · skip
            refine V_skipk [0, 6] (by simp only [proj, lk, reduceIte, Nat.reduceEqDiff]; rfl) ?_
            refine hK26 _ _ ?_; clear hK26
            refine V_seq (fun K28 hK28 => ?_)
            refine V_block ?_
            refine V_sr T.mix (by kernel_rfl) (fun K29 hK29 => ?_)
            refine S_mv rfl ?_
            refine S_nc rfl ?_
            first | refine S_fa0 T.f48_0 rfl ?_ | refine S_fa T.f48_0 rfl ?_
            first | refine S_fa0 T.f41_0 rfl ?_ | refine S_fa T.f41_0 rfl ?_
            refine S_ldK T.ag39 rfl (fun K' hK' => ?_)
            simp (disch := omega) only [u0, u1, u2, u3, u4, u5, u6, u7, oP_some, Nat.add_zero]
            refine hK' _ ?_; clear hK' K'
            refine S_mv rfl ?_
            refine S_call T.hb50 rfl ?_
            refine FC.mono (levelof_spec h A.X u.s u.p w.wx.t n) ?_
            rintro v' h' ⟨rfl, rfl⟩
            refine S_as rfl ?_
            refine S_nil (hK29 _ _ (V_keep [0, 3, 6] (by simp only [proj, lk, reduceIte, Nat.reduceEqDiff]; rfl) ?_)); clear hK29
            refine V_sr T.mix (by kernel_rfl) (fun K30 hK30 => ?_)
            refine S_mv rfl ?_
            refine S_nc rfl ?_
            first | refine S_fa0 T.f48_2 rfl ?_ | refine S_fa T.f48_2 rfl ?_
            first | refine S_fa0 T.f46_0 rfl ?_ | refine S_fa T.f46_0 rfl ?_
            refine S_ldK T.ag43 rfl (fun K' hK' => ?_)
            simp (disch := omega) only [u0, u1, u2, u3, u4, u5, u6, u7, oP_some, Nat.add_zero]
            refine hK' _ ?_; clear hK' K'
            refine S_mv rfl ?_
            refine S_call T.hb51 rfl ?_
            refine FC.mono (mlevelof_spec h A.Y u.F u.s w.mv.t n) ?_
            rintro v' h' ⟨rfl, rfl⟩
            refine S_as rfl ?_
            refine S_nil (hK30 _ _ (V_keep [0, 3, 4, 6] (by simp only [proj, lk, reduceIte, Nat.reduceEqDiff]; rfl) ?_)); clear hK30
            refine V_seq (fun K31 hK31 => ?_)
            refine V_sr T.mix (by kernel_rfl) (fun K32 hK32 => ?_)
            refine S_mv rfl ?_
            refine S_mv rfl ?_
            refine S_bin rfl rfl rfl ?_
            refine S_nil (hK32 _ _ (V_keep [0, 6, 94] (by simp only [proj, lk, reduceIte, Nat.reduceEqDiff]; rfl) ?_)); clear hK32
            refine V_condp rfl (fun c271 => ?_) (fun c271 => ?_)
            · skip
              exfalso; exact c271 rfl
            · skip
              refine V_skipk [0, 6] (by simp only [proj, lk, reduceIte, Nat.reduceEqDiff]; rfl) ?_
              refine hK31 _ _ ?_; clear hK31
              refine V_sr T.mix (by kernel_rfl) (fun K33 hK33 => ?_)
              refine S_mv rfl ?_
              refine S_nc rfl ?_
              first | refine S_fa0 T.f48_0 rfl ?_ | refine S_fa T.f48_0 rfl ?_
              first | refine S_fa0 T.f41_0 rfl ?_ | refine S_fa T.f41_0 rfl ?_
              refine S_ldK T.ag39 rfl (fun K' hK' => ?_)
              simp (disch := omega) only [u0, u1, u2, u3, u4, u5, u6, u7, oP_some, Nat.add_zero]
              refine hK' _ ?_; clear hK' K'
              refine S_mv rfl ?_
              refine S_call T.hb52 rfl ?_
              refine FC.mono (reason_spec h A.X u.s u.p w.wx.t n) ?_
              rintro v' h' ⟨rfl, rfl⟩
              refine S_as rfl ?_
              refine S_nil (hK33 _ _ (V_keep [0, 3, 6] (by simp only [proj, lk, reduceIte, Nat.reduceEqDiff]; rfl) ?_)); clear hK33
              refine V_sr T.mix (by kernel_rfl) (fun K34 hK34 => ?_)
              refine S_mv rfl ?_
              refine S_nc rfl ?_
              first | refine S_fa0 T.f48_2 rfl ?_ | refine S_fa T.f48_2 rfl ?_
              first | refine S_fa0 T.f46_0 rfl ?_ | refine S_fa T.f46_0 rfl ?_
              refine S_ldK T.ag43 rfl (fun K' hK' => ?_)
              simp (disch := omega) only [u0, u1, u2, u3, u4, u5, u6, u7, oP_some, Nat.add_zero]
              refine hK' _ ?_; clear hK' K'
              refine S_mv rfl ?_
              refine S_call T.hb53 rfl ?_
              refine FC.mono (mreason_spec h A.Y u.F u.s w.mv.t n) ?_
              rintro v' h' ⟨rfl, rfl⟩
              refine S_as rfl ?_
              refine S_nil (hK34 _ _ (V_keep [0, 3, 4, 6] (by simp only [proj, lk, reduceIte, Nat.reduceEqDiff]; rfl) ?_)); clear hK34
              refine V_seq (fun K35 hK35 => ?_)
              refine V_sr T.mix (by kernel_rfl) (fun K36 hK36 => ?_)
              refine S_mv rfl ?_
              refine S_mv rfl ?_
              refine S_bin rfl rfl rfl ?_
              refine S_nil (hK36 _ _ (V_keep [0, 6, 111] (by simp only [proj, lk, reduceIte, Nat.reduceEqDiff]; rfl) ?_)); clear hK36
              refine V_condp rfl (fun c276 => ?_) (fun c276 => ?_)
              · skip
                exfalso; exact c276 rfl
              · skip
                refine V_skipk [0, 6] (by simp only [proj, lk, reduceIte, Nat.reduceEqDiff]; rfl) ?_
                refine hK35 _ _ ?_; clear hK35
                refine V_sr T.mix (by kernel_rfl) (fun K37 hK37 => ?_)
                refine S_mv rfl ?_
                refine S_nc rfl ?_
                first | refine S_fa0 T.f48_0 rfl ?_ | refine S_fa T.f48_0 rfl ?_
                first | refine S_fa0 T.f41_0 rfl ?_ | refine S_fa T.f41_0 rfl ?_
                refine S_ldK T.ag39 rfl (fun K' hK' => ?_)
                simp (disch := omega) only [u0, u1, u2, u3, u4, u5, u6, u7, oP_some, Nat.add_zero]
                refine hK' _ ?_; clear hK' K'
                refine S_mv rfl ?_
                refine S_call T.hb54 rfl ?_
                refine FC.mono (place_spec h A.X u.s u.p w.wx.t n) ?_
                rintro v' h' ⟨rfl, rfl⟩
                refine S_as rfl ?_
                refine S_nil (hK37 _ _ (V_keep [0, 3, 6] (by simp only [proj, lk, reduceIte, Nat.reduceEqDiff]; rfl) ?_)); clear hK37
                refine V_sr T.mix (by kernel_rfl) (fun K38 hK38 => ?_)
                refine S_mv rfl ?_
                refine S_nc rfl ?_
                first | refine S_fa0 T.f48_2 rfl ?_ | refine S_fa T.f48_2 rfl ?_
                first | refine S_fa0 T.f46_0 rfl ?_ | refine S_fa T.f46_0 rfl ?_
                refine S_ldK T.ag43 rfl (fun K' hK' => ?_)
                simp (disch := omega) only [u0, u1, u2, u3, u4, u5, u6, u7, oP_some, Nat.add_zero]
                refine hK' _ ?_; clear hK' K'
                refine S_mv rfl ?_
                refine S_call T.hb55 rfl ?_
                refine FC.mono (mplace_spec h A.Y u.F u.s w.mv.t n) ?_
                rintro v' h' ⟨rfl, rfl⟩
                refine S_as rfl ?_
                refine S_nil (hK38 _ _ (V_keep [0, 3, 4, 6] (by simp only [proj, lk, reduceIte, Nat.reduceEqDiff]; rfl) ?_)); clear hK38
                refine V_sr T.mix (by kernel_rfl) (fun K39 hK39 => ?_)
                refine S_mv rfl ?_
                refine S_mv rfl ?_
                refine S_bin rfl rfl rfl ?_
                refine S_nil (hK39 _ _ (V_keep [0, 6, 128] (by simp only [proj, lk, reduceIte, Nat.reduceEqDiff]; rfl) ?_)); clear hK39
                refine V_condp rfl (fun c281 => ?_) (fun c281 => ?_)
                · skip
                  exfalso; exact c281 rfl
                · skip
                  refine V_skipk [0, 6] (by simp only [proj, lk, reduceIte, Nat.reduceEqDiff]; rfl) ?_
                  refine hK28 _ _ ?_; clear hK28
                  refine V_reg T.mix (by kernel_rfl) ?_
                  refine S_mv rfl ?_
                  first | refine S_add rfl rfl (by omega) (by omega) ?_ | refine S_bin rfl rfl rfl ?_
                  refine S_as rfl ?_
                  refine S_nilk [0, 6] (by simp only [proj, lk, reduceIte, Nat.reduceEqDiff]; rfl) ?_
                  exact hK25 _ _ ⟨_, by omega, n + 1, by omega, by omega, rfl, rfl, rfl⟩
          · skip
            refine V_exitk [0] rfl (by simp only [proj, lk, reduceIte, Nat.reduceEqDiff]; rfl) ?_
            refine hK23 _ _ ?_; clear hK23
            refine V_seq (fun K40 hK40 => ?_)
            refine V_sr T.mix (by kernel_rfl) (fun K41 hK41 => ?_)
            refine S_as rfl ?_
            refine S_nil (hK41 _ _ (V_keep [0, 7] (by simp only [proj, lk, reduceIte, Nat.reduceEqDiff]; rfl) ?_)); clear hK41
            refine V_block ?_
            refine V_loop (fun m l h' => ∃ (n : Int), (-1 ≤ n) ∧ (n ≤ 13) ∧ m = (13 - n).toNat ∧ l = [(0, .pointer (some ⟨A.U, 0, none⟩)), (7, .int .i64 n)] ∧ h = h') _ ⟨-1, by omega, by omega, rfl, rfl, rfl⟩ ?_
            rintro m l h' ⟨n, hn1, hn2, rfl, rfl, rfl⟩ K42 hK42
            refine V_seq (fun K43 hK43 => ?_)
            refine V_sr T.mix (by kernel_rfl) (fun K44 hK44 => ?_)
            refine S_mv rfl ?_
            refine S_bin rfl rfl rfl ?_
            refine S_nil (hK44 _ _ (V_keep [0, 7, 130] (by simp only [proj, lk, reduceIte, Nat.reduceEqDiff]; rfl) ?_)); clear hK44
            refine V_condp rfl (fun c285 => ?_) (fun c285 => ?_)
            · skip
              refine V_skipk [0, 7] (by simp only [proj, lk, reduceIte, Nat.reduceEqDiff]; rfl) ?_
              refine hK43 _ _ ?_; clear hK43
              refine V_seq (fun K45 hK45 => ?_)
              refine V_block ?_
              refine V_sr T.mix (by kernel_rfl) (fun K46 hK46 => ?_)
              refine S_mv rfl ?_
              refine S_nc rfl ?_
              first | refine S_fa0 T.f48_0 rfl ?_ | refine S_fa T.f48_0 rfl ?_
              first | refine S_fa0 T.f41_0 rfl ?_ | refine S_fa T.f41_0 rfl ?_
              refine S_ldK T.ag39 rfl (fun K' hK' => ?_)
              simp (disch := omega) only [u0, u1, u2, u3, u4, u5, u6, u7, oP_some, Nat.add_zero]
              refine hK' _ ?_; clear hK' K'
              refine S_mv rfl ?_
              refine S_call T.hb56 rfl ?_
              refine FC.mono (at_spec h A.X u.s u.p w.wx.t n) ?_
              rintro v' h' ⟨rfl, rfl⟩
              refine S_as rfl ?_
              refine S_nil (hK46 _ _ (V_keep [0, 3, 7] (by simp only [proj, lk, reduceIte, Nat.reduceEqDiff]; rfl) ?_)); clear hK46
              refine V_sr T.mix (by kernel_rfl) (fun K47 hK47 => ?_)
              refine S_mv rfl ?_
              refine S_nc rfl ?_
              first | refine S_fa0 T.f48_2 rfl ?_ | refine S_fa T.f48_2 rfl ?_
              first | refine S_fa0 T.f46_0 rfl ?_ | refine S_fa T.f46_0 rfl ?_
              refine S_ldK T.ag43 rfl (fun K' hK' => ?_)
              simp (disch := omega) only [u0, u1, u2, u3, u4, u5, u6, u7, oP_some, Nat.add_zero]
              refine hK' _ ?_; clear hK' K'
              refine S_mv rfl ?_
              refine S_call T.hb57 rfl ?_
              refine FC.mono (mat_spec h A.Y u.F u.s w.mv.t n) ?_
              rintro v' h' ⟨rfl, rfl⟩
              refine S_as rfl ?_
              refine S_nil (hK47 _ _ (V_keep [0, 3, 4, 7] (by simp only [proj, lk, reduceIte, Nat.reduceEqDiff]; rfl) ?_)); clear hK47
              refine V_sr T.mix (by kernel_rfl) (fun K48 hK48 => ?_)
              refine S_mv rfl ?_
              refine S_mv rfl ?_
              refine S_bin rfl rfl rfl ?_
              refine S_nil (hK48 _ _ (V_keep [0, 7, 149] (by simp only [proj, lk, reduceIte, Nat.reduceEqDiff]; rfl) ?_)); clear hK48
              refine V_condp rfl (fun c288 => ?_) (fun c288 => ?_)
              · skip
                exfalso; exact c288 rfl
              · skip
                refine V_skipk [0, 7] (by simp only [proj, lk, reduceIte, Nat.reduceEqDiff]; rfl) ?_
                refine hK45 _ _ ?_; clear hK45
                refine V_reg T.mix (by kernel_rfl) ?_
                refine S_mv rfl ?_
                first | refine S_add rfl rfl (by omega) (by omega) ?_ | refine S_bin rfl rfl rfl ?_
                refine S_as rfl ?_
                refine S_nilk [0, 7] (by simp only [proj, lk, reduceIte, Nat.reduceEqDiff]; rfl) ?_
                exact hK42 _ _ ⟨_, by omega, n + 1, by omega, by omega, rfl, rfl, rfl⟩
            · skip
              refine V_exitk [] rfl (by simp only [proj, lk, reduceIte, Nat.reduceEqDiff]; rfl) ?_
              refine hK40 _ _ ?_; clear hK40
              refine V_sr T.mix (by kernel_rfl) (fun K49 hK49 => ?_)
              refine S_as rfl ?_
              refine S_nil (hK49 _ _ (V_keep [2] (by simp only [proj, lk, reduceIte, Nat.reduceEqDiff]; rfl) ?_)); clear hK49
              refine V_ret ?_
              refine hR _ _ (ret1 rfl rfl ?_)
              exact ⟨rfl, rfl⟩
end Go.Proofs.Qxb6500403aGreat
