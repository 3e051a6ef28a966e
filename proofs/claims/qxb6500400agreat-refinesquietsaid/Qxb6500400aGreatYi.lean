import Derived.Test.Qxb6500400aGreatYh
set_option linter.unusedVariables false
set_option linter.unusedSimpArgs false
namespace Go.Proofs.Qxb6500400aGreat
open Go.Eng Go.Trl Go.Chk Go.Wat

theorem ln_cells {h : Heap} {b n c : Nat} {e s k : Int} {a : Option Addr} (hB : B h b #[.int .i64 e, .slice a n c, .int .i64 s, .int .i64 k] 104) : cellH h ⟨b, 1, none⟩ = some (.slice a n c) ∧ cellH h ⟨b, 3, none⟩ = some (.int .i64 k) := ⟨hB.cell 1, hB.cell 3⟩
theorem LT.iff {q q1 : LC} {D : Nat} (h1 : q1.ba = q.ba) (h2 : q1.sa = q.sa) (b : Nat) : LT q1 D b ↔ LT q D b := by unfold LT; rw [h1, h2]
set_option maxHeartbeats 6400000 in
theorem manalyze_spec (h : Heap) (D Y M : Nat) (q : LC) (w : LM h D Y M q) (mm : MC) (cl : Nat → Option (List Int)) (G F : Nat → Prop) (s : TS) (mv : MV h M Y mm cl G F s) (dj : ∀ b, LT q D b → b ≠ M ∧ ¬ G b ∧ ¬ F b) (sn : Sn cl s.L) (hcl : q.calls ≤ 1000000) (conf : Int) :
    FC Tryz.prog 74 (#[.pointer (some ⟨D, 0, none⟩), .int .i64 conf] : Array Value) h fun rv h' => ∃ (xa : Option Addr) (q' : LC), rv = .agg #[.int .i64 (((ansF s cl conf).err : Int)), .slice xa (ansF s cl conf).lits.length (ansF s cl conf).lits.length, .int .i64 ((ansF s cl conf).asr), .int .i64 ((ansF s cl conf).back)] ∧ IL h' xa (ansF s cl conf).lits.length (ansF s cl conf).lits ∧ ((ansF s cl conf).lits.length = 0 → xa = none) ∧ (∀ b, blkA xa = some b → h.size ≤ b) ∧ LM h' D Y M q' ∧ LN q q' (ansF s cl conf) ∧ (∀ b, LT q' D b → LT q D b ∨ h.size ≤ b) ∧ (∀ b, blkA xa = some b → ¬ LT q' D b) ∧ Ext (LT q D) h h' := by
  have hDl := w.b.lt
  have hok := mv.t.ok
  have hl12 := hok.len
  have hdp := hok.dep
  have hnl0 := mr_nl mv.r
  refine FC_of [(0, .pointer (some ⟨D, 0, none⟩)), (1, .int .i64 conf)] Tryz.func74 rfl Tryz.ntmps74 (by simp) rfl (fun R hR => ?_)
  refine V_sr T.mix (by kernel_rfl) (fun K1 hK1 => ?_)
  refine S_allocA T.z104 ?_
  generalize hh : Array.push h _ = h1
  have hR1 : B h1 h.size #[.int .i64 0, .slice none 0 0, .int .i64 0, .int .i64 0] 104 := by rw [← hh]; exact B.new _ _ _
  have hEh1 : Ext (fun _ => False) h h1 := by rw [← hh]; exact Ext.push _ _ _
  have hsh1 : h1.size = h.size + 1 := by rw [← hh]; simp
  clear hh
  have w1 := w.new hEh1
  try clear m0 m1 m2 m3 m4 hmok
  obtain ⟨m0, m1, m2, m3, m4, hmok⟩ := lmq (w1.b)
  refine S_nil (hK1 _ _ (V_keep [0, 1, 4] (by simp only [proj, lk, reduceIte, Nat.reduceEqDiff]; rfl) ?_)); clear hK1
  refine V_sr T.mix (by kernel_rfl) (fun K2 hK2 => ?_)
  refine S_mv rfl ?_
  refine S_nc rfl ?_
  first | refine S_fa0 T.f63_2 rfl ?_ | refine S_fa T.f63_2 rfl ?_
  refine S_ldK T.ag3 rfl (fun K' hK' => ?_)
  simp (disch := omega) only [m0, m1, m2, m3, m4, oP_some, Nat.add_zero]
  refine hK' _ ?_; clear hK' K'
  first | refine S_add rfl rfl (by omega) (by omega) ?_ | refine S_bin rfl rfl rfl ?_
  refine S_nc rfl ?_
  first | refine S_fa0 T.f63_2 rfl ?_ | refine S_fa T.f63_2 rfl ?_
  refine S_st T.sz3 rfl rfl rfl rfl (by simp (disch := omega) only [hmok]) ?_
  generalize hh : putH _ _ _ = h2
  have hBh2 : B h2 D (lcs Y M { q with calls := q.calls + 1 }) 63 := by rw [← hh]; exact ((w1.b).put 2 _).cong (by simp [lcs, LC.z, Nat.add_assoc])
  have hEh2 : Ext (fun x => x = D) h1 h2 := by rw [← hh]; exact Ext.put _ _ rfl
  clear hh
  try clear m0 m1 m2 m3 m4 hmok
  obtain ⟨m0, m1, m2, m3, m4, hmok⟩ := lmq (hBh2)
  have hsh2 := hEh2.1
  obtain ⟨q1, hq1, w2⟩ : ∃ q1 : LC, (q1.calls = q.calls + 1 ∧ q1.ba = q.ba ∧ q1.sa = q.sa ∧ q1.backs = q.backs ∧ q1.said = q.said) ∧ LM h2 D Y M q1 := ⟨{ q with calls := q.calls + 1 }, ⟨rfl, rfl, rfl, rfl, rfl⟩, ⟨hBh2, w1.bo.ext hEh2 (fun b e => w.nb b e), w1.so.ext hEh2 (fun b e => w.ns b e), w.nb, w.ns, w.bs, w.sl, w.bl⟩⟩
  try clear m0 m1 m2 m3 m4 hmok
  obtain ⟨m0, m1, m2, m3, m4, hmok⟩ := lmq (w2.b)
  have hLT : ∀ b, LT q1 D b ↔ LT q D b := LT.iff hq1.2.1 hq1.2.2.1
  have mv2 := (mv.ext hEh1 (fun f => f) (fun _ _ f => f) (fun _ _ f => f)).ext hEh2 (fun e => (dj D (.inl rfl)).1 e.symm) (fun b hb e => (dj D (.inl rfl)).2.1 (e ▸ hb)) (fun b hb e => (dj D (.inl rfl)).2.2 (e ▸ hb))
  have hR2 := hR1.ext hEh2 (fun e => by omega)
  have hE2t : Ext (LT q D) h h2 := (hEh1.mono fun _ f => f.elim).trans (hEh2.mono fun b e => .inl e)
  have hnl : ∀ b, LT q D b → ¬ b = h.size := fun b e z => by have h9 := w.lt e; omega
  have hnl1 : ∀ b, LT q1 D b → ¬ b = h.size := fun b e => hnl b ((hLT b).1 e)
  have hsl := w2.sl
  have hbl := w2.bl
  clear hBh2
  refine S_nil (hK2 _ _ (V_keep [0, 1, 4] (by simp only [proj, lk, reduceIte, Nat.reduceEqDiff]; rfl) ?_)); clear hK2
  refine V_sr T.mix (by kernel_rfl) (fun K3 hK3 => ?_)
  refine S_mv rfl ?_
  refine S_nc rfl ?_
  first | refine S_fa0 T.f63_1 rfl ?_ | refine S_fa T.f63_1 rfl ?_
  refine S_ldK T.ag35 rfl (fun K' hK' => ?_)
  simp (disch := omega) only [m0, m1, m2, m3, m4, oP_some, Nat.add_zero]
  refine hK' _ ?_; clear hK' K'
  refine S_mv rfl ?_
  refine S_call T.hb57 rfl ?_
  refine FC.mono (mwclause_spec h2 M Y mm cl G F s mv2 conf) ?_
  rintro v' h3 ⟨ca, rfl, hIc, _, hcb, hE3⟩
  have hs3 := hE3.1
  have w3 := w2.new hE3
  have mv3 := mv2.ext hE3 (fun f => f) (fun _ _ f => f) (fun _ _ f => f)
  have hR3 := hR2.ext hE3 (fun f => f)
  try clear hrok
  have hrok : ∀ j, j < 4 → okPut h3 ⟨h.size, j, none⟩ = true := fun j hj => (hR3).ok (by simpa using hj)
  try clear m0 m1 m2 m3 m4 hmok
  obtain ⟨m0, m1, m2, m3, m4, hmok⟩ := lmq (w3.b)
  refine S_mv rfl ?_
  refine S_ex rfl rfl ?_
  refine S_ex rfl rfl ?_
  refine S_as rfl ?_
  refine S_as rfl ?_
  refine S_nil (hK3 _ _ (V_keep [0, 4, 5, 6] (by simp only [proj, lk, reduceIte, Nat.reduceEqDiff]; rfl) ?_)); clear hK3
  refine V_seq (fun K4 hK4 => ?_)
  refine V_sr T.mix (by kernel_rfl) (fun K5 hK5 => ?_)
  refine S_mv rfl ?_
  refine S_bin rfl rfl rfl ?_
  refine S_nil (hK5 _ _ (V_keep [0, 4, 5, 42] (by simp only [proj, lk, reduceIte, Nat.reduceEqDiff]; rfl) ?_)); clear hK5
  refine V_condp rfl (fun c67 => ?_) (fun c67 => ?_)
  · skip
    have hlv : liveC cl (conf) = none := by
      cases e : liveC cl (conf) with
      | none => rfl
      | some rc => exact absurd (by rw [(clF_some e).2]; rfl) c67
    refine V_sr T.mix (by kernel_rfl) (fun K6 hK6 => ?_)
    refine S_bld rfl (T.bld104_0 _) ?_
    refine S_stl T.sz104 rfl rfl rfl rfl (fun j hj => by simp (disch := omega) only [hrok]) ?_
    generalize hh : putsH _ _ _ _ = h9
    have hR9 : B h9 (h.size) #[.int .i64 (13), .slice none 0 0, .int .i64 (0), .int .i64 (0)] 104 := by rw [← hh]; exact B.puts_all (hR3) (cs' := #[.int .i64 (13), .slice none 0 0, .int .i64 (0), .int .i64 (0)]) rfl
    have hEh9 : Ext (fun k => k = h.size) h3 h9 := by rw [← hh]; exact Ext.puts (S := fun k => k = h.size) rfl _ _ _
    clear hh
    refine S_nil (hK6 _ _ (V_keep [4] (by simp only [proj, lk, reduceIte, Nat.reduceEqDiff]; rfl) ?_)); clear hK6
    refine V_ret ?_
    refine hR _ _ (retc1 rfl rfl T.ag104 hR9 (by rfl) ?_)
    have hae : (ansF s cl conf) = ⟨13, [], 0, 0⟩ := by unfold ansF; rw [hlv]
    exact ⟨none, q1, by rw [hae]; rfl, by rw [hae]; exact IL.nil _, fun _ => rfl, by simp [blkA], (w3).ext hEh9 hnl1, ⟨hq1.1, fun e => absurd e.1 (by rw [hae]; decide), fun _ => ⟨hq1.2.2.2.2, hq1.2.2.2.1⟩⟩, fun b e => .inl ((hLT b).1 e), by simp [blkA], (hE2t.trans ((hE3).mono fun _ f => f.elim)).step hEh9 (fun b hb e => by omega)⟩
  · skip
    obtain ⟨c, hlv⟩ : ∃ rc, liveC cl (conf) = some rc := by
      cases e : liveC cl (conf) with
      | none => exact absurd (by rw [(clF_none e).2]; decide) c67
      | some rc => exact ⟨rc, rfl⟩
    have hnr := hnl0.live hlv
    have hln := hnr.len
    rw [(clF_some hlv).1] at hIc ⊢
    refine V_skipk [0, 4, 5] (by simp only [proj, lk, reduceIte, Nat.reduceEqDiff]; rfl) ?_
    refine hK4 _ _ ?_; clear hK4
    refine V_seq (fun K7 hK7 => ?_)
    refine V_sr T.mix (by kernel_rfl) (fun K8 hK8 => ?_)
    refine S_as rfl ?_
    refine S_nil (hK8 _ _ (V_keep [0, 4, 5, 7] (by simp only [proj, lk, reduceIte, Nat.reduceEqDiff]; rfl) ?_)); clear hK8
    refine V_block ?_
    refine V_loop (fun m l h' => ∃ (i : Nat), (i ≤ c.length) ∧ (((c.take i).all fun x => decide (valO s x = -1)) = true) ∧ m = c.length - i ∧ l = [(0, .pointer (some ⟨D, 0, none⟩)), (4, .pointer (some ⟨h.size, 0, none⟩)), (5, .slice ca c.length c.length), (7, .int .i64 (i : Int))] ∧ h3 = h') _ ⟨0, by omega, by simp, rfl, rfl, rfl⟩ ?_
    rintro m l h' ⟨i, hi, hal, rfl, rfl, rfl⟩ K9 hK9
    refine V_seq (fun K10 hK10 => ?_)
    refine V_sr T.mix (by kernel_rfl) (fun K11 hK11 => ?_)
    refine S_mv rfl ?_
    refine S_mv rfl ?_
    refine S_lenl T.el39 rfl ?_
    refine S_bin rfl rfl rfl ?_
    refine S_nil (hK11 _ _ (V_keep [0, 4, 5, 7, 47] (by simp only [proj, lk, reduceIte, Nat.reduceEqDiff]; rfl) ?_)); clear hK11
    refine V_condp rfl (fun c70 => ?_) (fun c70 => ?_)
    · skip
      obtain ⟨bb, rfl, _, _, _⟩ := hIc.get (by omega)
      refine V_skipk [0, 4, 5, 7] (by simp only [proj, lk, reduceIte, Nat.reduceEqDiff]; rfl) ?_
      refine hK10 _ _ ?_; clear hK10
      refine V_seq (fun K12 hK12 => ?_)
      refine V_block ?_
      refine V_sr T.mix (by kernel_rfl) (fun K13 hK13 => ?_)
      refine S_mv rfl ?_
      refine S_nc rfl ?_
      first | refine S_fa0 T.f63_0 rfl ?_ | refine S_fa T.f63_0 rfl ?_
      refine S_ldK T.ag34 rfl (fun K' hK' => ?_)
      simp (disch := omega) only [m0, m1, m2, m3, m4, hIc.at, oP_some, Nat.add_zero]
      refine hK' _ ?_; clear hK' K'
      refine S_mv rfl ?_
      refine S_mv rfl ?_
      first | refine S_ixn T.el39 rfl rfl (by omega) ?_ | refine S_ix1 T.el39 rfl rfl (by omega) (by omega) ?_ | refine S_ix T.el39 rfl rfl (by omega) (by omega) ?_
      refine S_ldK T.ag3 rfl (fun K' hK' => ?_)
      simp (disch := omega) only [m0, m1, m2, m3, m4, hIc.at, oP_some, Nat.add_zero]
      refine hK' _ ?_; clear hK' K'
      refine S_call T.hb52 rfl ?_
      refine FC.mono (mvalue_spec h3 Y F s mv3.t (c.getD i 0)) ?_
      rintro v' h' ⟨rfl, rfl⟩
      refine S_bin rfl rfl rfl ?_
      refine S_nil (hK13 _ _ (V_keep [0, 4, 5, 7, 59] (by simp only [proj, lk, reduceIte, Nat.reduceEqDiff]; rfl) ?_)); clear hK13
      refine V_condp rfl (fun c71 => ?_) (fun c71 => ?_)
      · skip
        refine V_sr T.mix (by kernel_rfl) (fun K14 hK14 => ?_)
        refine S_bld rfl (T.bld104_0 _) ?_
        refine S_stl T.sz104 rfl rfl rfl rfl (fun j hj => by simp (disch := omega) only [hrok]) ?_
        generalize hh : putsH _ _ _ _ = h9
        have hR9 : B h9 (h.size) #[.int .i64 (15), .slice none 0 0, .int .i64 (0), .int .i64 (0)] 104 := by rw [← hh]; exact B.puts_all (hR3) (cs' := #[.int .i64 (15), .slice none 0 0, .int .i64 (0), .int .i64 (0)]) rfl
        have hEh9 : Ext (fun k => k = h.size) h3 h9 := by rw [← hh]; exact Ext.puts (S := fun k => k = h.size) rfl _ _ _
        clear hh
        refine S_nil (hK14 _ _ (V_keep [4] (by simp only [proj, lk, reduceIte, Nat.reduceEqDiff]; rfl) ?_)); clear hK14
        refine V_ret ?_
        refine hR _ _ (retc1 rfl rfl T.ag104 hR9 (by rfl) ?_)
        have hae : (ansF s cl conf) = ⟨15, [], 0, 0⟩ := by unfold ansF; rw [hlv]; simp only []; rw [if_neg (by rw [all_stop (show i < c.length by omega) (decide_eq_false c71)]; simp)]
        exact ⟨none, q1, by rw [hae]; rfl, by rw [hae]; exact IL.nil _, fun _ => rfl, by simp [blkA], (w3).ext hEh9 hnl1, ⟨hq1.1, fun e => absurd e.1 (by rw [hae]; decide), fun _ => ⟨hq1.2.2.2.2, hq1.2.2.2.1⟩⟩, fun b e => .inl ((hLT b).1 e), by simp [blkA], (hE2t.trans ((hE3).mono fun _ f => f.elim)).step hEh9 (fun b hb e => by omega)⟩
      · skip
        refine V_skipk [0, 4, 5, 7] (by simp only [proj, lk, reduceIte, Nat.reduceEqDiff]; rfl) ?_
        refine hK12 _ _ ?_; clear hK12
        refine V_reg T.mix (by kernel_rfl) ?_
        refine S_mv rfl ?_
        first | refine S_add rfl rfl (by omega) (by omega) ?_ | refine S_bin rfl rfl rfl ?_
        refine S_as rfl ?_
        refine S_nilk [0, 4, 5, 7] (by simp only [proj, lk, reduceIte, Nat.reduceEqDiff]; rfl) ?_
        exact hK9 _ _ ⟨_, by omega, i + 1, by omega, by rw [all_snoc (by omega), hal, decide_eq_true (show valO s (c.getD i 0) = -1 by omega)]; rfl, rfl, rfl, rfl⟩
    · skip
      rw [show i = c.length by omega, List.take_length] at hal
      have hfal := all_fal hok hnr.1 hal
      have hcs0 := Cs.of hnr.nodup hfal
      have hlv0 := hcs0.lv hok
      refine V_exitk [0, 4, 5] rfl (by simp only [proj, lk, reduceIte, Nat.reduceEqDiff]; rfl) ?_
      refine hK7 _ _ ?_; clear hK7
      refine V_sr T.mix (by kernel_rfl) (fun K15 hK15 => ?_)
      refine S_mv rfl ?_
      refine S_nc rfl ?_
      first | refine S_fa0 T.f63_0 rfl ?_ | refine S_fa T.f63_0 rfl ?_
      refine S_ldK T.ag34 rfl (fun K' hK' => ?_)
      simp (disch := omega) only [m0, m1, m2, m3, m4, oP_some, Nat.add_zero]
      refine hK' _ ?_; clear hK' K'
      refine S_call T.hb49 rfl ?_
      refine FC.mono (mlevel_spec h3 Y F s mv3.t) ?_
      rintro v' h' ⟨rfl, rfl⟩
      refine S_as rfl ?_
      refine S_nil (hK15 _ _ (V_keep [0, 4, 5, 8] (by simp only [proj, lk, reduceIte, Nat.reduceEqDiff]; rfl) ?_)); clear hK15
      refine V_seq (fun K16 hK16 => ?_)
      refine V_sr T.mix (by kernel_rfl) (fun K17 hK17 => ?_)
      refine S_mv rfl ?_
      refine S_bin rfl rfl rfl ?_
      refine S_mv rfl ?_
      refine S_dec (fun g76 => ?_) (fun g76 => ?_)
      · skip
        refine S_gf rfl ?_
        refine S_gf rfl ?_
        refine S_gf rfl ?_
        refine S_gf rfl ?_
        refine S_gf rfl ?_
        refine S_pt rfl rfl ?_
        refine S_nil (hK17 _ _ (V_keep [0, 4, 5, 8, 74] (by simp only [proj, lk, reduceIte, Nat.reduceEqDiff]; rfl) ?_)); clear hK17
        refine V_condt rfl ?_
        refine V_sr T.mix (by kernel_rfl) (fun K18 hK18 => ?_)
        refine S_bld rfl (T.bld104_0 _) ?_
        refine S_stl T.sz104 rfl rfl rfl rfl (fun j hj => by simp (disch := omega) only [hrok]) ?_
        generalize hh : putsH _ _ _ _ = h9
        have hR9 : B h9 (h.size) #[.int .i64 (10), .slice none 0 0, .int .i64 (0), .int .i64 (0)] 104 := by rw [← hh]; exact B.puts_all (hR3) (cs' := #[.int .i64 (10), .slice none 0 0, .int .i64 (0), .int .i64 (0)]) rfl
        have hEh9 : Ext (fun k => k = h.size) h3 h9 := by rw [← hh]; exact Ext.puts (S := fun k => k = h.size) rfl _ _ _
        clear hh
        refine S_nil (hK18 _ _ (V_keep [4] (by simp only [proj, lk, reduceIte, Nat.reduceEqDiff]; rfl) ?_)); clear hK18
        refine V_ret ?_
        refine hR _ _ (retc1 rfl rfl T.ag104 hR9 (by rfl) ?_)
        have hae : (ansF s cl conf) = ⟨10, [], 0, 0⟩ := by unfold ansF; rw [hlv]; simp only []; rw [if_pos hal, if_pos (.inl (by omega))]
        exact ⟨none, q1, by rw [hae]; rfl, by rw [hae]; exact IL.nil _, fun _ => rfl, by simp [blkA], (w3).ext hEh9 hnl1, ⟨hq1.1, fun e => absurd e.1 (by rw [hae]; decide), fun _ => ⟨hq1.2.2.2.2, hq1.2.2.2.1⟩⟩, fun b e => .inl ((hLT b).1 e), by simp [blkA], (hE2t.trans ((hE3).mono fun _ f => f.elim)).step hEh9 (fun b hb e => by omega)⟩
      · skip
        refine S_gt rfl ?_
        refine S_mv rfl ?_
        refine S_gt rfl ?_
        refine S_mv rfl ?_
        refine S_gt rfl ?_
        refine S_mv rfl ?_
        refine S_gt rfl ?_
        refine S_call T.hb110 rfl ?_
        refine FC.mono (matlevel_spec h3 D Y M _ w3 F s mv3.t ca _ c hIc (by omega) hnr.1 (s.k : Int)) ?_
        rintro v' h' ⟨rfl, rfl⟩
        refine S_gt rfl ?_
        refine S_bin rfl rfl rfl ?_
        refine S_pf rfl rfl ?_
        refine S_nil (hK17 _ _ (V_keep [0, 4, 5, 8, 74] (by simp only [proj, lk, reduceIte, Nat.reduceEqDiff]; rfl) ?_)); clear hK17
        refine V_condp rfl (fun c76 => ?_) (fun c76 => ?_)
        · skip
          refine V_sr T.mix (by kernel_rfl) (fun K19 hK19 => ?_)
          refine S_bld rfl (T.bld104_0 _) ?_
          refine S_stl T.sz104 rfl rfl rfl rfl (fun j hj => by simp (disch := omega) only [hrok]) ?_
          generalize hh : putsH _ _ _ _ = h9
          have hR9 : B h9 (h.size) #[.int .i64 (10), .slice none 0 0, .int .i64 (0), .int .i64 (0)] 104 := by rw [← hh]; exact B.puts_all (hR3) (cs' := #[.int .i64 (10), .slice none 0 0, .int .i64 (0), .int .i64 (0)]) rfl
          have hEh9 : Ext (fun k => k = h.size) h3 h9 := by rw [← hh]; exact Ext.puts (S := fun k => k = h.size) rfl _ _ _
          clear hh
          refine S_nil (hK19 _ _ (V_keep [4] (by simp only [proj, lk, reduceIte, Nat.reduceEqDiff]; rfl) ?_)); clear hK19
          refine V_ret ?_
          refine hR _ _ (retc1 rfl rfl T.ag104 hR9 (by rfl) ?_)
          have hae : (ansF s cl conf) = ⟨10, [], 0, 0⟩ := by unfold ansF; rw [hlv]; simp only []; rw [if_pos hal, if_pos (.inr (by rw [← hlv0]; omega))]
          exact ⟨none, q1, by rw [hae]; rfl, by rw [hae]; exact IL.nil _, fun _ => rfl, by simp [blkA], (w3).ext hEh9 hnl1, ⟨hq1.1, fun e => absurd e.1 (by rw [hae]; decide), fun _ => ⟨hq1.2.2.2.2, hq1.2.2.2.1⟩⟩, fun b e => .inl ((hLT b).1 e), by simp [blkA], (hE2t.trans ((hE3).mono fun _ f => f.elim)).step hEh9 (fun b hb e => by omega)⟩
        · skip
          have hne0 : ¬ (s.k = 0 ∨ cI (iC s c) (mF s) s.L.length = 0) := fun z => by rcases z with z | z; (omega); (rw [← hlv0] at z; exact c76 (by rw [z]; rfl))
          refine V_skipk [0, 4, 5, 8] (by simp only [proj, lk, reduceIte, Nat.reduceEqDiff]; rfl) ?_
          refine hK16 _ _ ?_; clear hK16
          refine V_seqJ (fun l h' => ∃ (h6 : Heap) (ka : Option Addr) (kc : Nat) (ck : List Int), (IL h6 ka kc ck) ∧ (Cs s ck (jC s cl c)) ∧ (Ext (fun _ => False) h2 h6) ∧ l = [(0, .pointer (some ⟨D, 0, none⟩)), (4, .pointer (some ⟨h.size, 0, none⟩)), (5, .slice ka ck.length kc), (8, .int .i64 (s.k : Int))] ∧ h6 = h') ?_ ?_
          · skip
            refine V_sr T.mix (by kernel_rfl) (fun K21 hK21 => ?_)
            refine S_mv rfl ?_
            refine S_nc rfl ?_
            first | refine S_fa0 T.f63_0 rfl ?_ | refine S_fa T.f63_0 rfl ?_
            refine S_ldK T.ag34 rfl (fun K' hK' => ?_)
            simp (disch := omega) only [m0, m1, m2, m3, m4, oP_some, Nat.add_zero]
            refine hK' _ ?_; clear hK' K'
            refine S_call T.hb50 rfl ?_
            refine FC.mono (mlen_spec h3 Y F s mv3.t) ?_
            rintro v' h' ⟨rfl, rfl⟩
            first | refine S_sub rfl rfl (by omega) (by omega) ?_ | refine S_bin rfl rfl rfl ?_
            refine S_as rfl ?_
            refine S_nil (hK21 _ _ (V_keep [0, 4, 5, 8, 9] (by simp only [proj, lk, reduceIte, Nat.reduceEqDiff]; rfl) ?_)); clear hK21
            refine V_block ?_
            refine V_loop (fun m l h' => ∃ (jj : Nat) (hk : Heap) (ka : Option Addr) (kc : Nat) (ck : List Int) (I : Nat → Bool), (jj ≤ s.L.length) ∧ (IL hk ka kc ck) ∧ (Cs s ck I) ∧ (∀ i, jj ≤ i → I i = false) ∧ (uip (riF s cl) (mF s) jj I = jC s cl c) ∧ (Ext (fun _ => False) h2 hk) ∧ m = 2 * jj ∧ l = [(0, .pointer (some ⟨D, 0, none⟩)), (4, .pointer (some ⟨h.size, 0, none⟩)), (5, .slice ka ck.length kc), (8, .int .i64 (s.k : Int)), (9, .int .i64 ((jj : Int) - 1))] ∧ hk = h') _ ⟨s.L.length, h3, ca, c.length, c, iC s c, Nat.le_refl _, hIc, hcs0, fun i hi => by unfold iC; exact decide_eq_false (by omega), rfl, hE3, rfl, rfl, rfl⟩ ?_
            rintro m l h' ⟨jj, hk, ka, kc, ck, I, hj, hIk, hcs, hz, hu, hEk, rfl, rfl, rfl⟩ K22 hK22
            have wk := w2.new hEk
            have mvk := mv2.ext hEk (fun f => f) (fun _ _ f => f) (fun _ _ f => f)
            have hRk := hR2.ext hEk (fun f => f)
            have hsk := hEk.1
            have hckl := hcs.len hok
            have hlvk := hcs.lv hok
            try clear m0 m1 m2 m3 m4 hmok
            obtain ⟨m0, m1, m2, m3, m4, hmok⟩ := lmq (wk.b)
            try clear hrok
            have hrok : ∀ j, j < 4 → okPut hk ⟨h.size, j, none⟩ = true := fun j hj => (hRk).ok (by simpa using hj)
            refine V_seq (fun K23 hK23 => ?_)
            refine V_sr T.mix (by kernel_rfl) (fun K24 hK24 => ?_)
            refine S_mv rfl ?_
            refine S_bin rfl rfl rfl ?_
            refine S_nil (hK24 _ _ (V_keep [0, 4, 5, 8, 9, 83] (by simp only [proj, lk, reduceIte, Nat.reduceEqDiff]; rfl) ?_)); clear hK24
            refine V_condp rfl (fun c79 => ?_) (fun c79 => ?_)
            · skip
              obtain ⟨j, rfl⟩ : ∃ j, jj = j + 1 := ⟨jj - 1, by omega⟩
              rw [show ((j + 1 : Nat) : Int) - 1 = (j : Int) by omega]
              have hct := cI_top (a := mF s) hj hz
              refine V_skipk [0, 4, 5, 8, 9] (by simp only [proj, lk, reduceIte, Nat.reduceEqDiff]; rfl) ?_
              refine hK23 _ _ ?_; clear hK23
              refine V_seq (fun K25 hK25 => ?_)
              refine V_block ?_
              refine V_seq (fun K26 hK26 => ?_)
              refine V_sr T.mix (by kernel_rfl) (fun K27 hK27 => ?_)
              refine S_mv rfl ?_
              refine S_mv rfl ?_
              refine S_mv rfl ?_
              refine S_call T.hb110 rfl ?_
              refine FC.mono (matlevel_spec hk D Y M _ wk F s mvk.t ka kc ck hIk (by omega) (fun x hx => hcs.gd hok hx) (s.k : Int)) ?_
              rintro v' h' ⟨rfl, rfl⟩
              refine S_bin rfl rfl rfl ?_
              refine S_nil (hK27 _ _ (V_keep [0, 4, 5, 8, 9, 90] (by simp only [proj, lk, reduceIte, Nat.reduceEqDiff]; rfl) ?_)); clear hK27
              refine V_condp rfl (fun c80 => ?_) (fun c80 => ?_)
              · skip
                refine V_exitk [0, 4, 5, 8] rfl (by simp only [proj, lk, reduceIte, Nat.reduceEqDiff]; rfl) ?_
                exact ⟨hk, ka, kc, ck, hIk, by have h9 := hu; rw [uip_stop (by rw [← hct, ← hlvk]; omega)] at h9; rw [← h9]; exact hcs, hEk, rfl, rfl⟩
              · skip
                have h2c : 2 ≤ cI I (mF s) (j + 1) := by rw [← hct, ← hlvk]; omega
                have hjl : j < s.L.length := by omega
                obtain ⟨xj, hxj⟩ := item hok hjl
                have hgj := lt_gd hok hjl
                unfold gd at hgj
                refine V_skipk [0, 4, 5, 8, 9] (by simp only [proj, lk, reduceIte, Nat.reduceEqDiff]; rfl) ?_
                refine hK26 _ _ ?_; clear hK26
                refine V_sr T.mix (by kernel_rfl) (fun K28 hK28 => ?_)
                refine S_mv rfl ?_
                refine S_nc rfl ?_
                first | refine S_fa0 T.f63_0 rfl ?_ | refine S_fa T.f63_0 rfl ?_
                refine S_ldK T.ag34 rfl (fun K' hK' => ?_)
                simp (disch := omega) only [m0, m1, m2, m3, m4, oP_some, Nat.add_zero]
                refine hK' _ ?_; clear hK' K'
                refine S_mv rfl ?_
                refine S_call T.hb56 rfl ?_
                refine FC.mono (mat_spec hk Y F s mvk.t (j : Int)) ?_
                rintro v' h' ⟨rfl, rfl⟩
                rw [show atL s.L (j : Int) = ltF s j by rw [(lt_at hok hxj).1, (lt_at hok hxj).2.1]]
                refine S_as rfl ?_
                refine S_nil (hK28 _ _ (V_keep [0, 4, 5, 8, 9, 10] (by simp only [proj, lk, reduceIte, Nat.reduceEqDiff]; rfl) ?_)); clear hK28
                refine V_sr T.mix (by kernel_rfl) (fun K29 hK29 => ?_)
                refine S_mv rfl ?_
                refine S_mv rfl ?_
                first | refine S_neg rfl (by omega) (by omega) ?_ | refine S_un rfl rfl ?_
                refine S_call T.hb111 rfl ?_
                refine FC.mono (mhas_spec hk ka kc ck hIk (by omega) (hcs.con hok) (-(ltF s j)) (by omega)) ?_
                rintro v' h' ⟨rfl, rfl⟩
                refine S_nil (hK29 _ _ (V_keep [0, 4, 5, 8, 9, 10, 100] (by simp only [proj, lk, reduceIte, Nat.reduceEqDiff]; rfl) ?_)); clear hK29
                refine V_condb rfl (fun c84 => ?_) (fun c84 => ?_)
                · skip
                  have hIj : I j = true := (hcs.has hok hjl).1 (by simpa using c84)
                  obtain ⟨i0, z1, z2, _⟩ := cI_two h2c (by simpa using hIj)
                  obtain ⟨rc, hrc⟩ := rsn_ex hok sn hjl (.inl (by omega))
                  have hnrc := hnl0.live hrc
                  have hrl := hnrc.len
                  refine V_sr T.mix (by kernel_rfl) (fun K30 hK30 => ?_)
                  refine S_mv rfl ?_
                  refine S_call T.hb65 rfl ?_
                  refine FC.mono (var_spec _ (ltF s j) (by omega) (by omega)) ?_
                  rintro v' h' ⟨rfl, rfl⟩
                  refine S_as rfl ?_
                  refine S_nil (hK30 _ _ (V_keep [0, 4, 5, 8, 9, 10, 11] (by simp only [proj, lk, reduceIte, Nat.reduceEqDiff]; rfl) ?_)); clear hK30
                  refine V_sr T.mix (by kernel_rfl) (fun K31 hK31 => ?_)
                  refine S_mv rfl ?_
                  refine S_nc rfl ?_
                  first | refine S_fa0 T.f63_0 rfl ?_ | refine S_fa T.f63_0 rfl ?_
                  refine S_ldK T.ag34 rfl (fun K' hK' => ?_)
                  simp (disch := omega) only [m0, m1, m2, m3, m4, oP_some, Nat.add_zero]
                  refine hK' _ ?_; clear hK' K'
                  refine S_mv rfl ?_
                  refine S_call T.hb54 rfl ?_
                  refine FC.mono (mreason_spec hk Y F s mvk.t ((ltF s j).natAbs : Int)) ?_
                  rintro v' h' ⟨rfl, rfl⟩
                  refine S_as rfl ?_
                  refine S_nil (hK31 _ _ (V_keep [0, 4, 5, 8, 9, 10, 12] (by simp only [proj, lk, reduceIte, Nat.reduceEqDiff]; rfl) ?_)); clear hK31
                  refine V_sr T.mix (by kernel_rfl) (fun K32 hK32 => ?_)
                  refine S_mv rfl ?_
                  refine S_nc rfl ?_
                  first | refine S_fa0 T.f63_1 rfl ?_ | refine S_fa T.f63_1 rfl ?_
                  refine S_ldK T.ag35 rfl (fun K' hK' => ?_)
                  simp (disch := omega) only [m0, m1, m2, m3, m4, oP_some, Nat.add_zero]
                  refine hK' _ ?_; clear hK' K'
                  refine S_mv rfl ?_
                  refine S_call T.hb57 rfl ?_
                  refine FC.mono (mwclause_spec hk M Y mm cl G F s mvk (reaV s.L ((ltF s j).natAbs : Int))) ?_
                  rintro v' h5 ⟨ra, rfl, hIr, _, hrb, hE5⟩
                  have hs5 := hE5.1
                  rw [(clF_some hrc).1] at hIr ⊢
                  rw [(clF_some hrc).2]
                  refine S_mv rfl ?_
                  refine S_ex rfl rfl ?_
                  refine S_ex rfl rfl ?_
                  refine S_as rfl ?_
                  refine S_as rfl ?_
                  refine S_nil (hK32 _ _ (V_keep [0, 4, 5, 8, 9, 10, 13, 14] (by simp only [proj, lk, reduceIte, Nat.reduceEqDiff]; rfl) ?_)); clear hK32
                  refine V_seq (fun K33 hK33 => ?_)
                  refine V_sr T.mix (by kernel_rfl) (fun K34 hK34 => ?_)
                  refine S_mv rfl ?_
                  refine S_bin rfl rfl rfl ?_
                  refine S_nil (hK34 _ _ (V_keep [0, 4, 5, 8, 9, 10, 13, 119] (by simp only [proj, lk, reduceIte, Nat.reduceEqDiff]; rfl) ?_)); clear hK34
                  refine V_condp rfl (fun c88 => ?_) (fun c88 => ?_)
                  · skip
                    exfalso; exact c88 rfl
                  · skip
                    refine V_skipk [0, 4, 5, 8, 9, 10, 13] (by simp only [proj, lk, reduceIte, Nat.reduceEqDiff]; rfl) ?_
                    refine hK33 _ _ ?_; clear hK33
                    refine V_sr T.mix (by kernel_rfl) (fun K35 hK35 => ?_)
                    refine S_as rfl ?_
                    refine S_nil (hK35 _ _ (V_keep [0, 4, 5, 8, 9, 10, 13, 15] (by simp only [proj, lk, reduceIte, Nat.reduceEqDiff]; rfl) ?_)); clear hK35
                    refine V_seq (fun K36 hK36 => ?_)
                    refine V_sr T.mix (by kernel_rfl) (fun K37 hK37 => ?_)
                    refine S_as rfl ?_
                    refine S_nil (hK37 _ _ (V_keep [0, 4, 5, 8, 9, 10, 13, 15, 16] (by simp only [proj, lk, reduceIte, Nat.reduceEqDiff]; rfl) ?_)); clear hK37
                    refine V_block ?_
                    refine V_loop (fun m l h' => ∃ (k : Nat) (hm : Heap) (na : Option Addr) (nc : Nat), (k ≤ ck.length) ∧ (OwnR h5.size hm na ((ck.take k).filter (fun x => decide (x ≠ -(ltF s j)))).length nc (ints ((ck.take k).filter (fun x => decide (x ≠ -(ltF s j))))) 3 1) ∧ (Ext (fun _ => False) h5 hm) ∧ m = ck.length - k ∧ l = [(0, .pointer (some ⟨D, 0, none⟩)), (4, .pointer (some ⟨h.size, 0, none⟩)), (5, .slice ka ck.length kc), (8, .int .i64 (s.k : Int)), (9, .int .i64 (j : Int)), (10, .int .i64 (ltF s j)), (13, .slice ra rc.length rc.length), (15, .slice na ((ck.take k).filter (fun x => decide (x ≠ -(ltF s j)))).length nc), (16, .int .i64 (k : Int))] ∧ hm = h') _ ⟨0, h5, none, 0, by omega, OwnR.nil _ _ _ _, Ext.refl _ _, rfl, rfl, rfl⟩ ?_
                    rintro m l h' ⟨k, hm, na, nc, hk1, hoo, hEm, rfl, rfl, rfl⟩ K38 hK38
                    have hIm := (hIk.ext hE5 (fun _ _ f => f)).ext hEm (fun _ _ f => f)
                    have hfl := filt_le (c := ck) (i := k) (fun x => decide (x ≠ -(ltF s j)))
                    have hsn := fun h9 => filt_snoc (c := ck) (i := k) h9 (fun x => decide (x ≠ -(ltF s j)))
                    have hsm := hEm.1
                    refine V_seq (fun K39 hK39 => ?_)
                    refine V_sr T.mix (by kernel_rfl) (fun K40 hK40 => ?_)
                    refine S_mv rfl ?_
                    refine S_mv rfl ?_
                    refine S_lenl T.el39 rfl ?_
                    refine S_bin rfl rfl rfl ?_
                    refine S_nil (hK40 _ _ (V_keep [0, 4, 5, 8, 9, 10, 13, 15, 16, 124] (by simp only [proj, lk, reduceIte, Nat.reduceEqDiff]; rfl) ?_)); clear hK40
                    refine V_condp rfl (fun c92 => ?_) (fun c92 => ?_)
                    · skip
                      obtain ⟨bb, hbe, _, _, _⟩ := hIm.get (by omega)
                      subst hbe
                      refine V_skipk [0, 4, 5, 8, 9, 10, 13, 15, 16] (by simp only [proj, lk, reduceIte, Nat.reduceEqDiff]; rfl) ?_
                      refine hK39 _ _ ?_; clear hK39
                      refine V_seq (fun K41 hK41 => ?_)
                      refine V_block ?_
                      refine V_sr T.mix (by kernel_rfl) (fun K42 hK42 => ?_)
                      refine S_mv rfl ?_
                      refine S_mv rfl ?_
                      first | refine S_ixn T.el39 rfl rfl (by omega) ?_ | refine S_ix1 T.el39 rfl rfl (by omega) (by omega) ?_ | refine S_ix T.el39 rfl rfl (by omega) (by omega) ?_
                      refine S_ldK T.ag3 rfl (fun K' hK' => ?_)
                      simp (disch := omega) only [hIm.at, oP_some, Nat.add_zero]
                      refine hK' _ ?_; clear hK' K'
                      refine S_mv rfl ?_
                      first | refine S_neg rfl (by omega) (by omega) ?_ | refine S_un rfl rfl ?_
                      refine S_bin rfl rfl rfl ?_
                      refine S_nil (hK42 _ _ (V_keep [0, 4, 5, 8, 9, 10, 13, 15, 16, 133] (by simp only [proj, lk, reduceIte, Nat.reduceEqDiff]; rfl) ?_)); clear hK42
                      refine V_condp rfl (fun c93 => ?_) (fun c93 => ?_)
                      · skip
                        refine V_reg T.mix (by kernel_rfl) ?_
                        refine S_mv rfl ?_
                        refine S_mv rfl ?_
                        refine S_mv rfl ?_
                        first | refine S_ixn T.el39 rfl rfl (by omega) ?_ | refine S_ix1 T.el39 rfl rfl (by omega) (by omega) ?_ | refine S_ix T.el39 rfl rfl (by omega) (by omega) ?_
                        refine S_ldK T.ag3 rfl (fun K' hK' => ?_)
                        simp (disch := omega) only [hIm.at, oP_some, Nat.add_zero]
                        refine hK' _ ?_; clear hK' K'
                        refine S_bs T.ei39 rfl (by decide) (by decide) (T.bs39_1_0 _) ?_
                        refine S_appx (lo := h5.size) T.ei39 T.ni39 T.us39 rfl rfl rfl (OwnR.ext hoo (Ext.push (fun _ => False) _ _) (fun _ _ f => f)) (by simp; omega) (cellsH_new _ _ _) rfl (by omega) (by decide) (by decide) rfl (fun a6 c6 h6 ho6 hE6x hb6x => ?_)
                        have hE6 : Ext (fun z => blkA na = some z) hm h6 := (Ext.push _ _ _).trans hE6x
                        have hb6 := new_blk2 (h := hm) hb6x (by simp)
                        have hI6 : OwnR h5.size h6 a6 (((ck.take k).filter (fun x => decide (x ≠ -(ltF s j)))) ++ [(ck.getD k 0)]).length c6 (ints (((ck.take k).filter (fun x => decide (x ≠ -(ltF s j)))) ++ [(ck.getD k 0)])) 3 1 := by rw [ints_snoc, List.length_append]; exact ho6
                        have hs6 := hE6.1
                        refine S_as rfl ?_
                        refine S_nilk [0, 4, 5, 8, 9, 10, 13, 15, 16] (by simp only [proj, lk, reduceIte, Nat.reduceEqDiff]; rfl) ?_
                        refine hK41 _ _ ?_; clear hK41
                        refine V_reg T.mix (by kernel_rfl) ?_
                        refine S_mv rfl ?_
                        first | refine S_add rfl rfl (by omega) (by omega) ?_ | refine S_bin rfl rfl rfl ?_
                        refine S_as rfl ?_
                        refine S_nilk [0, 4, 5, 8, 9, 10, 13, 15, 16] (by simp only [proj, lk, reduceIte, Nat.reduceEqDiff]; rfl) ?_
                        exact hK38 _ _ ⟨_, by omega, k + 1, h6, a6, c6, by omega, (by rw [hsn (by omega), if_pos (decide_eq_true c93)]; exact hI6), hEm.step hE6 (fun z hz e => by have h9 := OwnR.blk2 hoo e; omega), rfl, by rw [hsn (by omega), if_pos (decide_eq_true c93)]; simp, rfl⟩
                      · skip
                        refine V_skipk [0, 4, 5, 8, 9, 10, 13, 15, 16] (by simp only [proj, lk, reduceIte, Nat.reduceEqDiff]; rfl) ?_
                        refine hK41 _ _ ?_; clear hK41
                        refine V_reg T.mix (by kernel_rfl) ?_
                        refine S_mv rfl ?_
                        first | refine S_add rfl rfl (by omega) (by omega) ?_ | refine S_bin rfl rfl rfl ?_
                        refine S_as rfl ?_
                        refine S_nilk [0, 4, 5, 8, 9, 10, 13, 15, 16] (by simp only [proj, lk, reduceIte, Nat.reduceEqDiff]; rfl) ?_
                        exact hK38 _ _ ⟨_, by omega, k + 1, hm, na, nc, by omega, (by rw [hsn (by omega), if_neg (by rw [decide_eq_false c93]; simp)]; exact hoo), hEm, rfl, by rw [hsn (by omega), if_neg (by rw [decide_eq_false c93]; simp)]; rfl, rfl⟩
                    · skip
                      have hkk : k = ck.length := by omega
                      subst hkk
                      rw [List.take_length] at hoo ⊢
                      refine V_exitk [0, 4, 8, 9, 10, 13, 15] rfl (by simp only [proj, lk, reduceIte, Nat.reduceEqDiff]; rfl) ?_
                      refine hK36 _ _ ?_; clear hK36
                      refine V_seq (fun K43 hK43 => ?_)
                      refine V_sr T.mix (by kernel_rfl) (fun K44 hK44 => ?_)
                      refine S_as rfl ?_
                      refine S_nil (hK44 _ _ (V_keep [0, 4, 8, 9, 10, 13, 15, 17] (by simp only [proj, lk, reduceIte, Nat.reduceEqDiff]; rfl) ?_)); clear hK44
                      refine V_block ?_
                      refine V_loop (fun m l h' => ∃ (k : Nat) (hm : Heap) (na : Option Addr) (nc : Nat), (k ≤ rc.length) ∧ (OwnR h5.size hm na (addM (ltF s j) (ck.filter (fun x => decide (x ≠ -(ltF s j)))) (rc.take k)).length nc (ints (addM (ltF s j) (ck.filter (fun x => decide (x ≠ -(ltF s j)))) (rc.take k))) 3 1) ∧ (Ext (fun _ => False) h5 hm) ∧ m = rc.length - k ∧ l = [(0, .pointer (some ⟨D, 0, none⟩)), (4, .pointer (some ⟨h.size, 0, none⟩)), (8, .int .i64 (s.k : Int)), (9, .int .i64 (j : Int)), (10, .int .i64 (ltF s j)), (13, .slice ra rc.length rc.length), (15, .slice na (addM (ltF s j) (ck.filter (fun x => decide (x ≠ -(ltF s j)))) (rc.take k)).length nc), (17, .int .i64 (k : Int))] ∧ hm = h') _ ⟨0, hm, na, nc, by omega, hoo, hEm, rfl, rfl, rfl⟩ ?_
                      rintro m l h' ⟨k, hm, na, nc, hk1, hoo, hEm, rfl, rfl, rfl⟩ K45 hK45
                      have hIrm := hIr.ext hEm (fun _ _ f => f)
                      have hal2 := addM_len (ltF s j) (l := rc.take k) (n := (ck.filter (fun x => decide (x ≠ -(ltF s j)))))
                      have hfl2 : (ck.filter (fun x => decide (x ≠ -(ltF s j)))).length ≤ 12 := Nat.le_trans (List.length_filter_le _ _) hckl
                      have htk : (rc.take k).length ≤ 12 := by rw [List.length_take]; omega
                      have hsubm : ∀ x, x ∈ (addM (ltF s j) (ck.filter (fun x => decide (x ≠ -(ltF s j)))) (rc.take k)) → x ∈ resM ck (ltF s j) rc := fun x hx => by
                        unfold resM; rw [addM_mem] at hx ⊢
                        rcases hx with e | e
                        · exact .inl e
                        · exact .inr ⟨List.mem_of_mem_take e.1, e.2⟩
                      have hsm := hEm.1
                      have hsn : k < rc.length → addM (ltF s j) (ck.filter (fun x => decide (x ≠ -(ltF s j)))) (rc.take (k + 1)) = if rc.getD k 0 ≠ ltF s j ∧ rc.getD k 0 ∉ (addM (ltF s j) (ck.filter (fun x => decide (x ≠ -(ltF s j)))) (rc.take k)) then (addM (ltF s j) (ck.filter (fun x => decide (x ≠ -(ltF s j)))) (rc.take k)) ++ [rc.getD k 0] else (addM (ltF s j) (ck.filter (fun x => decide (x ≠ -(ltF s j)))) (rc.take k)) := fun h9 => by rw [getD_snoc _ _ h9, addM_snoc]
                      refine V_seq (fun K46 hK46 => ?_)
                      refine V_sr T.mix (by kernel_rfl) (fun K47 hK47 => ?_)
                      refine S_mv rfl ?_
                      refine S_mv rfl ?_
                      refine S_lenl T.el39 rfl ?_
                      refine S_bin rfl rfl rfl ?_
                      refine S_nil (hK47 _ _ (V_keep [0, 4, 8, 9, 10, 13, 15, 17, 144] (by simp only [proj, lk, reduceIte, Nat.reduceEqDiff]; rfl) ?_)); clear hK47
                      refine V_condp rfl (fun c97 => ?_) (fun c97 => ?_)
                      · skip
                        obtain ⟨bb, hbe, _, _, _⟩ := hIrm.get (by omega)
                        subst hbe
                        have hgr := gd_getD hnrc.1 (show k < rc.length by omega)
                        unfold gd at hgr
                        refine V_skipk [0, 4, 8, 9, 10, 13, 15, 17] (by simp only [proj, lk, reduceIte, Nat.reduceEqDiff]; rfl) ?_
                        refine hK46 _ _ ?_; clear hK46
                        refine V_seq (fun K48 hK48 => ?_)
                        refine V_block ?_
                        refine V_sr T.mix (by kernel_rfl) (fun K49 hK49 => ?_)
                        refine S_mv rfl ?_
                        refine S_mv rfl ?_
                        first | refine S_ixn T.el39 rfl rfl (by omega) ?_ | refine S_ix1 T.el39 rfl rfl (by omega) (by omega) ?_ | refine S_ix T.el39 rfl rfl (by omega) (by omega) ?_
                        refine S_ldK T.ag3 rfl (fun K' hK' => ?_)
                        simp (disch := omega) only [hIrm.at, oP_some, Nat.add_zero]
                        refine hK' _ ?_; clear hK' K'
                        refine S_mv rfl ?_
                        refine S_bin rfl rfl rfl ?_
                        refine S_mv rfl ?_
                        refine S_dec (fun g98 => ?_) (fun g98 => ?_)
                        · skip
                          refine S_gt rfl ?_
                          refine S_mv rfl ?_
                          refine S_gt rfl ?_
                          refine S_mv rfl ?_
                          refine S_gt rfl ?_
                          refine S_mv rfl ?_
                          refine S_gt rfl ?_
                          first | refine S_ixn T.el39 rfl rfl (by omega) ?_ | refine S_ix1 T.el39 rfl rfl (by omega) (by omega) ?_ | refine S_ix T.el39 rfl rfl (by omega) (by omega) ?_
                          refine S_gt rfl ?_
                          refine S_ldK T.ag3 rfl (fun K' hK' => ?_)
                          simp (disch := omega) only [hIrm.at, oP_some, Nat.add_zero]
                          refine hK' _ ?_; clear hK' K'
                          refine S_gt rfl ?_
                          refine S_call T.hb111 rfl ?_
                          refine FC.mono (mhas_spec hm na nc (addM (ltF s j) (ck.filter (fun x => decide (x ≠ -(ltF s j)))) (rc.take k)) (own0 hoo) (by omega) (fun x h1 h2 => (hcs.res hok sn hjl hrc).con hok x (hsubm x h1) (hsubm _ h2)) (rc.getD k 0) (by omega)) ?_
                          rintro v' h' ⟨rfl, rfl⟩
                          refine S_gt rfl ?_
                          refine S_notb rfl ?_
                          refine S_pt rfl rfl ?_
                          refine S_nil (hK49 _ _ (V_keep [0, 4, 8, 9, 10, 13, 15, 17, 161] (by simp only [proj, lk, reduceIte, Nat.reduceEqDiff]; rfl) ?_)); clear hK49
                          refine V_condb rfl (fun c98 => ?_) (fun c98 => ?_)
                          · skip
                            refine V_reg T.mix (by kernel_rfl) ?_
                            refine S_mv rfl ?_
                            refine S_mv rfl ?_
                            refine S_mv rfl ?_
                            first | refine S_ixn T.el39 rfl rfl (by omega) ?_ | refine S_ix1 T.el39 rfl rfl (by omega) (by omega) ?_ | refine S_ix T.el39 rfl rfl (by omega) (by omega) ?_
                            refine S_ldK T.ag3 rfl (fun K' hK' => ?_)
                            simp (disch := omega) only [hIrm.at, oP_some, Nat.add_zero]
                            refine hK' _ ?_; clear hK' K'
                            refine S_bs T.ei39 rfl (by decide) (by decide) (T.bs39_1_0 _) ?_
                            refine S_appx (lo := h5.size) T.ei39 T.ni39 T.us39 rfl rfl rfl (OwnR.ext hoo (Ext.push (fun _ => False) _ _) (fun _ _ f => f)) (by simp; omega) (cellsH_new _ _ _) rfl (by omega) (by decide) (by decide) rfl (fun a6 c6 h6 ho6 hE6x hb6x => ?_)
                            have hE6 : Ext (fun z => blkA na = some z) hm h6 := (Ext.push _ _ _).trans hE6x
                            have hb6 := new_blk2 (h := hm) hb6x (by simp)
                            have hI6 : OwnR h5.size h6 a6 ((addM (ltF s j) (ck.filter (fun x => decide (x ≠ -(ltF s j)))) (rc.take k)) ++ [(rc.getD k 0)]).length c6 (ints ((addM (ltF s j) (ck.filter (fun x => decide (x ≠ -(ltF s j)))) (rc.take k)) ++ [(rc.getD k 0)])) 3 1 := by rw [ints_snoc, List.length_append]; exact ho6
                            have hs6 := hE6.1
                            refine S_as rfl ?_
                            refine S_nilk [0, 4, 8, 9, 10, 13, 15, 17] (by simp only [proj, lk, reduceIte, Nat.reduceEqDiff]; rfl) ?_
                            refine hK48 _ _ ?_; clear hK48
                            refine V_reg T.mix (by kernel_rfl) ?_
                            refine S_mv rfl ?_
                            first | refine S_add rfl rfl (by omega) (by omega) ?_ | refine S_bin rfl rfl rfl ?_
                            refine S_as rfl ?_
                            refine S_nilk [0, 4, 8, 9, 10, 13, 15, 17] (by simp only [proj, lk, reduceIte, Nat.reduceEqDiff]; rfl) ?_
                            have hnm : rc.getD k 0 ∉ (addM (ltF s j) (ck.filter (fun x => decide (x ≠ -(ltF s j)))) (rc.take k)) := by simpa using c98
                            exact hK45 _ _ ⟨_, by omega, k + 1, h6, a6, c6, by omega, (by rw [hsn (by omega), if_pos ⟨g98, hnm⟩]; exact hI6), hEm.step hE6 (fun z hz e => by have h9 := OwnR.blk2 hoo e; omega), rfl, by rw [hsn (by omega), if_pos ⟨g98, hnm⟩]; simp, rfl⟩
                          · skip
                            refine V_skipk [0, 4, 8, 9, 10, 13, 15, 17] (by simp only [proj, lk, reduceIte, Nat.reduceEqDiff]; rfl) ?_
                            refine hK48 _ _ ?_; clear hK48
                            refine V_reg T.mix (by kernel_rfl) ?_
                            refine S_mv rfl ?_
                            first | refine S_add rfl rfl (by omega) (by omega) ?_ | refine S_bin rfl rfl rfl ?_
                            refine S_as rfl ?_
                            refine S_nilk [0, 4, 8, 9, 10, 13, 15, 17] (by simp only [proj, lk, reduceIte, Nat.reduceEqDiff]; rfl) ?_
                            have hnm : rc.getD k 0 ∈ (addM (ltF s j) (ck.filter (fun x => decide (x ≠ -(ltF s j)))) (rc.take k)) := by simpa using c98
                            exact hK45 _ _ ⟨_, by omega, k + 1, hm, na, nc, by omega, (by rw [hsn (by omega), if_neg (fun z => z.2 hnm)]; exact hoo), hEm, rfl, by rw [hsn (by omega), if_neg (fun z => z.2 hnm)]; rfl, rfl⟩
                        · skip
                          refine S_gf rfl ?_
                          refine S_gf rfl ?_
                          refine S_gf rfl ?_
                          refine S_gf rfl ?_
                          refine S_gf rfl ?_
                          refine S_gf rfl ?_
                          refine S_gf rfl ?_
                          refine S_pf rfl rfl ?_
                          refine S_nil (hK49 _ _ (V_keep [0, 4, 8, 9, 10, 13, 15, 17, 161] (by simp only [proj, lk, reduceIte, Nat.reduceEqDiff]; rfl) ?_)); clear hK49
                          refine V_condf rfl ?_
                          refine V_skipk [0, 4, 8, 9, 10, 13, 15, 17] (by simp only [proj, lk, reduceIte, Nat.reduceEqDiff]; rfl) ?_
                          refine hK48 _ _ ?_; clear hK48
                          refine V_reg T.mix (by kernel_rfl) ?_
                          refine S_mv rfl ?_
                          first | refine S_add rfl rfl (by omega) (by omega) ?_ | refine S_bin rfl rfl rfl ?_
                          refine S_as rfl ?_
                          refine S_nilk [0, 4, 8, 9, 10, 13, 15, 17] (by simp only [proj, lk, reduceIte, Nat.reduceEqDiff]; rfl) ?_
                          exact hK45 _ _ ⟨_, by omega, k + 1, hm, na, nc, by omega, (by rw [hsn (by omega), if_neg (fun z => g98 z.1)]; exact hoo), hEm, rfl, by rw [hsn (by omega), if_neg (fun z => g98 z.1)]; rfl, rfl⟩
                      · skip
                        have hkk : k = rc.length := by omega
                        subst hkk
                        rw [List.take_length] at hoo ⊢
                        refine V_exitk [0, 4, 8, 9, 15] rfl (by simp only [proj, lk, reduceIte, Nat.reduceEqDiff]; rfl) ?_
                        refine hK43 _ _ ?_; clear hK43
                        refine V_reg T.mix (by kernel_rfl) ?_
                        refine S_mv rfl ?_
                        refine S_as rfl ?_
                        refine S_nilk [0, 4, 5, 8, 9] (by simp only [proj, lk, reduceIte, Nat.reduceEqDiff]; rfl) ?_
                        refine hK25 _ _ ?_; clear hK25
                        refine V_reg T.mix (by kernel_rfl) ?_
                        refine S_mv rfl ?_
                        first | refine S_sub rfl rfl (by omega) (by omega) ?_ | refine S_bin rfl rfl rfl ?_
                        refine S_as rfl ?_
                        refine S_nilk [0, 4, 5, 8, 9] (by simp only [proj, lk, reduceIte, Nat.reduceEqDiff]; rfl) ?_
                        exact hK22 _ _ ⟨_, by omega, j, hm, na, nc, resM ck (ltF s j) rc, stI (riF s cl j) I j, by omega, own0 hoo, hcs.res hok sn hjl hrc, (fun i hi => by
                            unfold stI riF; rw [hrc]; simp only []
                            rw [decide_eq_false (show ¬ (i < j ∧ -(ltF s i) ∈ rc) by omega), Bool.or_false]
                            by_cases e : i = j
                            · rw [e]; simp
                            · rw [hz i (by omega), Bool.and_false]), (by rw [uip, if_neg (by omega), hIj, if_pos rfl] at hu; exact hu), (hEk.trans hE5).trans hEm, rfl, rfl, rfl⟩
                · skip
                  have hIj : I j = false := by
                    cases e : I j with
                    | false => rfl
                    | true => exact absurd ((hcs.has hok hjl).2 e) (by simpa using c84)
                  refine V_skipk [0, 4, 5, 8, 9] (by simp only [proj, lk, reduceIte, Nat.reduceEqDiff]; rfl) ?_
                  refine hK25 _ _ ?_; clear hK25
                  refine V_reg T.mix (by kernel_rfl) ?_
                  refine S_mv rfl ?_
                  first | refine S_sub rfl rfl (by omega) (by omega) ?_ | refine S_bin rfl rfl rfl ?_
                  refine S_as rfl ?_
                  refine S_nilk [0, 4, 5, 8, 9] (by simp only [proj, lk, reduceIte, Nat.reduceEqDiff]; rfl) ?_
                  exact hK22 _ _ ⟨_, by omega, j, hk, ka, kc, ck, I, by omega, hIk, hcs, (fun i hi => by by_cases e : i = j; (rw [e]; exact hIj); (exact hz i (by omega))), (by rw [uip, if_neg (by omega), hIj] at hu; simpa using hu), hEk, rfl, rfl, rfl⟩
            · skip
              have hj0 : jj = 0 := by omega
              subst hj0
              refine V_exitk [0, 4, 5, 8] rfl (by simp only [proj, lk, reduceIte, Nat.reduceEqDiff]; rfl) ?_
              exact ⟨hk, ka, kc, ck, hIk, by have h9 : I = jC s cl c := hu; rw [← h9]; exact hcs, hEk, rfl, rfl⟩
          rintro l h' ⟨h6, ka, kc, ck, hIk, hcs, hE6, rfl, rfl⟩
          have hl6 := hcs.len hok
          have hs6 := hE6.1
          refine V_sr T.mix (by kernel_rfl) (fun K50 hK50 => ?_)
          refine S_as rfl ?_
          refine S_nil (hK50 _ _ (V_keep [0, 4, 5, 8, 18] (by simp only [proj, lk, reduceIte, Nat.reduceEqDiff]; rfl) ?_)); clear hK50
          refine V_seq (fun K51 hK51 => ?_)
          refine V_sr T.mix (by kernel_rfl) (fun K52 hK52 => ?_)
          refine S_as rfl ?_
          refine S_nil (hK52 _ _ (V_keep [0, 4, 5, 8, 18, 19] (by simp only [proj, lk, reduceIte, Nat.reduceEqDiff]; rfl) ?_)); clear hK52
          refine V_block ?_
          refine V_loop (fun m l h' => ∃ (i : Nat) (h7 : Heap) (ga : Option Addr) (gc : Nat), (i ≤ ck.length) ∧ (OwnR h6.size h7 ga ((ck.take i).filter (fun x => decide (levV s.L (x.natAbs : Int) ≠ 0))).length gc (ints ((ck.take i).filter (fun x => decide (levV s.L (x.natAbs : Int) ≠ 0)))) 3 1) ∧ (Ext (fun _ => False) h6 h7) ∧ m = ck.length - i ∧ l = [(0, .pointer (some ⟨D, 0, none⟩)), (4, .pointer (some ⟨h.size, 0, none⟩)), (5, .slice ka ck.length kc), (8, .int .i64 (s.k : Int)), (18, .slice ga ((ck.take i).filter (fun x => decide (levV s.L (x.natAbs : Int) ≠ 0))).length gc), (19, .int .i64 (i : Int))] ∧ h7 = h') _ ⟨0, h6, none, 0, by omega, OwnR.nil _ _ _ _, Ext.refl _ _, rfl, rfl, rfl⟩ ?_
          rintro m l h' ⟨i, h7, ga, gc, hi, hog, hE67, rfl, rfl, rfl⟩ K53 hK53
          have hE27 := hE6.trans hE67
          have w7 := w2.new hE27
          have mv7 := mv2.ext hE27 (fun f => f) (fun _ _ f => f) (fun _ _ f => f)
          have hIm := hIk.ext hE67 (fun _ _ f => f)
          have hfl := filt_le (c := ck) (i := i) (fun x => decide (levV s.L (x.natAbs : Int) ≠ 0))
          have hsn := fun h9 => filt_snoc (c := ck) (i := i) h9 (fun x => decide (levV s.L (x.natAbs : Int) ≠ 0))
          have hsm := hE67.1
          try clear m0 m1 m2 m3 m4 hmok
          obtain ⟨m0, m1, m2, m3, m4, hmok⟩ := lmq (w7.b)
          refine V_seq (fun K54 hK54 => ?_)
          refine V_sr T.mix (by kernel_rfl) (fun K55 hK55 => ?_)
          refine S_mv rfl ?_
          refine S_mv rfl ?_
          refine S_lenl T.el39 rfl ?_
          refine S_bin rfl rfl rfl ?_
          refine S_nil (hK55 _ _ (V_keep [0, 4, 5, 8, 18, 19, 173] (by simp only [proj, lk, reduceIte, Nat.reduceEqDiff]; rfl) ?_)); clear hK55
          refine V_condp rfl (fun c106 => ?_) (fun c106 => ?_)
          · skip
            obtain ⟨bb, hbe, _, _, _⟩ := hIm.get (by omega)
            subst hbe
            have hgl := hcs.gd hok (mem_at (show i < ck.length by omega))
            unfold gd at hgl
            refine V_skipk [0, 4, 5, 8, 18, 19] (by simp only [proj, lk, reduceIte, Nat.reduceEqDiff]; rfl) ?_
            refine hK54 _ _ ?_; clear hK54
            refine V_seq (fun K56 hK56 => ?_)
            refine V_block ?_
            refine V_sr T.mix (by kernel_rfl) (fun K57 hK57 => ?_)
            refine S_mv rfl ?_
            refine S_mv rfl ?_
            first | refine S_ixn T.el39 rfl rfl (by omega) ?_ | refine S_ix1 T.el39 rfl rfl (by omega) (by omega) ?_ | refine S_ix T.el39 rfl rfl (by omega) (by omega) ?_
            refine S_ldK T.ag3 rfl (fun K' hK' => ?_)
            simp (disch := omega) only [hIm.at, oP_some, Nat.add_zero]
            refine hK' _ ?_; clear hK' K'
            refine S_call T.hb65 rfl ?_
            refine FC.mono (var_spec _ ((ck.getD i 0)) (by omega) (by omega)) ?_
            rintro v' h' ⟨rfl, rfl⟩
            refine S_as rfl ?_
            refine S_nil (hK57 _ _ (V_keep [0, 4, 5, 8, 18, 19, 20] (by simp only [proj, lk, reduceIte, Nat.reduceEqDiff]; rfl) ?_)); clear hK57
            refine V_sr T.mix (by kernel_rfl) (fun K58 hK58 => ?_)
            refine S_mv rfl ?_
            refine S_nc rfl ?_
            first | refine S_fa0 T.f63_0 rfl ?_ | refine S_fa T.f63_0 rfl ?_
            refine S_ldK T.ag34 rfl (fun K' hK' => ?_)
            simp (disch := omega) only [m0, m1, m2, m3, m4, oP_some, Nat.add_zero]
            refine hK' _ ?_; clear hK' K'
            refine S_mv rfl ?_
            refine S_call T.hb53 rfl ?_
            refine FC.mono (mlevelof_spec h7 Y F s mv7.t ((ck.getD i 0).natAbs : Int)) ?_
            rintro v' h' ⟨rfl, rfl⟩
            refine S_bin rfl rfl rfl ?_
            refine S_nil (hK58 _ _ (V_keep [0, 4, 5, 8, 18, 19, 187] (by simp only [proj, lk, reduceIte, Nat.reduceEqDiff]; rfl) ?_)); clear hK58
            refine V_condp rfl (fun c108 => ?_) (fun c108 => ?_)
            · skip
              refine V_reg T.mix (by kernel_rfl) ?_
              refine S_mv rfl ?_
              refine S_mv rfl ?_
              refine S_mv rfl ?_
              first | refine S_ixn T.el39 rfl rfl (by omega) ?_ | refine S_ix1 T.el39 rfl rfl (by omega) (by omega) ?_ | refine S_ix T.el39 rfl rfl (by omega) (by omega) ?_
              refine S_ldK T.ag3 rfl (fun K' hK' => ?_)
              simp (disch := omega) only [hIm.at, oP_some, Nat.add_zero]
              refine hK' _ ?_; clear hK' K'
              refine S_bs T.ei39 rfl (by decide) (by decide) (T.bs39_1_0 _) ?_
              refine S_appx (lo := h6.size) T.ei39 T.ni39 T.us39 rfl rfl rfl (OwnR.ext hog (Ext.push (fun _ => False) _ _) (fun _ _ f => f)) (by simp; omega) (cellsH_new _ _ _) rfl (by omega) (by decide) (by decide) rfl (fun a8 c8 h8 ho8 hE8x hb8x => ?_)
              have hE8 : Ext (fun z => blkA ga = some z) h7 h8 := (Ext.push _ _ _).trans hE8x
              have hb8 := new_blk2 (h := h7) hb8x (by simp)
              have hI8 : OwnR h6.size h8 a8 (((ck.take i).filter (fun x => decide (levV s.L (x.natAbs : Int) ≠ 0))) ++ [(ck.getD i 0)]).length c8 (ints (((ck.take i).filter (fun x => decide (levV s.L (x.natAbs : Int) ≠ 0))) ++ [(ck.getD i 0)])) 3 1 := by rw [ints_snoc, List.length_append]; exact ho8
              have hs8 := hE8.1
              refine S_as rfl ?_
              refine S_nilk [0, 4, 5, 8, 18, 19] (by simp only [proj, lk, reduceIte, Nat.reduceEqDiff]; rfl) ?_
              refine hK56 _ _ ?_; clear hK56
              refine V_reg T.mix (by kernel_rfl) ?_
              refine S_mv rfl ?_
              first | refine S_add rfl rfl (by omega) (by omega) ?_ | refine S_bin rfl rfl rfl ?_
              refine S_as rfl ?_
              refine S_nilk [0, 4, 5, 8, 18, 19] (by simp only [proj, lk, reduceIte, Nat.reduceEqDiff]; rfl) ?_
              exact hK53 _ _ ⟨_, by omega, i + 1, h8, a8, c8, by omega, (by rw [hsn (by omega), if_pos (decide_eq_true c108)]; exact hI8), hE67.step hE8 (fun z hz e => by have h9 := OwnR.blk2 hog e; omega), rfl, by rw [hsn (by omega), if_pos (decide_eq_true c108)]; simp, rfl⟩
            · skip
              refine V_skipk [0, 4, 5, 8, 18, 19] (by simp only [proj, lk, reduceIte, Nat.reduceEqDiff]; rfl) ?_
              refine hK56 _ _ ?_; clear hK56
              refine V_reg T.mix (by kernel_rfl) ?_
              refine S_mv rfl ?_
              first | refine S_add rfl rfl (by omega) (by omega) ?_ | refine S_bin rfl rfl rfl ?_
              refine S_as rfl ?_
              refine S_nilk [0, 4, 5, 8, 18, 19] (by simp only [proj, lk, reduceIte, Nat.reduceEqDiff]; rfl) ?_
              exact hK53 _ _ ⟨_, by omega, i + 1, h7, ga, gc, by omega, (by rw [hsn (by omega), if_neg (by rw [decide_eq_false c108]; simp)]; exact hog), hE67, rfl, by rw [hsn (by omega), if_neg (by rw [decide_eq_false c108]; simp)]; rfl, rfl⟩
          · skip
            have hii : i = ck.length := by omega
            subst hii
            rw [List.take_length] at hog ⊢
            have hgcon : Con (· ∈ (ck.filter (fun x => decide (levV s.L (x.natAbs : Int) ≠ 0)))) := fun x h1 h2 => hcs.con hok x (List.mem_filter.1 h1).1 (List.mem_filter.1 h2).1
            have hgl : (ck.filter (fun x => decide (levV s.L (x.natAbs : Int) ≠ 0))).length ≤ 12 := Nat.le_trans (List.length_filter_le _ _) hl6
            refine V_exitk [0, 4, 8, 18] rfl (by simp only [proj, lk, reduceIte, Nat.reduceEqDiff]; rfl) ?_
            refine hK51 _ _ ?_; clear hK51
            refine V_sr T.mix (by kernel_rfl) (fun K59 hK59 => ?_)
            refine S_bld rfl (T.bld104) ?_
            refine S_allocA T.z104 ?_
            generalize hh : Array.push h7 _ = h8
            have hO8 : B h8 h7.size #[.int .i64 0, .slice none 0 0, .int .i64 0, .int .i64 0] 104 := by rw [← hh]; exact B.new _ _ _
            have hEh8 : Ext (fun _ => False) h7 h8 := by rw [← hh]; exact Ext.push _ _ _
            have hsh8 : h8.size = h7.size + 1 := by rw [← hh]; simp
            clear hh
            have hook : ∀ j, j < 4 → okPut h8 ⟨h7.size, j, none⟩ = true := fun j hj => hO8.ok (by simpa using hj)
            refine S_stl T.sz104 rfl rfl rfl rfl (fun j hj => by simp (disch := omega) only [hook]) ?_
            generalize hh : putsH _ _ _ _ = h9
            have hO9 : B h9 (h7.size) #[.int .i64 0, .slice none 0 0, .int .i64 0, .int .i64 0] 104 := by rw [← hh]; exact B.puts_all (hO8) (cs' := #[.int .i64 0, .slice none 0 0, .int .i64 0, .int .i64 0]) rfl
            have hEh9 : Ext (fun k => k = h7.size) h8 h9 := by rw [← hh]; exact Ext.puts (S := fun k => k = h7.size) rfl _ _ _
            clear hh
            have hs9 := hEh9.1
            refine S_nil (hK59 _ _ (V_keep [0, 4, 8, 18, 21] (by simp only [proj, lk, reduceIte, Nat.reduceEqDiff]; rfl) ?_)); clear hK59
            refine V_seq (fun K60 hK60 => ?_)
            refine V_sr T.mix (by kernel_rfl) (fun K61 hK61 => ?_)
            refine S_as rfl ?_
            refine S_nil (hK61 _ _ (V_keep [0, 4, 8, 18, 21, 22] (by simp only [proj, lk, reduceIte, Nat.reduceEqDiff]; rfl) ?_)); clear hK61
            refine V_block ?_
            refine V_loop (fun m l h' => ∃ (v : Nat) (hk : Heap) (oa : Option Addr) (oc : Nat), (v ≤ 12) ∧ (B hk h7.size #[.int .i64 (0), .slice oa (shH s cl (fun x => decide (x ∈ (ck.filter (fun x => decide (levV s.L (x.natAbs : Int) ≠ 0))))) v).lits.length oc, .int .i64 ((shH s cl (fun x => decide (x ∈ (ck.filter (fun x => decide (levV s.L (x.natAbs : Int) ≠ 0))))) v).asr), .int .i64 ((shH s cl (fun x => decide (x ∈ (ck.filter (fun x => decide (levV s.L (x.natAbs : Int) ≠ 0))))) v).back)] 104) ∧ (OwnR (h7.size + 1) hk oa (shH s cl (fun x => decide (x ∈ (ck.filter (fun x => decide (levV s.L (x.natAbs : Int) ≠ 0))))) v).lits.length oc (ints (shH s cl (fun x => decide (x ∈ (ck.filter (fun x => decide (levV s.L (x.natAbs : Int) ≠ 0))))) v).lits) 3 1) ∧ (Ext (fun _ => False) h7 hk) ∧ m = 12 - v ∧ l = [(0, .pointer (some ⟨D, 0, none⟩)), (4, .pointer (some ⟨h.size, 0, none⟩)), (8, .int .i64 (s.k : Int)), (18, .slice ga (ck.filter (fun x => decide (levV s.L (x.natAbs : Int) ≠ 0))).length gc), (21, .pointer (some ⟨h7.size, 0, none⟩)), (22, .int .i64 ((v : Int) + 1))] ∧ hk = h') _ ⟨0, h9, none, 0, by omega, hO9, OwnR.nil _ _ _ _, hEh8.step hEh9 (fun z hz e => by omega), rfl, rfl, rfl⟩ ?_
            rintro m l h' ⟨v, hk, oa, oc, hv, hOk, hoo, hE7k, rfl, rfl, rfl⟩ K62 hK62
            have hEk := hE27.trans hE7k
            have wk := w2.new hEk
            have mvk := mv2.ext hEk (fun f => f) (fun _ _ f => f) (fun _ _ f => f)
            have hIgk : IL hk ga gc (ck.filter (fun x => decide (levV s.L (x.natAbs : Int) ≠ 0))) := IL.ext (own0 hog) hE7k (fun _ _ f => f)
            have hlen := (shH_len s cl (fun x => decide (x ∈ (ck.filter (fun x => decide (levV s.L (x.natAbs : Int) ≠ 0))))) v).1
            have hsk := hE7k.1
            have hOl := hOk.lt
            have hlr := levV_rng hok ((v + 1 : Nat) : Int)
            rw [show (v : Int) + 1 = ((v + 1 : Nat) : Int) by omega]
            try clear m0 m1 m2 m3 m4 hmok
            obtain ⟨m0, m1, m2, m3, m4, hmok⟩ := lmq (wk.b)
            try clear o1 o3 hook
            obtain ⟨o1, o3⟩ := ln_cells (hOk)
            have hook : ∀ j, j < 4 → okPut hk ⟨h7.size, j, none⟩ = true := fun j hj => (hOk).ok (by simpa using hj)
            refine V_seq (fun K63 hK63 => ?_)
            refine V_sr T.mix (by kernel_rfl) (fun K64 hK64 => ?_)
            refine S_mv rfl ?_
            refine S_bin rfl rfl rfl ?_
            refine S_nil (hK64 _ _ (V_keep [0, 4, 8, 18, 21, 22, 197] (by simp only [proj, lk, reduceIte, Nat.reduceEqDiff]; rfl) ?_)); clear hK64
            refine V_condp rfl (fun c113 => ?_) (fun c113 => ?_)
            · skip
              refine V_skipk [0, 4, 8, 18, 21, 22] (by simp only [proj, lk, reduceIte, Nat.reduceEqDiff]; rfl) ?_
              refine hK63 _ _ ?_; clear hK63
              refine V_seq (fun K65 hK65 => ?_)
              refine V_block ?_
              refine V_sr T.mix (by kernel_rfl) (fun K66 hK66 => ?_)
              refine S_as rfl ?_
              refine S_nil (hK66 _ _ (V_keep [0, 4, 8, 18, 21, 22, 23] (by simp only [proj, lk, reduceIte, Nat.reduceEqDiff]; rfl) ?_)); clear hK66
              refine V_seqJ (fun l h' => ∃ (q0 : Int) (b0 : Bool), (decide (((v + 1 : Nat) : Int) ∈ (ck.filter (fun x => decide (levV s.L (x.natAbs : Int) ≠ 0)))) = b0) ∧ (q0 = if b0 then ((v + 1 : Nat) : Int) else 0) ∧ l = [(0, .pointer (some ⟨D, 0, none⟩)), (4, .pointer (some ⟨h.size, 0, none⟩)), (8, .int .i64 (s.k : Int)), (18, .slice ga (ck.filter (fun x => decide (levV s.L (x.natAbs : Int) ≠ 0))).length gc), (21, .pointer (some ⟨h7.size, 0, none⟩)), (22, .int .i64 ((v + 1 : Nat) : Int)), (23, .int .i64 q0)] ∧ hk = h') ?_ ?_
              · skip
                refine V_sr T.mix (by kernel_rfl) (fun K68 hK68 => ?_)
                refine S_mv rfl ?_
                refine S_mv rfl ?_
                refine S_call T.hb111 rfl ?_
                refine FC.mono (mhas_spec hk ga gc (ck.filter (fun x => decide (levV s.L (x.natAbs : Int) ≠ 0))) hIgk (by omega) hgcon ((v + 1 : Nat) : Int) (by omega)) ?_
                rintro v' h' ⟨rfl, rfl⟩
                refine S_nil (hK68 _ _ (V_keep [0, 4, 8, 18, 21, 22, 23, 202] (by simp only [proj, lk, reduceIte, Nat.reduceEqDiff]; rfl) ?_)); clear hK68
                refine V_condb rfl (fun c115 => ?_) (fun c115 => ?_)
                · skip
                  refine V_reg T.mix (by kernel_rfl) ?_
                  refine S_mv rfl ?_
                  refine S_as rfl ?_
                  refine S_nilk [0, 4, 8, 18, 21, 22, 23] (by simp only [proj, lk, reduceIte, Nat.reduceEqDiff]; rfl) ?_
                  exact ⟨((v + 1 : Nat) : Int), true, c115, rfl, rfl, rfl⟩
                · skip
                  refine V_skipk [0, 4, 8, 18, 21, 22, 23] (by simp only [proj, lk, reduceIte, Nat.reduceEqDiff]; rfl) ?_
                  exact ⟨0, false, c115, rfl, rfl, rfl⟩
              rintro l h' ⟨q0, b0, hb0, hq0, rfl, rfl⟩
              refine V_seqJ (fun l h' => ∃ (qv : Int), (qv = qH (fun x => decide (x ∈ (ck.filter (fun x => decide (levV s.L (x.natAbs : Int) ≠ 0))))) (v + 1)) ∧ l = [(0, .pointer (some ⟨D, 0, none⟩)), (4, .pointer (some ⟨h.size, 0, none⟩)), (8, .int .i64 (s.k : Int)), (18, .slice ga (ck.filter (fun x => decide (levV s.L (x.natAbs : Int) ≠ 0))).length gc), (21, .pointer (some ⟨h7.size, 0, none⟩)), (22, .int .i64 ((v + 1 : Nat) : Int)), (23, .int .i64 qv)] ∧ hk = h') ?_ ?_
              · skip
                refine V_sr T.mix (by kernel_rfl) (fun K70 hK70 => ?_)
                refine S_mv rfl ?_
                refine S_mv rfl ?_
                first | refine S_neg rfl (by omega) (by omega) ?_ | refine S_un rfl rfl ?_
                refine S_call T.hb111 rfl ?_
                refine FC.mono (mhas_spec hk ga gc (ck.filter (fun x => decide (levV s.L (x.natAbs : Int) ≠ 0))) hIgk (by omega) hgcon (-((v + 1 : Nat) : Int)) (by omega)) ?_
                rintro v' h' ⟨rfl, rfl⟩
                refine S_nil (hK70 _ _ (V_keep [0, 4, 8, 18, 21, 22, 23, 207] (by simp only [proj, lk, reduceIte, Nat.reduceEqDiff]; rfl) ?_)); clear hK70
                refine V_condb rfl (fun c118 => ?_) (fun c118 => ?_)
                · skip
                  refine V_reg T.mix (by kernel_rfl) ?_
                  refine S_mv rfl ?_
                  first | refine S_neg rfl (by omega) (by omega) ?_ | refine S_un rfl rfl ?_
                  refine S_as rfl ?_
                  refine S_nilk [0, 4, 8, 18, 21, 22, 23] (by simp only [proj, lk, reduceIte, Nat.reduceEqDiff]; rfl) ?_
                  exact ⟨-((v + 1 : Nat) : Int), by rw [qH4 b0 true hb0 c118]; rfl, rfl, rfl⟩
                · skip
                  refine V_skipk [0, 4, 8, 18, 21, 22, 23] (by simp only [proj, lk, reduceIte, Nat.reduceEqDiff]; rfl) ?_
                  exact ⟨q0, by rw [qH4 b0 false hb0 c118]; exact hq0, rfl, rfl⟩
              rintro l h' ⟨qv, hq, rfl, rfl⟩
              have hqr := qH_le (fun x => decide (x ∈ (ck.filter (fun x => decide (levV s.L (x.natAbs : Int) ≠ 0))))) (v + 1)
              rw [← hq] at hqr
              have hmx := shH_succ s cl (fun x => decide (x ∈ (ck.filter (fun x => decide (levV s.L (x.natAbs : Int) ≠ 0))))) v
              rw [← hq] at hmx
              refine V_sr T.mix (by kernel_rfl) (fun K71 hK71 => ?_)
              refine S_mv rfl ?_
              refine S_bin rfl rfl rfl ?_
              refine S_nil (hK71 _ _ (V_keep [0, 4, 8, 18, 21, 22, 23, 211] (by simp only [proj, lk, reduceIte, Nat.reduceEqDiff]; rfl) ?_)); clear hK71
              refine V_condp rfl (fun c121 => ?_) (fun c121 => ?_)
              · skip
                rw [if_pos c121] at hmx
                refine V_sr T.mix (by kernel_rfl) (fun K72 hK72 => ?_)
                refine S_mv rfl ?_
                refine S_nc rfl ?_
                first | refine S_fa0 T.f63_0 rfl ?_ | refine S_fa T.f63_0 rfl ?_
                refine S_ldK T.ag34 rfl (fun K' hK' => ?_)
                simp (disch := omega) only [m0, m1, m2, m3, m4, oP_some, Nat.add_zero]
                refine hK' _ ?_; clear hK' K'
                refine S_mv rfl ?_
                refine S_call T.hb53 rfl ?_
                refine FC.mono (mlevelof_spec hk Y F s mvk.t ((v + 1 : Nat) : Int)) ?_
                rintro v' h' ⟨rfl, rfl⟩
                refine S_as rfl ?_
                refine S_nil (hK72 _ _ (V_keep [0, 4, 8, 18, 21, 22, 23, 24] (by simp only [proj, lk, reduceIte, Nat.reduceEqDiff]; rfl) ?_)); clear hK72
                refine V_sr T.mix (by kernel_rfl) (fun K73 hK73 => ?_)
                refine S_mv rfl ?_
                refine S_mv rfl ?_
                refine S_bin rfl rfl rfl ?_
                refine S_nil (hK73 _ _ (V_keep [0, 4, 8, 18, 21, 22, 23, 24, 220] (by simp only [proj, lk, reduceIte, Nat.reduceEqDiff]; rfl) ?_)); clear hK73
                refine V_condp rfl (fun c123 => ?_) (fun c123 => ?_)
                · skip
                  rw [if_pos c123] at hmx
                  refine V_sr T.mix (by kernel_rfl) (fun K74 hK74 => ?_)
                  refine S_mv rfl ?_
                  first | refine S_fa0 T.f104_2 rfl ?_ | refine S_fa T.f104_2 rfl ?_
                  refine S_st T.sz3 rfl rfl rfl rfl (by simp (disch := omega) only [hook]) ?_
                  generalize hh : putH _ _ _ = hq4
                  have hOhq4 : B hq4 h7.size #[.int .i64 (0), .slice oa (shH s cl (fun x => decide (x ∈ (ck.filter (fun x => decide (levV s.L (x.natAbs : Int) ≠ 0))))) v).lits.length oc, .int .i64 (qv), .int .i64 ((shH s cl (fun x => decide (x ∈ (ck.filter (fun x => decide (levV s.L (x.natAbs : Int) ≠ 0))))) v).back)] 104 := by rw [← hh]; exact ((hOk).put 2 _).cong (by simp)
                  have hEhq4 : Ext (fun x => x = h7.size) hk hq4 := by rw [← hh]; exact Ext.put _ _ rfl
                  clear hh
                  have hshq4 := hEhq4.1
                  try clear o1 o3 hook
                  obtain ⟨o1, o3⟩ := ln_cells (hOhq4)
                  have hook : ∀ j, j < 4 → okPut hq4 ⟨h7.size, j, none⟩ = true := fun j hj => (hOhq4).ok (by simpa using hj)
                  have hoo4 := OwnR.ext hoo hEhq4 (fun b e z => by have h9 := (OwnR.blk2 hoo (b := b) (by rw [e]; rfl)).1; omega)
                  refine S_nil (hK74 _ _ (V_keep [0, 4, 8, 18, 21, 22, 23] (by simp only [proj, lk, reduceIte, Nat.reduceEqDiff]; rfl) ?_)); clear hK74
                  refine V_reg T.mix (by kernel_rfl) ?_
                  first | refine S_fa0 T.f104_1 rfl ?_ | refine S_fa T.f104_1 rfl ?_
                  refine S_ldK T.ag39 rfl (fun K' hK' => ?_)
                  simp (disch := omega) only [o1, oP_some, Nat.add_zero]
                  refine hK' _ ?_; clear hK' K'
                  refine S_mv rfl ?_
                  refine S_bs T.ei39 rfl (by decide) (by decide) (T.bs39_1_0 _) ?_
                  refine S_appx (lo := (h7.size + 1)) T.ei39 T.ni39 T.us39 rfl rfl rfl (OwnR.ext hoo4 (Ext.push (fun _ => False) _ _) (fun _ _ f => f)) (by simp; omega) (cellsH_new _ _ _) rfl (by omega) (by decide) (by decide) rfl (fun a11 c11 h11 ho11 hE11x hb11x => ?_)
                  have hE11 : Ext (fun z => blkA oa = some z) hq4 h11 := (Ext.push _ _ _).trans hE11x
                  have hb11 := new_blk2 (h := hq4) hb11x (by simp)
                  have hI11 : OwnR (h7.size + 1) h11 a11 ((shH s cl (fun x => decide (x ∈ (ck.filter (fun x => decide (levV s.L (x.natAbs : Int) ≠ 0))))) v).lits ++ [qv]).length c11 (ints ((shH s cl (fun x => decide (x ∈ (ck.filter (fun x => decide (levV s.L (x.natAbs : Int) ≠ 0))))) v).lits ++ [qv])) 3 1 := by rw [ints_snoc, List.length_append]; exact ho11
                  have hs11 := hE11.1
                  have hO11 := hOhq4.ext hE11 (fun e => by have h9 := (OwnR.blk2 hoo4 e).1; omega)
                  try clear o1 o3 hook
                  obtain ⟨o1, o3⟩ := ln_cells (hO11)
                  have hook : ∀ j, j < 4 → okPut h11 ⟨h7.size, j, none⟩ = true := fun j hj => (hO11).ok (by simpa using hj)
                  first | refine S_fa0 T.f104_1 rfl ?_ | refine S_fa T.f104_1 rfl ?_
                  refine S_st T.sz39 rfl rfl rfl rfl (by simp (disch := omega) only [hook]) ?_
                  generalize hh : putH _ _ _ = h12
                  have hOh12 : B h12 h7.size #[.int .i64 (0), .slice a11 ((shH s cl (fun x => decide (x ∈ (ck.filter (fun x => decide (levV s.L (x.natAbs : Int) ≠ 0))))) v).lits ++ [qv]).length c11, .int .i64 (qv), .int .i64 ((shH s cl (fun x => decide (x ∈ (ck.filter (fun x => decide (levV s.L (x.natAbs : Int) ≠ 0))))) v).back)] 104 := by rw [← hh]; exact ((hO11).put 1 _).cong (by simp)
                  have hEh12 : Ext (fun x => x = h7.size) h11 h12 := by rw [← hh]; exact Ext.put _ _ rfl
                  clear hh
                  have hsh12 := hEh12.1
                  try clear o1 o3 hook
                  obtain ⟨o1, o3⟩ := ln_cells (hOh12)
                  have hook : ∀ j, j < 4 → okPut h12 ⟨h7.size, j, none⟩ = true := fun j hj => (hOh12).ok (by simpa using hj)
                  refine S_nilk [0, 4, 8, 18, 21, 22] (by simp only [proj, lk, reduceIte, Nat.reduceEqDiff]; rfl) ?_
                  refine hK65 _ _ ?_; clear hK65
                  refine V_reg T.mix (by kernel_rfl) ?_
                  refine S_mv rfl ?_
                  first | refine S_add rfl rfl (by omega) (by omega) ?_ | refine S_bin rfl rfl rfl ?_
                  refine S_as rfl ?_
                  refine S_nilk [0, 4, 8, 18, 21, 22] (by simp only [proj, lk, reduceIte, Nat.reduceEqDiff]; rfl) ?_
                  have hE12 := ((hEhq4.mono fun _ e => Or.inl e).step hE11 (fun z hz e => Or.inr (OwnR.blk2 hoo4 e).1) : Ext (fun x => x = h7.size ∨ h7.size + 1 ≤ x) hk h11)
                  exact hK62 _ _ ⟨_, by omega, v + 1, h12, a11, c11, by omega, (by rw [hmx]; exact hOh12), (by rw [hmx]; exact OwnR.ext hI11 hEh12 (fun b e z => by have h9 := (OwnR.blk2 hI11 (b := b) (by rw [e]; rfl)).1; omega)), (hE7k.step hE12 (fun z hz e => by rcases e with e | e <;> omega)).step hEh12 (fun z hz e => by omega), rfl, rfl, rfl⟩
                · skip
                  rw [if_neg c123] at hmx
                  refine V_sr T.mix (by kernel_rfl) (fun K75 hK75 => ?_)
                  refine S_mv rfl ?_
                  refine S_mv rfl ?_
                  refine S_mv rfl ?_
                  refine S_call T.hb112 rfl ?_
                  refine FC.mono (mspare_spec hk D Y M _ wk mm cl G F s mvk ga gc (ck.filter (fun x => decide (levV s.L (x.natAbs : Int) ≠ 0))) hIgk (by omega) hgcon qv (by omega)) ?_
                  rintro v' h5 ⟨rfl, hE5⟩
                  have hs5 := hE5.1
                  have hO5 := hOk.ext hE5 (fun f => f)
                  have hoo5 := OwnR.ext hoo hE5 (fun _ _ f => f)
                  try clear o1 o3 hook
                  obtain ⟨o1, o3⟩ := ln_cells (hO5)
                  have hook : ∀ j, j < 4 → okPut h5 ⟨h7.size, j, none⟩ = true := fun j hj => (hO5).ok (by simpa using hj)
                  refine S_notb rfl ?_
                  refine S_nil (hK75 _ _ (V_keep [0, 4, 8, 18, 21, 22, 23, 24, 233] (by simp only [proj, lk, reduceIte, Nat.reduceEqDiff]; rfl) ?_)); clear hK75
                  refine V_condb rfl (fun c126 => ?_) (fun c126 => ?_)
                  · skip
                    have hsp : spH s cl (fun x => decide (x ∈ (ck.filter (fun x => decide (levV s.L (x.natAbs : Int) ≠ 0))))) qv = false := by simpa using c126
                    rw [if_pos hsp] at hmx
                    refine V_sr T.mix (by kernel_rfl) (fun K76 hK76 => ?_)
                    first | refine S_fa0 T.f104_1 rfl ?_ | refine S_fa T.f104_1 rfl ?_
                    refine S_ldK T.ag39 rfl (fun K' hK' => ?_)
                    simp (disch := omega) only [o1, oP_some, Nat.add_zero]
                    refine hK' _ ?_; clear hK' K'
                    refine S_mv rfl ?_
                    refine S_bs T.ei39 rfl (by decide) (by decide) (T.bs39_1_0 _) ?_
                    refine S_appx (lo := (h7.size + 1)) T.ei39 T.ni39 T.us39 rfl rfl rfl (OwnR.ext hoo5 (Ext.push (fun _ => False) _ _) (fun _ _ f => f)) (by simp; omega) (cellsH_new _ _ _) rfl (by omega) (by decide) (by decide) rfl (fun a13 c13 h13 ho13 hE13x hb13x => ?_)
                    have hE13 : Ext (fun z => blkA oa = some z) h5 h13 := (Ext.push _ _ _).trans hE13x
                    have hb13 := new_blk2 (h := h5) hb13x (by simp)
                    have hI13 : OwnR (h7.size + 1) h13 a13 ((shH s cl (fun x => decide (x ∈ (ck.filter (fun x => decide (levV s.L (x.natAbs : Int) ≠ 0))))) v).lits ++ [qv]).length c13 (ints ((shH s cl (fun x => decide (x ∈ (ck.filter (fun x => decide (levV s.L (x.natAbs : Int) ≠ 0))))) v).lits ++ [qv])) 3 1 := by rw [ints_snoc, List.length_append]; exact ho13
                    have hs13 := hE13.1
                    have hO13 := hO5.ext hE13 (fun e => by have h9 := (OwnR.blk2 hoo5 e).1; omega)
                    try clear o1 o3 hook
                    obtain ⟨o1, o3⟩ := ln_cells (hO13)
                    have hook : ∀ j, j < 4 → okPut h13 ⟨h7.size, j, none⟩ = true := fun j hj => (hO13).ok (by simpa using hj)
                    first | refine S_fa0 T.f104_1 rfl ?_ | refine S_fa T.f104_1 rfl ?_
                    refine S_st T.sz39 rfl rfl rfl rfl (by simp (disch := omega) only [hook]) ?_
                    generalize hh : putH _ _ _ = h14
                    have hOh14 : B h14 h7.size #[.int .i64 (0), .slice a13 ((shH s cl (fun x => decide (x ∈ (ck.filter (fun x => decide (levV s.L (x.natAbs : Int) ≠ 0))))) v).lits ++ [qv]).length c13, .int .i64 ((shH s cl (fun x => decide (x ∈ (ck.filter (fun x => decide (levV s.L (x.natAbs : Int) ≠ 0))))) v).asr), .int .i64 ((shH s cl (fun x => decide (x ∈ (ck.filter (fun x => decide (levV s.L (x.natAbs : Int) ≠ 0))))) v).back)] 104 := by rw [← hh]; exact ((hO13).put 1 _).cong (by simp)
                    have hEh14 : Ext (fun x => x = h7.size) h13 h14 := by rw [← hh]; exact Ext.put _ _ rfl
                    clear hh
                    have hsh14 := hEh14.1
                    try clear o1 o3 hook
                    obtain ⟨o1, o3⟩ := ln_cells (hOh14)
                    have hook : ∀ j, j < 4 → okPut h14 ⟨h7.size, j, none⟩ = true := fun j hj => (hOh14).ok (by simpa using hj)
                    refine S_nil (hK76 _ _ (V_keep [0, 4, 8, 18, 21, 22, 24] (by simp only [proj, lk, reduceIte, Nat.reduceEqDiff]; rfl) ?_)); clear hK76
                    refine V_sr T.mix (by kernel_rfl) (fun K77 hK77 => ?_)
                    refine S_mv rfl ?_
                    first | refine S_fa0 T.f104_3 rfl ?_ | refine S_fa T.f104_3 rfl ?_
                    refine S_ldK T.ag3 rfl (fun K' hK' => ?_)
                    simp (disch := omega) only [o3, oP_some, Nat.add_zero]
                    refine hK' _ ?_; clear hK' K'
                    refine S_bin rfl rfl rfl ?_
                    refine S_nil (hK77 _ _ (V_keep [0, 4, 8, 18, 21, 22, 24, 243] (by simp only [proj, lk, reduceIte, Nat.reduceEqDiff]; rfl) ?_)); clear hK77
                    refine V_condp rfl (fun c128 => ?_) (fun c128 => ?_)
                    · skip
                      rw [if_pos (show (shH s cl (fun x => decide (x ∈ (ck.filter (fun x => decide (levV s.L (x.natAbs : Int) ≠ 0))))) v).back < levV s.L ((v + 1 : Nat) : Int) by omega)] at hmx
                      refine V_reg T.mix (by kernel_rfl) ?_
                      refine S_mv rfl ?_
                      first | refine S_fa0 T.f104_3 rfl ?_ | refine S_fa T.f104_3 rfl ?_
                      refine S_st T.sz3 rfl rfl rfl rfl (by simp (disch := omega) only [hook]) ?_
                      generalize hh : putH _ _ _ = h15
                      have hOh15 : B h15 h7.size #[.int .i64 (0), .slice a13 ((shH s cl (fun x => decide (x ∈ (ck.filter (fun x => decide (levV s.L (x.natAbs : Int) ≠ 0))))) v).lits ++ [qv]).length c13, .int .i64 ((shH s cl (fun x => decide (x ∈ (ck.filter (fun x => decide (levV s.L (x.natAbs : Int) ≠ 0))))) v).asr), .int .i64 (levV s.L ((v + 1 : Nat) : Int))] 104 := by rw [← hh]; exact ((hOh14).put 3 _).cong (by simp)
                      have hEh15 : Ext (fun x => x = h7.size) h14 h15 := by rw [← hh]; exact Ext.put _ _ rfl
                      clear hh
                      have hsh15 := hEh15.1
                      try clear o1 o3 hook
                      obtain ⟨o1, o3⟩ := ln_cells (hOh15)
                      have hook : ∀ j, j < 4 → okPut h15 ⟨h7.size, j, none⟩ = true := fun j hj => (hOh15).ok (by simpa using hj)
                      refine S_nilk [0, 4, 8, 18, 21, 22] (by simp only [proj, lk, reduceIte, Nat.reduceEqDiff]; rfl) ?_
                      refine hK65 _ _ ?_; clear hK65
                      refine V_reg T.mix (by kernel_rfl) ?_
                      refine S_mv rfl ?_
                      first | refine S_add rfl rfl (by omega) (by omega) ?_ | refine S_bin rfl rfl rfl ?_
                      refine S_as rfl ?_
                      refine S_nilk [0, 4, 8, 18, 21, 22] (by simp only [proj, lk, reduceIte, Nat.reduceEqDiff]; rfl) ?_
                      exact hK62 _ _ ⟨_, by omega, v + 1, h15, a13, c13, by omega, (by rw [hmx]; exact hOh15), (by rw [hmx]; exact OwnR.ext (OwnR.ext hI13 hEh14 (fun b e z => by have h9 := (OwnR.blk2 hI13 (b := b) (by rw [e]; rfl)).1; omega)) hEh15 (fun b e z => by have h9 := (OwnR.blk2 hI13 (b := b) (by rw [e]; rfl)).1; omega)), ((((hE7k.trans hE5).step hE13 (fun z hz e => by have h9 := (OwnR.blk2 hoo5 e).1; omega)).step hEh14 (fun z hz e => by omega)).step hEh15 (fun z hz e => by omega)), rfl, rfl, rfl⟩
                    · skip
                      rw [if_neg (show ¬ (shH s cl (fun x => decide (x ∈ (ck.filter (fun x => decide (levV s.L (x.natAbs : Int) ≠ 0))))) v).back < levV s.L ((v + 1 : Nat) : Int) by omega)] at hmx
                      refine V_skipk [0, 4, 8, 18, 21, 22] (by simp only [proj, lk, reduceIte, Nat.reduceEqDiff]; rfl) ?_
                      refine hK65 _ _ ?_; clear hK65
                      refine V_reg T.mix (by kernel_rfl) ?_
                      refine S_mv rfl ?_
                      first | refine S_add rfl rfl (by omega) (by omega) ?_ | refine S_bin rfl rfl rfl ?_
                      refine S_as rfl ?_
                      refine S_nilk [0, 4, 8, 18, 21, 22] (by simp only [proj, lk, reduceIte, Nat.reduceEqDiff]; rfl) ?_
                      exact hK62 _ _ ⟨_, by omega, v + 1, h14, a13, c13, by omega, (by rw [hmx]; exact hOh14), (by rw [hmx]; exact OwnR.ext hI13 hEh14 (fun b e z => by have h9 := (OwnR.blk2 hI13 (b := b) (by rw [e]; rfl)).1; omega)), (((hE7k.trans hE5).step hE13 (fun z hz e => by have h9 := (OwnR.blk2 hoo5 e).1; omega)).step hEh14 (fun z hz e => by omega)), rfl, rfl, rfl⟩
                  · skip
                    have hsp : ¬ spH s cl (fun x => decide (x ∈ (ck.filter (fun x => decide (levV s.L (x.natAbs : Int) ≠ 0))))) qv = false := by simpa using c126
                    rw [if_neg hsp] at hmx
                    refine V_skipk [0, 4, 8, 18, 21, 22] (by simp only [proj, lk, reduceIte, Nat.reduceEqDiff]; rfl) ?_
                    refine hK65 _ _ ?_; clear hK65
                    refine V_reg T.mix (by kernel_rfl) ?_
                    refine S_mv rfl ?_
                    first | refine S_add rfl rfl (by omega) (by omega) ?_ | refine S_bin rfl rfl rfl ?_
                    refine S_as rfl ?_
                    refine S_nilk [0, 4, 8, 18, 21, 22] (by simp only [proj, lk, reduceIte, Nat.reduceEqDiff]; rfl) ?_
                    exact hK62 _ _ ⟨_, by omega, v + 1, h5, oa, oc, by omega, (by rw [hmx]; exact hO5), (by rw [hmx]; exact hoo5), hE7k.trans hE5, rfl, rfl, rfl⟩
              · skip
                rw [if_neg c121] at hmx
                refine V_skipk [0, 4, 8, 18, 21, 22] (by simp only [proj, lk, reduceIte, Nat.reduceEqDiff]; rfl) ?_
                refine hK65 _ _ ?_; clear hK65
                refine V_reg T.mix (by kernel_rfl) ?_
                refine S_mv rfl ?_
                first | refine S_add rfl rfl (by omega) (by omega) ?_ | refine S_bin rfl rfl rfl ?_
                refine S_as rfl ?_
                refine S_nilk [0, 4, 8, 18, 21, 22] (by simp only [proj, lk, reduceIte, Nat.reduceEqDiff]; rfl) ?_
                exact hK62 _ _ ⟨_, by omega, v + 1, hk, oa, oc, by omega, (by rw [hmx]; exact hOk), (by rw [hmx]; exact hoo), hE7k, rfl, rfl, rfl⟩
            · skip
              have hv12 : v = 12 := by omega
              generalize hSv : (shH s cl (fun x => decide (x ∈ (ck.filter (fun x => decide (levV s.L (x.natAbs : Int) ≠ 0))))) v) = Sz at *
              rw [hv12] at hSv hlen
              refine V_exitk [0, 4, 21] rfl (by simp only [proj, lk, reduceIte, Nat.reduceEqDiff]; rfl) ?_
              refine hK60 _ _ ?_; clear hK60
              refine V_sr T.mix (by kernel_rfl) (fun K78 hK78 => ?_)
              first | refine S_fa0 T.f104_1 rfl ?_ | refine S_fa T.f104_1 rfl ?_
              refine S_ldK T.ag39 rfl (fun K' hK' => ?_)
              simp (disch := omega) only [o1, oP_some, Nat.add_zero]
              refine hK' _ ?_; clear hK' K'
              refine S_call T.hb59 rfl ?_
              refine FC.mono (copyints_spec hk oa oc Sz.lits (own0 hoo) (by omega)) ?_
              rintro v' h10 ⟨xa, rfl, hIx, hE10, hxn, hxb⟩
              have hs10 := hE10.1
              have hO10 := hOk.ext hE10 (fun f => f)
              try clear o1 o3 hook
              obtain ⟨o1, o3⟩ := ln_cells (hO10)
              have hook : ∀ j, j < 4 → okPut h10 ⟨h7.size, j, none⟩ = true := fun j hj => (hO10).ok (by simpa using hj)
              first | refine S_fa0 T.f104_1 rfl ?_ | refine S_fa T.f104_1 rfl ?_
              refine S_st T.sz39 rfl rfl rfl rfl (by simp (disch := omega) only [hook]) ?_
              generalize hh : putH _ _ _ = h16
              have hOh16 : B h16 h7.size #[.int .i64 (0), .slice xa Sz.lits.length Sz.lits.length, .int .i64 (Sz.asr), .int .i64 (Sz.back)] 104 := by rw [← hh]; exact ((hO10).put 1 _).cong (by simp)
              have hEh16 : Ext (fun x => x = h7.size) h10 h16 := by rw [← hh]; exact Ext.put _ _ rfl
              clear hh
              have hsh16 := hEh16.1
              try clear o1 o3 hook
              obtain ⟨o1, o3⟩ := ln_cells (hOh16)
              have hook : ∀ j, j < 4 → okPut h16 ⟨h7.size, j, none⟩ = true := fun j hj => (hOh16).ok (by simpa using hj)
              have hE2_16 : Ext (fun _ => False) h2 h16 := (hEk.trans hE10).step hEh16 (fun b hb e => by omega)
              have w16 := w2.new hE2_16
              have hIx16 := hIx.ext hEh16 (fun b e z => by have h9 := hxb b e; omega)
              have hR16 := hR2.ext hE2_16 (fun f => f)
              try clear m0 m1 m2 m3 m4 hmok
              obtain ⟨m0, m1, m2, m3, m4, hmok⟩ := lmq (w16.b)
              have hae : (ansF s cl conf) = Sz := by
                unfold ansF; rw [hlv]; simp only []
                rw [if_pos hal, if_neg hne0, ← hSv]
                exact shH_cong hnl0 (fun x hx => by rw [Bool.eq_iff_iff, hB_iff, decide_eq_true_eq, hcs.hi hok]) 12 (Nat.le_refl _)
              have hle12 := shH_len s cl (fun x => decide (x ∈ (ck.filter (fun x => decide (levV s.L (x.natAbs : Int) ≠ 0))))) 12
              rw [hSv] at hle12
              refine S_nil (hK78 _ _ (V_keep [0, 4, 21] (by simp only [proj, lk, reduceIte, Nat.reduceEqDiff]; rfl) ?_)); clear hK78
              refine V_seq (fun K79 hK79 => ?_)
              refine V_sr T.mix (by kernel_rfl) (fun K80 hK80 => ?_)
              refine S_mv rfl ?_
              refine S_nc rfl ?_
              first | refine S_fa0 T.f63_4 rfl ?_ | refine S_fa T.f63_4 rfl ?_
              refine S_ldK T.ag39 rfl (fun K' hK' => ?_)
              simp (disch := omega) only [m0, m1, m2, m3, m4, oP_some, Nat.add_zero]
              refine hK' _ ?_; clear hK' K'
              refine S_lenl T.el39 rfl ?_
              refine S_bin rfl rfl rfl ?_
              refine S_nil (hK80 _ _ (V_keep [0, 4, 21, 255] (by simp only [proj, lk, reduceIte, Nat.reduceEqDiff]; rfl) ?_)); clear hK80
              refine V_condp rfl (fun c135 => ?_) (fun c135 => ?_)
              · skip
                refine V_sr T.mix (by kernel_rfl) (fun K81 hK81 => ?_)
                refine S_mv rfl ?_
                refine S_mv rfl ?_
                refine S_nc rfl ?_
                first | refine S_fa0 T.f63_4 rfl ?_ | refine S_fa T.f63_4 rfl ?_
                refine S_ldK T.ag39 rfl (fun K' hK' => ?_)
                simp (disch := omega) only [m4, o1, oP_some, Nat.add_zero]
                refine hK' _ ?_; clear hK' K'
                first | refine S_fa0 T.f104_1 rfl ?_ | refine S_fa T.f104_1 rfl ?_
                refine S_ldK T.ag39 rfl (fun K' hK' => ?_)
                simp (disch := omega) only [m4, o1, oP_some, Nat.add_zero]
                refine hK' _ ?_; clear hK' K'
                refine S_appx (lo := 0) T.ei39 T.ni39 T.us39 rfl rfl rfl w16.so (Nat.zero_le _) (OwnR.cells hIx16) (by simp [ints]) (by omega) (by decide) (by decide) (List.all_eq_true.2 (ints_one _)) (fun a17 c17 h17 ho17 hE17 hb17 => ?_)
                have hI17 : IL h17 a17 c17 (q1.said ++ Sz.lits) := by unfold IL; rw [ints_app, List.length_append]; exact ho17
                have hs17 := hE17.1
                have hD17 := w16.b.ext hE17 (fun e => w2.ns D e rfl)
                have hO17 := hOh16.ext hE17 (fun e => by have h9 := w2.so.lt e; omega)
                have ha17 : ∀ b, blkA a17 = some b → blkA q1.sa = some b ∨ h16.size ≤ b := fun b e => by rcases hb17 with z | z; (rw [z] at e; exact .inl e); (rw [z] at e; injection e with e; exact .inr (by omega))
                try clear m0 m1 m2 m3 m4 hmok
                obtain ⟨m0, m1, m2, m3, m4, hmok⟩ := lmq (hD17)
                refine S_nc rfl ?_
                first | refine S_fa0 T.f63_4 rfl ?_ | refine S_fa T.f63_4 rfl ?_
                refine S_st T.sz39 rfl rfl rfl rfl (by simp (disch := omega) only [hmok]) ?_
                generalize hh : putH _ _ _ = h18
                have hBh18 : B h18 D (lcs Y M { q1 with sa := a17, sc := c17, said := q1.said ++ Sz.lits }) 63 := by rw [← hh]; exact ((hD17).put 4 _).cong (by simp [lcs, LC.z, Nat.add_assoc])
                have hEh18 : Ext (fun x => x = D) h17 h18 := by rw [← hh]; exact Ext.put _ _ rfl
                clear hh
                try clear m0 m1 m2 m3 m4 hmok
                obtain ⟨m0, m1, m2, m3, m4, hmok⟩ := lmq (hBh18)
                have hsh18 := hEh18.1
                have na17 : ∀ b, blkA a17 = some b → b ≠ D := fun b e z => by rcases ha17 b e with y | y; (exact w2.ns b y z); (omega)
                have hI18 := hI17.ext hEh18 na17
                have hll18 : (q1.said ++ Sz.lits).length = q1.said.length + Sz.lits.length := List.length_append
                have hO18 := hO17.ext hEh18 (fun e => by omega)
                refine S_nil (hK81 _ _ (V_keep [0, 4, 21] (by simp only [proj, lk, reduceIte, Nat.reduceEqDiff]; rfl) ?_)); clear hK81
                refine V_sr T.mix (by kernel_rfl) (fun K82 hK82 => ?_)
                refine S_mv rfl ?_
                refine S_mv rfl ?_
                refine S_nc rfl ?_
                first | refine S_fa0 T.f63_4 rfl ?_ | refine S_fa T.f63_4 rfl ?_
                refine S_ldK T.ag39 rfl (fun K' hK' => ?_)
                simp (disch := omega) only [m0, m1, m2, m3, m4, oP_some, Nat.add_zero]
                refine hK' _ ?_; clear hK' K'
                refine S_bs T.ei39 rfl (by decide) (by decide) (T.bs39_1_0 _) ?_
                refine S_appx (lo := 0) T.ei39 T.ni39 T.us39 rfl rfl rfl (OwnR.ext hI18 (Ext.push (fun _ => False) _ _) (fun _ _ f => f)) (Nat.zero_le _) (cellsH_new _ _ _) rfl (by omega) (by decide) (by decide) rfl (fun a19 c19 h19 ho19 hE19x hb19x => ?_)
                have hE19 : Ext (fun z => blkA a17 = some z) h18 h19 := (Ext.push _ _ _).trans hE19x
                have hb19 := new_blk2 (h := h18) hb19x (by simp)
                have hI19 : OwnR 0 h19 a19 ((q1.said ++ Sz.lits) ++ [0]).length c19 (ints ((q1.said ++ Sz.lits) ++ [0])) 3 1 := by rw [ints_snoc, List.length_append]; exact ho19
                have hs19 := hE19.1
                have hD19 := hBh18.ext hE19 (fun e => na17 D e rfl)
                have hO19 := hO18.ext hE19 (fun e => by rcases ha17 _ e with z | z; (have h9 := w2.so.lt z; omega); (omega))
                have ha19 : ∀ b, blkA a19 = some b → blkA q1.sa = some b ∨ h16.size ≤ b := fun b e => by rcases hb19 b e with z | z; (exact ha17 b z); (exact .inr (by omega))
                try clear m0 m1 m2 m3 m4 hmok
                obtain ⟨m0, m1, m2, m3, m4, hmok⟩ := lmq (hD19)
                refine S_nc rfl ?_
                first | refine S_fa0 T.f63_4 rfl ?_ | refine S_fa T.f63_4 rfl ?_
                refine S_st T.sz39 rfl rfl rfl rfl (by simp (disch := omega) only [hmok]) ?_
                generalize hh : putH _ _ _ = h20
                have hBh20 : B h20 D (lcs Y M { q1 with sa := a19, sc := c19, said := q1.said ++ Sz.lits ++ [0] }) 63 := by rw [← hh]; exact ((hD19).put 4 _).cong (by simp [lcs, LC.z, Nat.add_assoc])
                have hEh20 : Ext (fun x => x = D) h19 h20 := by rw [← hh]; exact Ext.put _ _ rfl
                clear hh
                try clear m0 m1 m2 m3 m4 hmok
                obtain ⟨m0, m1, m2, m3, m4, hmok⟩ := lmq (hBh20)
                have hsh20 := hEh20.1
                have na19 : ∀ b, blkA a19 = some b → b ≠ D := fun b e z => by rcases ha19 b e with y | y; (exact w2.ns b y z); (omega)
                have hI20 : IL h20 a19 c19 (q1.said ++ Sz.lits ++ [0]) := IL.ext (h := h19) hI19 hEh20 na19
                have hO20 := hO19.ext hEh20 (fun e => by omega)
                have hbo20 := (((w16.bo.ext hE17 (fun b e => w2.bs b e)).ext hEh18 (fun b e => w2.nb b e)).ext hE19 (fun b e z => by rcases ha17 b z with y | y; (exact w2.bs b e y); (have h9 := w2.bo.lt e; omega))).ext hEh20 (fun b e => w2.nb b e)
                try clear o1 o3 hook
                obtain ⟨o1, o3⟩ := ln_cells (hO20)
                have hook : ∀ j, j < 4 → okPut h20 ⟨h7.size, j, none⟩ = true := fun j hj => (hO20).ok (by simpa using hj)
                have hxa20 := (((hIx16.ext hE17 (fun b e z => by have h9 := hxb b e; have h8 := w2.so.lt z; omega)).ext hEh18 (fun b e z => by have h9 := hxb b e; omega)).ext hE19 (fun b e z => by have h9 := hxb b e; have h7 := hIx16.lt e; rcases ha17 b z with y | y; (have h8 := w2.so.lt y; omega); (omega))).ext hEh20 (fun b e z => by have h9 := hxb b e; omega)
                refine S_nil (hK82 _ _ (V_keep [0, 4, 21] (by simp only [proj, lk, reduceIte, Nat.reduceEqDiff]; rfl) ?_)); clear hK82
                refine V_reg T.mix (by kernel_rfl) ?_
                refine S_mv rfl ?_
                refine S_mv rfl ?_
                refine S_nc rfl ?_
                first | refine S_fa0 T.f63_3 rfl ?_ | refine S_fa T.f63_3 rfl ?_
                refine S_ldK T.ag39 rfl (fun K' hK' => ?_)
                simp (disch := omega) only [m3, o3, oP_some, Nat.add_zero]
                refine hK' _ ?_; clear hK' K'
                first | refine S_fa0 T.f104_3 rfl ?_ | refine S_fa T.f104_3 rfl ?_
                refine S_ldK T.ag3 rfl (fun K' hK' => ?_)
                simp (disch := omega) only [m3, o3, oP_some, Nat.add_zero]
                refine hK' _ ?_; clear hK' K'
                refine S_bs T.ei39 rfl (by decide) (by decide) (T.bs39_1_0 _) ?_
                refine S_appx (lo := 0) T.ei39 T.ni39 T.us39 rfl rfl rfl (OwnR.ext hbo20 (Ext.push (fun _ => False) _ _) (fun _ _ f => f)) (Nat.zero_le _) (cellsH_new _ _ _) rfl (by omega) (by decide) (by decide) rfl (fun a21 c21 h21 ho21 hE21x hb21x => ?_)
                have hE21 : Ext (fun z => blkA q1.ba = some z) h20 h21 := (Ext.push _ _ _).trans hE21x
                have hb21 := new_blk2 (h := h20) hb21x (by simp)
                have hI21 : OwnR 0 h21 a21 (q1.backs ++ [Sz.back]).length c21 (ints (q1.backs ++ [Sz.back])) 3 1 := by rw [ints_snoc, List.length_append]; exact ho21
                have hs21 := hE21.1
                have hD21 := hBh20.ext hE21 (fun e => w2.nb D e rfl)
                have hO21 := hO20.ext hE21 (fun e => by have h9 := w2.bo.lt e; omega)
                have ha21 : ∀ b, blkA a21 = some b → blkA q1.ba = some b ∨ h20.size ≤ b := hb21
                try clear m0 m1 m2 m3 m4 hmok
                obtain ⟨m0, m1, m2, m3, m4, hmok⟩ := lmq (hD21)
                refine S_nc rfl ?_
                first | refine S_fa0 T.f63_3 rfl ?_ | refine S_fa T.f63_3 rfl ?_
                refine S_st T.sz39 rfl rfl rfl rfl (by simp (disch := omega) only [hmok]) ?_
                generalize hh : putH _ _ _ = h22
                have hBh22 : B h22 D (lcs Y M { q1 with sa := a19, sc := c19, said := q1.said ++ Sz.lits ++ [0], ba := a21, bc := c21, backs := q1.backs ++ [Sz.back] }) 63 := by rw [← hh]; exact ((hD21).put 3 _).cong (by simp [lcs, LC.z, Nat.add_assoc])
                have hEh22 : Ext (fun x => x = D) h21 h22 := by rw [← hh]; exact Ext.put _ _ rfl
                clear hh
                try clear m0 m1 m2 m3 m4 hmok
                obtain ⟨m0, m1, m2, m3, m4, hmok⟩ := lmq (hBh22)
                have hsh22 := hEh22.1
                have na21 : ∀ b, blkA a21 = some b → b ≠ D := fun b e z => by rcases ha21 b e with y | y; (exact w2.nb b y z); (omega)
                have hI22 : IL h22 a21 c21 (q1.backs ++ [Sz.back]) := IL.ext (h := h21) hI21 hEh22 na21
                have hs22x : IL h22 a19 c19 (q1.said ++ Sz.lits ++ [0]) := (hI20.ext hE21 (fun b e z => by have h8 := w2.bo.lt z; rcases ha19 b e with y | y; (exact w2.bs b z y); (omega))).ext hEh22 na19
                have hOf := hO21.ext hEh22 (fun e => by omega)
                have hxa22 := (hxa20.ext hE21 (fun b e z => by have h9 := hxb b e; have h8 := w2.bo.lt z; omega)).ext hEh22 (fun b e z => by have h9 := hxb b e; omega)
                have hR22 := (((((hR16.ext hE17 (fun e => by have h9 := w2.so.lt e; have h8 := hnl1 h.size (.inr (.inr e)); exact h8 rfl)).ext hEh18 (fun e => by omega)).ext hE19 (fun e => by rcases ha17 _ e with z | z; (exact hnl1 h.size (.inr (.inr z)) rfl); (omega))).ext hEh20 (fun e => by omega)).ext hE21 (fun e => hnl1 h.size (.inr (.inl e)) rfl)).ext hEh22 (fun e => by omega)
                try clear hrok
                have hrok : ∀ j, j < 4 → okPut h22 ⟨h.size, j, none⟩ = true := fun j hj => (hR22).ok (by simpa using hj)
                refine S_nilk [4, 21] (by simp only [proj, lk, reduceIte, Nat.reduceEqDiff]; rfl) ?_
                refine hK79 _ _ ?_; clear hK79
                refine V_sr T.mix (by kernel_rfl) (fun K83 hK83 => ?_)
                refine S_ldn T.ag104 rfl (hOf.all rfl) ?_
                refine S_stl T.sz104 rfl rfl rfl rfl (fun j hj => by simp (disch := omega) only [hrok]) ?_
                generalize hh : putsH _ _ _ _ = h23
                have hR9 : B h23 (h.size) #[.int .i64 (0), .slice xa Sz.lits.length Sz.lits.length, .int .i64 (Sz.asr), .int .i64 (Sz.back)] 104 := by rw [← hh]; exact B.puts_all (hR22) (cs' := #[.int .i64 (0), .slice xa Sz.lits.length Sz.lits.length, .int .i64 (Sz.asr), .int .i64 (Sz.back)]) rfl
                have hEh23 : Ext (fun k => k = h.size) h22 h23 := by rw [← hh]; exact Ext.puts (S := fun k => k = h.size) rfl _ _ _
                clear hh
                refine S_nil (hK83 _ _ (V_keep [4] (by simp only [proj, lk, reduceIte, Nat.reduceEqDiff]; rfl) ?_)); clear hK83
                refine V_ret ?_
                refine hR _ _ (retc1 rfl rfl T.ag104 hR9 (by rfl) ?_)
                rw [hae]
                refine ⟨xa, { q1 with sa := a19, sc := c19, said := q1.said ++ Sz.lits ++ [0], ba := a21, bc := c21, backs := q1.backs ++ [Sz.back] }, by rw [hle12.2]; rfl, ?_, hxn, fun b e => by have h9 := hxb b e; have h8 := hE2t.1; omega, ⟨hBh22.ext hEh23 (hnl1 D (.inl rfl)), hI22.ext hEh23 (fun b e z => ?_), hs22x.ext hEh23 (fun b e z => ?_), na21, na19, fun b e1 e2 => ?_, by simp; omega, by simp; omega⟩, ⟨hq1.1, fun _ => ⟨by simp only []; rw [hq1.2.2.2.2], by simp only []; rw [hq1.2.2.2.1]⟩, fun e => absurd ⟨hle12.2, by rw [← hq1.2.2.2.2]; omega⟩ e⟩, fun b e => ?_, fun b e z => ?_, ?_⟩
                · exact hxa22.ext hEh23 (fun b e z => by have h9 := hxb b e; have h8 := hE2t.1; omega)
                · rcases ha21 b e with y | y; (exact hnl1 b (.inr (.inl y)) z); (have h8 := hE2t.1; omega)
                · rcases ha19 b e with y | y; (exact hnl1 b (.inr (.inr y)) z); (have h8 := hE2t.1; omega)
                · rcases ha21 b e1 with y | y
                  · rcases ha19 b e2 with x | x; (exact w2.bs b y x); (have h9 := w2.bo.lt y; omega)
                  · have h9 := hI20.lt e2; omega
                · rcases e with e | e | e
                  · exact .inl (.inl e)
                  · rcases ha21 b e with y | y; (exact .inl ((hLT b).1 (.inr (.inl y)))); (have h8 := hE2t.1; exact .inr (by omega))
                  · rcases ha19 b e with y | y; (exact .inl ((hLT b).1 (.inr (.inr y)))); (have h8 := hE2t.1; exact .inr (by omega))
                · have h9 := hxb b e
                  have h7 := hIx.lt e
                  rcases z with z | z | z
                  · omega
                  · rcases ha21 b z with y | y; (have h8 := w2.bo.lt y; omega); (omega)
                  · rcases ha19 b z with y | y; (have h8 := w2.so.lt y; omega); (omega)
                · have hEa : Ext (fun b => LT q D b ∨ h16.size ≤ b) h16 h22 := (((((hE17.mono fun b e => Or.inl ((hLT b).1 (.inr (.inr e)))).trans (hEh18.mono fun b e => Or.inl (.inl e))).trans (hE19.mono fun b e => by rcases ha17 b e with y | y; (exact .inl ((hLT b).1 (.inr (.inr y)))); (exact .inr y))).trans (hEh20.mono fun b e => Or.inl (.inl e))).trans (hE21.mono fun b e => Or.inl ((hLT b).1 (.inr (.inl e))))).trans (hEh22.mono fun b e => Or.inl (.inl e))
                  exact ((hE2t.trans (hE2_16.mono fun _ f => f.elim)).step hEa (fun b hb e => by have h8 := hE2t.1; rcases e with e | e; (exact e); (omega))).step hEh23 (fun b hb e => by omega)
              · skip
                have hOf := hOh16
                try clear hrok
                have hrok : ∀ j, j < 4 → okPut h16 ⟨h.size, j, none⟩ = true := fun j hj => (hR16).ok (by simpa using hj)
                refine V_skipk [4, 21] (by simp only [proj, lk, reduceIte, Nat.reduceEqDiff]; rfl) ?_
                refine hK79 _ _ ?_; clear hK79
                refine V_sr T.mix (by kernel_rfl) (fun K84 hK84 => ?_)
                refine S_ldn T.ag104 rfl (hOf.all rfl) ?_
                refine S_stl T.sz104 rfl rfl rfl rfl (fun j hj => by simp (disch := omega) only [hrok]) ?_
                generalize hh : putsH _ _ _ _ = h23
                have hR9 : B h23 (h.size) #[.int .i64 (0), .slice xa Sz.lits.length Sz.lits.length, .int .i64 (Sz.asr), .int .i64 (Sz.back)] 104 := by rw [← hh]; exact B.puts_all (hR16) (cs' := #[.int .i64 (0), .slice xa Sz.lits.length Sz.lits.length, .int .i64 (Sz.asr), .int .i64 (Sz.back)]) rfl
                have hEh23 : Ext (fun k => k = h.size) h16 h23 := by rw [← hh]; exact Ext.puts (S := fun k => k = h.size) rfl _ _ _
                clear hh
                refine S_nil (hK84 _ _ (V_keep [4] (by simp only [proj, lk, reduceIte, Nat.reduceEqDiff]; rfl) ?_)); clear hK84
                refine V_ret ?_
                refine hR _ _ (retc1 rfl rfl T.ag104 hR9 (by rfl) ?_)
                rw [hae]
                refine ⟨xa, q1, by rw [hle12.2]; rfl, hIx16.ext hEh23 (fun b e z => by have h9 := hxb b e; have h8 := hE2t.1; omega), hxn, fun b e => by have h9 := hxb b e; have h8 := hE2t.1; omega, w16.ext hEh23 hnl1, ⟨hq1.1, fun e => absurd e.2 (by rw [← hq1.2.2.2.2]; omega), fun _ => ⟨hq1.2.2.2.2, hq1.2.2.2.1⟩⟩, fun b e => .inl ((hLT b).1 e), fun b e z => by have h9 := hxb b e; have h8 := w2.lt z; omega, (hE2t.trans (hE2_16.mono fun _ f => f.elim)).step hEh23 (fun b hb e => by omega)⟩
end Go.Proofs.Qxb6500400aGreat
