import Derived.Test.Qxb6500401aGreatCo
set_option linter.unusedVariables false
set_option linter.unusedSimpArgs false
namespace Go.Proofs.Qxb6500401aGreat.ChkW
open Go.Eng Go.Cnf Go.Chk

theorem refute_fuel : ∀ (k last : Nat), last ≤ 12 → 12 - last ≤ k → RefS last
  | 0, last, hl, hk => by
    intro h la lc lo hi_ cs a b c pa pc pre d e fa fc fl f g i
    exact refute_step last hl (fun v h1 h2 => by omega) h la lc lo hi_ cs a b c pa pc pre d e fa fc fl f g i
  | k + 1, last, hl, hk => by
    intro h la lc lo hi_ cs a b c pa pc pre d e fa fc fl f g i
    exact refute_step last hl (fun v h1 h2 => refute_fuel k v h2 (by omega)) h la lc lo hi_ cs a b c pa pc pre d e fa fc fl f g i
theorem refute_all (last : Nat) (hl : last ≤ 12) : RefS last := refute_fuel 12 last hl (by omega)
def Ans3 (s : ByteArray) (e : Nat) (sb : Bool) (pf : ByteArray) : Prop := e ≠ 0 ∨ (e = 0 ∧ sb = true) ∨ (e = 0 ∧ sb = false ∧ prE s = 0 ∧ (∀ m, m < 4096 → ¬ sat ((rowsOf (parseF s).2.2).map (·.2)) m) ∧ ∃ rows, Tree ((rowsOf (parseF s).2.2).map (·.2)) [] 0 rows ∧ pf = textOf (printB (flatR rows)))
theorem prob_rows {s : ByteArray} (h : prE s = 0) : (∀ c ∈ ((rowsOf (parseF s).2.2).map (·.2)), Nrm c) ∧ ((rowsOf (parseF s).2.2).map (·.2)).length ≤ 40 := by
  have h0 := pr_ok h
  have h1 := rowsOf_ok (parseF_ok h0.1).2
  have h2 := fit_ok h0.2
  exact ⟨nrm_rows h1.2, by simpa using h2.2⟩
theorem printF_tree {rows : List Rw} (h : NrmR rows) (hl : (flatR rows).length ≤ 262144) : (printF (flatR rows)).1 = textOf (printB (flatR rows)) := by
  unfold printF; rw [if_neg (by omega), if_pos (rows_flat h)]
theorem tree_chk {s pf : ByteArray} {sb : Bool} (h : Ans3 s 0 sb pf) (hs : sb = false) : chkF s pf = (0, 0, 0) := by
  rcases h with h | h | ⟨_, _, h0, hu, rows, ht, rfl⟩
  · exact absurd rfl h
  · rw [hs] at h; cases h.2
  · have hr := prob_rows h0
    have hn := ht.nrm (PreOk.nil _)
    have hl := ht.len (by simp) (by omega)
    have e : tb 0 = 204836 := by decide
    have hp := round (rows_flat hn) (by omega : (flatR rows).length ≤ 262144)
    have hf := ht.ok hr.1 hu hr.2
    have := chk3 (s := s) (t := textOf (printB (flatR rows))) (e := 0) (p := 0) h0 (by rw [hp]) (by rw [hp]; simp only []; rw [rowsOf_flat hn]; exact hf)
    rw [this]; rfl
set_option maxHeartbeats 400000 in
theorem snew_spec (h : Heap) :
    FC Tryz.prog 13 (#[] : Array Value) h fun rv h' => ∃ M Sv : Nat, rv = .pointer (some ⟨Sv, 0, none⟩) ∧ B h' Sv #[.pointer (some ⟨M, 0, none⟩)] 70 ∧ B h' M #[.int .i64 0, .int .i64 0] 109 ∧ h.size ≤ M ∧ Sv ≠ M ∧ Ext (fun _ => False) h h' := by
  refine FC_of [] Tryz.func13 rfl Tryz.ntmps13 (by simp) rfl (fun R hR => ?_)
  refine V_sr T.mix (by kernel_rfl) (fun K1 hK1 => ?_)
  refine S_as rfl ?_
  refine S_nil (hK1 _ _ (V_keep [] (by simp only [proj, lk, reduceIte, Nat.reduceEqDiff]; rfl) ?_)); clear hK1
  refine V_sr T.mix (by kernel_rfl) (fun K2 hK2 => ?_)
  refine S_call T.hb24 rfl ?_
  refine FC.mono (mnew_spec h) ?_
  rintro v' h1 ⟨rfl, hM1, hE1⟩
  refine S_as rfl ?_
  refine S_nil (hK2 _ _ (V_keep [1] (by simp only [proj, lk, reduceIte, Nat.reduceEqDiff]; rfl) ?_)); clear hK2
  refine V_sr T.mix (by kernel_rfl) (fun K3 hK3 => ?_)
  refine S_mv rfl ?_
  refine S_bld rfl (T.bld70_0 _) ?_
  refine S_boxA rfl ?_
  refine S_as rfl ?_
  refine S_nil (hK3 _ _ (V_keep [0] (by simp only [proj, lk, reduceIte, Nat.reduceEqDiff]; rfl) ?_)); clear hK3
  refine V_ret ?_
  refine hR _ _ (ret1 rfl rfl ?_)
  exact ⟨h.size, h1.size, rfl, B.new _ _ _, hM1.push _, Nat.le_refl _, by have h9 := hM1.lt; omega, hE1.trans (Ext.push _ _ _)⟩
set_option maxHeartbeats 1600000 in
theorem solve_spec (h : Heap) (Sv M : Nat) (hSv : B h Sv #[.pointer (some ⟨M, 0, none⟩)] 70) (u w : Int) (hM : B h M #[.int .i64 u, .int .i64 w] 109) (hne : Sv ≠ M) (s : ByteArray) :
    FC Tryz.prog 30 (#[.pointer (some ⟨Sv, 0, none⟩), .string s] : Array Value) h fun rv h' => ∃ (e p : Nat) (sb : Bool) (ma : Option Addr) (mn mc : Nat) (pf : ByteArray), rv = .agg #[.int .i64 e, .int .i64 p, .bool sb, .slice ma mn mc, .string pf, .int .i64 0, .int .i64 0] ∧ Ans3 s e sb pf ∧ Ext (fun z => z = M) h h' := by
  have hSl := hSv.lt
  have hMl := hM.lt
  refine FC_of [(0, .pointer (some ⟨Sv, 0, none⟩)), (1, .string s)] Tryz.func30 rfl Tryz.ntmps30 (by simp) rfl (fun R hR => ?_)
  refine V_sr T.mix (by kernel_rfl) (fun K1 hK1 => ?_)
  refine S_allocA T.z82 ?_
  generalize hh : Array.push h _ = hA
  have hRA : B hA h.size #[.int .i64 0, .int .i64 0, .bool false, .slice none 0 0, .string ⟨#[]⟩, .int .i64 0, .int .i64 0] 82 := by rw [← hh]; exact B.new _ _ _
  have hEhA : Ext (fun _ => False) h hA := by rw [← hh]; exact Ext.push _ _ _
  have hshA : hA.size = h.size + 1 := by rw [← hh]; simp
  clear hh
  have hSA := hSv.ext hEhA (fun f => f)
  have hMA := hM.ext hEhA (fun f => f)
  have hk0 : cellH hA ⟨Sv, 0, none⟩ = some (.pointer (some ⟨M, 0, none⟩)) := hSA.cell 0
  refine S_nil (hK1 _ _ (V_keep [0, 1, 4] (by simp only [proj, lk, reduceIte, Nat.reduceEqDiff]; rfl) ?_)); clear hK1
  refine V_sr T.mix (by kernel_rfl) (fun K2 hK2 => ?_)
  refine S_mv rfl ?_
  refine S_nc rfl ?_
  first | refine S_fa0 T.f70_0 rfl ?_ | refine S_fa T.f70_0 rfl ?_
  refine S_ldK T.ag67 rfl (fun K' hK' => ?_)
  simp (disch := omega) only [hk0, oP_some, Nat.add_zero]
  refine hK' _ ?_; clear hK' K'
  refine S_mv rfl ?_
  refine S_call T.hb65 rfl ?_
  refine FC.mono (problem_spec hA M u w hMA s) ?_
  rintro v' h1 ⟨ca, cc, Lp, rfl, hlv1, hL0, hE1, u1, w1, hM1⟩
  have hl1 := hE1.1
  have hS1 := hSA.ext hE1 (fun e => hne e)
  have hR1 := hRA.ext hE1 (fun e => by omega)
  have hEa : Ext (fun z => z = M) h h1 := (hEhA.mono (fun _ f => f.elim)).trans hE1
  have hRok : ∀ j, j < 7 → okPut h1 ⟨h.size, j, none⟩ = true := fun j hj => (hR1).ok (by simpa using hj)
  refine S_mv rfl ?_
  refine S_ex rfl rfl ?_
  refine S_ex rfl rfl ?_
  refine S_ex rfl rfl ?_
  refine S_as rfl ?_
  refine S_as rfl ?_
  refine S_as rfl ?_
  refine S_nil (hK2 _ _ (V_keep [0, 4, 5, 6, 7] (by simp only [proj, lk, reduceIte, Nat.reduceEqDiff]; rfl) ?_)); clear hK2
  refine V_seq (fun K3 hK3 => ?_)
  refine V_sr T.mix (by kernel_rfl) (fun K4 hK4 => ?_)
  refine S_mv rfl ?_
  refine S_bin rfl rfl rfl ?_
  refine S_nil (hK4 _ _ (V_keep [0, 4, 5, 6, 7, 25] (by simp only [proj, lk, reduceIte, Nat.reduceEqDiff]; rfl) ?_)); clear hK4
  refine V_condp rfl (fun c68 => ?_) (fun c68 => ?_)
  · skip
    refine V_sr T.mix (by kernel_rfl) (fun K5 hK5 => ?_)
    refine S_mv rfl ?_
    refine S_mv rfl ?_
    refine S_bld rfl (T.bld82_0_1 _ _) ?_
    refine S_stl T.sz82 rfl rfl rfl rfl (fun j hj => by simp (disch := omega) only [hRok]) ?_
    generalize hh : putsH _ _ _ _ = h21
    have hR9 : B h21 (h.size) #[.int .i64 (prE s : Nat), .int .i64 (prP s : Nat), .bool false, .slice none 0 0, .string ⟨#[]⟩, .int .i64 0, .int .i64 0] 82 := by rw [← hh]; exact B.puts_all (hR1) (cs' := #[.int .i64 (prE s : Nat), .int .i64 (prP s : Nat), .bool false, .slice none 0 0, .string ⟨#[]⟩, .int .i64 0, .int .i64 0]) rfl
    have hEh21 : Ext (fun k => k = h.size) h1 h21 := by rw [← hh]; exact Ext.puts (S := fun k => k = h.size) rfl _ _ _
    clear hh
    refine S_nil (hK5 _ _ (V_keep [4] (by simp only [proj, lk, reduceIte, Nat.reduceEqDiff]; rfl) ?_)); clear hK5
    refine V_ret ?_
    refine hR _ _ (retc1 rfl rfl T.ag82 hR9 (by rfl) ?_)
    exact ⟨_, _, _, _, _, _, _, rfl, .inl (by omega), hEa.step hEh21 (fun z hz e => by omega)⟩
  · skip
    have hz1 : prE s = 0 := by omega
    have hLp := hL0 hz1
    have hpr := prob_rows hz1
    have hLn : ∀ c ∈ Lp, Nrm c := by rw [hLp]; exact hpr.1
    have hLl : Lp.length ≤ 40 := by rw [hLp]; exact hpr.2
    refine V_skipk [0, 4, 5] (by simp only [proj, lk, reduceIte, Nat.reduceEqDiff]; rfl) ?_
    refine hK3 _ _ ?_; clear hK3
    refine V_sr T.mix (by kernel_rfl) (fun K6 hK6 => ?_)
    refine S_mv rfl ?_
    refine S_call T.hb66 rfl ?_
    refine FC.mono (table_spec h1 ca cc hA.size h1.size Lp hlv1 hLn (by omega)) ?_
    rintro v' h' ⟨r, rfl, hr, rfl⟩
    refine S_as rfl ?_
    refine S_nil (hK6 _ _ (V_keep [0, 4, 5, 8] (by simp only [proj, lk, reduceIte, Nat.reduceEqDiff]; rfl) ?_)); clear hK6
    refine V_seq (fun K7 hK7 => ?_)
    refine V_sr T.mix (by kernel_rfl) (fun K8 hK8 => ?_)
    refine S_mv rfl ?_
    refine S_bin rfl rfl rfl ?_
    refine S_nil (hK8 _ _ (V_keep [0, 4, 5, 8, 32] (by simp only [proj, lk, reduceIte, Nat.reduceEqDiff]; rfl) ?_)); clear hK8
    refine V_condp rfl (fun c72 => ?_) (fun c72 => ?_)
    · skip
      have hun : ∀ m, m < 4096 → ¬ sat Lp m := by rcases hr with q | ⟨m0, q, _⟩; (exact q.2); (omega)
      refine V_sr T.mix (by kernel_rfl) (fun K9 hK9 => ?_)
      refine S_mv rfl ?_
      refine S_call T.hb67 rfl ?_
      refine FC.mono (refute_all 0 (by omega) h1 ca cc hA.size h1.size Lp hlv1 hLn (by omega) none 0 [] (IL.nil _) (PreOk.nil _) none 0 [] (OwnR.nil _ _ _ _) (by simp [blkA]) (by decide)) ?_
      rintro v' h2 ⟨f2, g2, rows, rfl, hO2, hE2, hb2, ht⟩
      rw [List.nil_append] at hO2 ⊢
      have hE2b : Ext (fun _ => False) h1 h2 := hE2.mono (fun z e => by simp [blkA] at e)
      have hl2 := hE2.1
      have hS2 := hS1.ext hE2b (fun f => f)
      have hk2 : cellH h2 ⟨Sv, 0, none⟩ = some (.pointer (some ⟨M, 0, none⟩)) := hS2.cell 0
      have hln := ht.len (by simp) (by omega)
      have htb : tb 0 = 204836 := by decide
      refine S_as rfl ?_
      refine S_nil (hK9 _ _ (V_keep [0, 4, 9] (by simp only [proj, lk, reduceIte, Nat.reduceEqDiff]; rfl) ?_)); clear hK9
      refine V_sr T.mix (by kernel_rfl) (fun K10 hK10 => ?_)
      refine S_mv rfl ?_
      refine S_nc rfl ?_
      first | refine S_fa0 T.f70_0 rfl ?_ | refine S_fa T.f70_0 rfl ?_
      refine S_ldK T.ag67 rfl (fun K' hK' => ?_)
      simp (disch := omega) only [hk2, oP_some, Nat.add_zero]
      refine hK' _ ?_; clear hK' K'
      refine S_mv rfl ?_
      refine S_call T.hb68 rfl ?_
      refine FC.mono (mprint_spec h2 M u1 w1 (hM1.ext hE2b (fun f => f)) f2 g2 (flatR rows) (own0 hO2) (by omega) (fun e => by have h9 := OwnR.blk2 hO2 e; omega)) ?_
      rintro v' h3 ⟨rfl, hE3, u3, w3, hM3⟩
      have hl3 := hE3.1
      have hR3 := (hR1.ext hE2b (fun f => f)).ext hE3 (fun e => by omega)
      clear hRok
      have hRok : ∀ j, j < 7 → okPut h3 ⟨h.size, j, none⟩ = true := fun j hj => (hR3).ok (by simpa using hj)
      refine S_mv rfl ?_
      refine S_ex rfl rfl ?_
      refine S_ex rfl rfl ?_
      refine S_as rfl ?_
      refine S_as rfl ?_
      refine S_nil (hK10 _ _ (V_keep [4, 10] (by simp only [proj, lk, reduceIte, Nat.reduceEqDiff]; rfl) ?_)); clear hK10
      refine V_sr T.mix (by kernel_rfl) (fun K11 hK11 => ?_)
      refine S_mv rfl ?_
      refine S_bld rfl (T.bld82_4 _) ?_
      refine S_stl T.sz82 rfl rfl rfl rfl (fun j hj => by simp (disch := omega) only [hRok]) ?_
      generalize hh : putsH _ _ _ _ = h21
      have hR9 : B h21 (h.size) #[.int .i64 0, .int .i64 0, .bool false, .slice none 0 0, .string (printF (flatR rows)).1, .int .i64 0, .int .i64 0] 82 := by rw [← hh]; exact B.puts_all (hR3) (cs' := #[.int .i64 0, .int .i64 0, .bool false, .slice none 0 0, .string (printF (flatR rows)).1, .int .i64 0, .int .i64 0]) rfl
      have hEh21 : Ext (fun k => k = h.size) h3 h21 := by rw [← hh]; exact Ext.puts (S := fun k => k = h.size) rfl _ _ _
      clear hh
      refine S_nil (hK11 _ _ (V_keep [4] (by simp only [proj, lk, reduceIte, Nat.reduceEqDiff]; rfl) ?_)); clear hK11
      refine V_ret ?_
      refine hR _ _ (retc1 rfl rfl T.ag82 hR9 (by rfl) ?_)
      rw [printF_tree (ht.nrm (PreOk.nil _)) (by omega)]
      rw [hLp] at ht hun
      exact ⟨0, 0, _, _, _, _, _, rfl, .inr (.inr ⟨rfl, rfl, hz1, hun, rows, ht, rfl⟩), ((hEa.step hE2b (fun _ _ f => f.elim)).trans hE3).step hEh21 (fun z hz e => by omega)⟩
    · skip
      obtain ⟨m0, rfl, hm1, hm2⟩ : ∃ m0 : Nat, r = m0 ∧ m0 < 4096 ∧ sat Lp m0 := by
        rcases hr with q | q
        · omega
        · exact q
      refine V_skipk [4, 8] (by simp only [proj, lk, reduceIte, Nat.reduceEqDiff]; rfl) ?_
      refine hK7 _ _ ?_; clear hK7
      refine V_sr T.mix (by kernel_rfl) (fun K12 hK12 => ?_)
      refine S_mk T.ei49 rfl rfl (by omega) (by omega) (by omega) (by omega) ?_
      generalize hh : Array.push h1 _ = h2
      have hmA : B h2 h1.size (arr 12 fun _ => .int .i64 0) 3 := by rw [← hh]; exact (B.new _ _ _).cong (by kernel_rfl)
      have hE2 : Ext (fun _ => False) h1 h2 := by rw [← hh]; exact Ext.push _ _ _
      clear hh
      have hl2 := hE2.1
      have hR2 := hR1.ext hE2 (fun f => f)
      refine S_as rfl ?_
      refine S_nil (hK12 _ _ (V_keep [4, 8, 12] (by simp only [proj, lk, reduceIte, Nat.reduceEqDiff]; rfl) ?_)); clear hK12
      refine V_seq (fun K13 hK13 => ?_)
      refine V_sr T.mix (by kernel_rfl) (fun K14 hK14 => ?_)
      refine S_as rfl ?_
      refine S_nil (hK14 _ _ (V_keep [4, 8, 12, 13] (by simp only [proj, lk, reduceIte, Nat.reduceEqDiff]; rfl) ?_)); clear hK14
      refine V_block ?_
      refine V_loop (fun m l h' => ∃ (k : Nat) (hk : Heap) (gv : Nat → Value), (1 ≤ k) ∧ (k ≤ 13) ∧ (B hk h1.size (arr 12 gv) 3) ∧ (Ext (fun z => z = h1.size) h2 hk) ∧ m = 13 - k ∧ l = [(4, .pointer (some ⟨h.size, 0, none⟩)), (8, .int .i64 (m0 : Int)), (12, .slice (some ⟨h1.size, 0, none⟩) 12 12), (13, .int .i64 (k : Int))] ∧ hk = h') _ ⟨1, h2, fun _ => .int .i64 0, by omega, by omega, hmA, Ext.refl _ _, rfl, rfl, rfl⟩ ?_
      rintro m l h' ⟨k, hk, gv, hk1, hk2, hmB, hEk, rfl, rfl, rfl⟩ K15 hK15
      have hkl := hEk.1
      have hRk := hR2.ext hEk (fun e => by omega)
      try clear hRok
      have hRok : ∀ j, j < 7 → okPut hk ⟨h.size, j, none⟩ = true := fun j hj => (hRk).ok (by simpa using hj)
      refine V_seq (fun K16 hK16 => ?_)
      refine V_sr T.mix (by kernel_rfl) (fun K17 hK17 => ?_)
      refine S_mv rfl ?_
      refine S_bin rfl rfl rfl ?_
      refine S_nil (hK17 _ _ (V_keep [4, 8, 12, 13, 48] (by simp only [proj, lk, reduceIte, Nat.reduceEqDiff]; rfl) ?_)); clear hK17
      refine V_condp rfl (fun c78 => ?_) (fun c78 => ?_)
      · skip
        refine V_skipk [4, 8, 12, 13] (by simp only [proj, lk, reduceIte, Nat.reduceEqDiff]; rfl) ?_
        refine hK16 _ _ ?_; clear hK16
        refine V_seq (fun K18 hK18 => ?_)
        refine V_block ?_
        refine V_sr T.mix (by kernel_rfl) (fun K19 hK19 => ?_)
        refine S_mv rfl ?_
        refine S_mv rfl ?_
        refine S_subN (k - 1) rfl rfl (by omega) (by omega) ?_
        refine S_mv rfl ?_
        first | refine S_neg rfl (by omega) (by omega) ?_ | refine S_un rfl rfl ?_
        first | refine S_ixn T.el49 rfl rfl (by omega) ?_ | refine S_ix1 T.el49 rfl rfl (by omega) (by omega) ?_ | refine S_ix T.el49 rfl rfl (by omega) (by omega) ?_
        refine S_st T.sz3 rfl rfl rfl rfl (by simp (disch := omega) only [B.okA hmB]) ?_
        generalize hh : putH _ _ _ = h4
        have hmC : B h4 h1.size (arr 12 fun j => if j = k - 1 then .int .i64 (-(k : Int)) else gv j) 3 := by rw [← hh]; exact hmB.putA _ _
        have hE4 : Ext (fun z => z = h1.size) hk h4 := by rw [← hh]; exact Ext.put _ _ rfl
        clear hh
        refine S_nil (hK19 _ _ (V_keep [4, 8, 12, 13] (by simp only [proj, lk, reduceIte, Nat.reduceEqDiff]; rfl) ?_)); clear hK19
        refine V_sr T.mix (by kernel_rfl) (fun K20 hK20 => ?_)
        refine S_mv rfl ?_
        refine S_mv rfl ?_
        refine S_call T.hb69 rfl ?_
        refine FC.mono (true_spec h4 (k : Int) (by unfold gd; omega) m0 hm1) ?_
        rintro v' h' ⟨g, rfl, hg, rfl⟩
        refine S_nil (hK20 _ _ (V_keep [4, 8, 12, 13, 59] (by simp only [proj, lk, reduceIte, Nat.reduceEqDiff]; rfl) ?_)); clear hK20
        refine V_condb rfl (fun c80 => ?_) (fun c80 => ?_)
        · skip
          refine V_reg T.mix (by kernel_rfl) ?_
          refine S_mv rfl ?_
          refine S_mv rfl ?_
          refine S_subN (k - 1) rfl rfl (by omega) (by omega) ?_
          refine S_mv rfl ?_
          first | refine S_ixn T.el49 rfl rfl (by omega) ?_ | refine S_ix1 T.el49 rfl rfl (by omega) (by omega) ?_ | refine S_ix T.el49 rfl rfl (by omega) (by omega) ?_
          refine S_st T.sz3 rfl rfl rfl rfl (by simp (disch := omega) only [B.okA hmC]) ?_
          generalize hh : putH _ _ _ = h5
          have hmD : B h5 h1.size (arr 12 fun j => if j = k - 1 then .int .i64 (k : Int) else (if j = k - 1 then .int .i64 (-(k : Int)) else gv j)) 3 := by rw [← hh]; exact hmC.putA _ _
          have hE5 : Ext (fun z => z = h1.size) h4 h5 := by rw [← hh]; exact Ext.put _ _ rfl
          clear hh
          refine S_nilk [4, 8, 12, 13] (by simp only [proj, lk, reduceIte, Nat.reduceEqDiff]; rfl) ?_
          refine hK18 _ _ ?_; clear hK18
          refine V_reg T.mix (by kernel_rfl) ?_
          refine S_mv rfl ?_
          first | refine S_add rfl rfl (by omega) (by omega) ?_ | refine S_bin rfl rfl rfl ?_
          refine S_as rfl ?_
          refine S_nilk [4, 8, 12, 13] (by simp only [proj, lk, reduceIte, Nat.reduceEqDiff]; rfl) ?_
          exact hK15 _ _ ⟨_, by omega, k + 1, h5, _, by omega, by omega, hmD, (hEk.trans hE4).trans hE5, rfl, rfl, rfl⟩
        · skip
          refine V_skipk [4, 8, 12, 13] (by simp only [proj, lk, reduceIte, Nat.reduceEqDiff]; rfl) ?_
          refine hK18 _ _ ?_; clear hK18
          refine V_reg T.mix (by kernel_rfl) ?_
          refine S_mv rfl ?_
          first | refine S_add rfl rfl (by omega) (by omega) ?_ | refine S_bin rfl rfl rfl ?_
          refine S_as rfl ?_
          refine S_nilk [4, 8, 12, 13] (by simp only [proj, lk, reduceIte, Nat.reduceEqDiff]; rfl) ?_
          exact hK15 _ _ ⟨_, by omega, k + 1, h4, _, by omega, by omega, hmC, hEk.trans hE4, rfl, rfl, rfl⟩
      · skip
        refine V_exitk [4, 12] rfl (by simp only [proj, lk, reduceIte, Nat.reduceEqDiff]; rfl) ?_
        refine hK13 _ _ ?_; clear hK13
        refine V_sr T.mix (by kernel_rfl) (fun K21 hK21 => ?_)
        refine S_mv rfl ?_
        refine S_bld rfl (T.bld82_2_3 _ _ _ _) ?_
        refine S_stl T.sz82 rfl rfl rfl rfl (fun j hj => by simp (disch := omega) only [hRok]) ?_
        generalize hh : putsH _ _ _ _ = h21
        have hR9 : B h21 (h.size) #[.int .i64 0, .int .i64 0, .bool true, .slice (some ⟨h1.size, 0, none⟩) 12 12, .string ⟨#[]⟩, .int .i64 0, .int .i64 0] 82 := by rw [← hh]; exact B.puts_all (hRk) (cs' := #[.int .i64 0, .int .i64 0, .bool true, .slice (some ⟨h1.size, 0, none⟩) 12 12, .string ⟨#[]⟩, .int .i64 0, .int .i64 0]) rfl
        have hEh21 : Ext (fun k => k = h.size) hk h21 := by rw [← hh]; exact Ext.puts (S := fun k => k = h.size) rfl _ _ _
        clear hh
        refine S_nil (hK21 _ _ (V_keep [4] (by simp only [proj, lk, reduceIte, Nat.reduceEqDiff]; rfl) ?_)); clear hK21
        refine V_ret ?_
        refine hR _ _ (retc1 rfl rfl T.ag82 hR9 (by rfl) ?_)
        exact ⟨0, 0, _, _, _, _, _, rfl, .inr (.inl ⟨rfl, rfl⟩), ((hEa.step hE2 (fun _ _ f => f.elim)).step hEk (fun z hz e => by omega)).step hEh21 (fun z hz e => by omega)⟩
end Go.Proofs.Qxb6500401aGreat.ChkW
