import Derived.Test.Qxb6500401aGreatCm
set_option linter.unusedVariables false
set_option linter.unusedSimpArgs false
namespace Go.Proofs.Qxb6500401aGreat.ChkW
open Go.Eng Go.Cnf Go.Chk

theorem turn_ok {S S' : Sto} {r : Rw} (h : Turn S r 0 S') (rs : List Rw) (n : Nat) : fol (r :: rs) S n = fol rs S' (n + 1) := by
  rcases h with h | h
  · exact h.2 rs n
  · exact absurd h.1 (by omega)
theorem turn_bad {S S' : Sto} {r : Rw} {e : Nat} (h : Turn S r e S') (he : e ≠ 0) (rs : List Rw) (n : Nat) : fol (r :: rs) S n = (e, n) := by
  rcases h with h | h
  · exact absurd h.1 he
  · exact h.2 rs n
theorem pr_ok {s : ByteArray} (h : prE s = 0) : (parseF s).1 = 0 ∧ fitF (rowsOf (parseF s).2.2) = 0 := by
  unfold prE at h; split at h
  · rename_i e; exact absurd h e
  · rename_i e; exact ⟨by omega, h⟩
theorem chk1 {s t : ByteArray} (h : prE s ≠ 0) : chkF s t = (prE s, 0, prP s) := by
  unfold chkF prP; unfold prE at h ⊢
  split
  · rfl
  · rename_i e; rw [if_neg e] at h; rw [if_pos h]
theorem chk2 {s t : ByteArray} (h : prE s = 0) (h2 : (parseF t).1 ≠ 0) : chkF s t = ((parseF t).1, 1, (parseF t).2.1) := by
  have := pr_ok h
  unfold chkF; rw [if_neg (by omega), if_neg (by omega), if_pos h2]
theorem chk3 {s t : ByteArray} {e p : Nat} (h : prE s = 0) (h2 : (parseF t).1 = 0) (h3 : fol (rowsOf (parseF t).2.2) ((rowsOf (parseF s).2.2).map (·.2)) 0 = (e, p)) : chkF s t = (e, if e = 0 then 0 else 2, p) := by
  have := pr_ok h
  unfold chkF; rw [if_neg (by omega), if_neg (by omega), if_neg (by omega), h3]
theorem rdrop {rows : List Rw} {i : Nat} (h : i < rows.length) : rows.drop i = rows.getD i (false, []) :: rows.drop (i + 1) := by
  rw [List.drop_eq_getElem_cons h]; simp [h]
set_option maxHeartbeats 3200000 in
theorem mcheck_spec (h : Heap) (KC M : Nat) (km : KM h KC M) (s t : ByteArray) :
    FC Tryz.prog 44 (#[.pointer (some ⟨KC, 0, none⟩), .string s, .string t] : Array Value) h fun rv h' => rv = .agg #[.int .i64 ((chkF s t).1), .int .i64 ((chkF s t).2.1), .int .i64 ((chkF s t).2.2)] ∧ Ext (fun z => z = M) h h' ∧ KM h' KC M := by
  have hps := parse_len s
  have hpt := parse_len t
  have hrl := rowsOf_len (parseF t).2.2
  obtain ⟨hKb, ⟨u, w, hM⟩, hne⟩ := km
  have hKl := hKb.lt
  have hMl := hM.lt
  refine FC_of [(0, .pointer (some ⟨KC, 0, none⟩)), (1, .string s), (2, .string t)] Tryz.func44 rfl Tryz.ntmps44 (by simp) rfl (fun R hR => ?_)
  refine V_sr T.mix (by kernel_rfl) (fun K1 hK1 => ?_)
  refine S_allocA T.z97 ?_
  generalize hh : Array.push h _ = hA
  have hRA : B hA h.size #[.int .i64 0, .int .i64 0, .int .i64 0] 97 := by rw [← hh]; exact B.new _ _ _
  have hEhA : Ext (fun _ => False) h hA := by rw [← hh]; exact Ext.push _ _ _
  have hshA : hA.size = h.size + 1 := by rw [← hh]; simp
  clear hh
  have hKA := hKb.ext hEhA (fun f => f)
  have hMA := hM.ext hEhA (fun f => f)
  have hk0 : cellH hA ⟨KC, 0, none⟩ = some (.pointer (some ⟨M, 0, none⟩)) := hKA.cell 0
  refine S_nil (hK1 _ _ (V_keep [0, 1, 2, 6] (by simp only [proj, lk, reduceIte, Nat.reduceEqDiff]; rfl) ?_)); clear hK1
  refine V_sr T.mix (by kernel_rfl) (fun K2 hK2 => ?_)
  refine S_mv rfl ?_
  refine S_nc rfl ?_
  first | refine S_fa0 T.f111_0 rfl ?_ | refine S_fa T.f111_0 rfl ?_
  refine S_ldK T.ag67 rfl (fun K' hK' => ?_)
  simp (disch := omega) only [hk0, oP_some, Nat.add_zero]
  refine hK' _ ?_; clear hK' K'
  refine S_mv rfl ?_
  refine S_call T.hb65 rfl ?_
  refine FC.mono (problem_spec hA M u w hMA s) ?_
  rintro v' h1 ⟨ca, cc, Lp, rfl, hlv1, hL0, hE1, u1, w1, hM1⟩
  have hl1 := hE1.1
  have hK1 := hKA.ext hE1 (fun e => hne e)
  have hk1 : cellH h1 ⟨KC, 0, none⟩ = some (.pointer (some ⟨M, 0, none⟩)) := hK1.cell 0
  have hR1 := hRA.ext hE1 (fun e => by omega)
  have hEa : Ext (fun z => z = M) h h1 := (hEhA.mono (fun _ f => f.elim)).trans hE1
  have hRok : ∀ j, j < 3 → okPut h1 ⟨h.size, j, none⟩ = true := fun j hj => (hR1).ok (by simpa using hj)
  refine S_mv rfl ?_
  refine S_ex rfl rfl ?_
  refine S_ex rfl rfl ?_
  refine S_ex rfl rfl ?_
  refine S_as rfl ?_
  refine S_as rfl ?_
  refine S_as rfl ?_
  refine S_nil (hK2 _ _ (V_keep [0, 2, 6, 7, 8, 9] (by simp only [proj, lk, reduceIte, Nat.reduceEqDiff]; rfl) ?_)); clear hK2
  refine V_seq (fun K3 hK3 => ?_)
  refine V_sr T.mix (by kernel_rfl) (fun K4 hK4 => ?_)
  refine S_mv rfl ?_
  refine S_bin rfl rfl rfl ?_
  refine S_nil (hK4 _ _ (V_keep [0, 2, 6, 7, 8, 9, 30] (by simp only [proj, lk, reduceIte, Nat.reduceEqDiff]; rfl) ?_)); clear hK4
  refine V_condp rfl (fun c17 => ?_) (fun c17 => ?_)
  · skip
    refine V_sr T.mix (by kernel_rfl) (fun K5 hK5 => ?_)
    refine S_mv rfl ?_
    refine S_mv rfl ?_
    refine S_bld rfl (T.bld97_0_1_2 _ _ _) ?_
    refine S_stl T.sz97 rfl rfl rfl rfl (fun j hj => by simp (disch := omega) only [hRok]) ?_
    generalize hh : putsH _ _ _ _ = h21
    have hR9 : B h21 (h.size) #[.int .i64 (prE s), .int .i64 (0), .int .i64 (prP s)] 97 := by rw [← hh]; exact B.puts_all (hR1) (cs' := #[.int .i64 (prE s), .int .i64 (0), .int .i64 (prP s)]) rfl
    have hEh21 : Ext (fun k => k = h.size) h1 h21 := by rw [← hh]; exact Ext.puts (S := fun k => k = h.size) rfl _ _ _
    clear hh
    refine S_nil (hK5 _ _ (V_keep [6] (by simp only [proj, lk, reduceIte, Nat.reduceEqDiff]; rfl) ?_)); clear hK5
    refine V_ret ?_
    refine hR _ _ (retc1 rfl rfl T.ag97 hR9 (by rfl) ?_)
    refine ⟨?_, hEa.step hEh21 (fun z hz e => by omega), (KM.mk hK1 ⟨u1, w1, hM1⟩ hne).ext hEh21 (fun e => by omega) (fun e => by omega)⟩
    rw [chk1 (by omega)]
    rfl
  · skip
    have hz1 : prE s = 0 := by omega
    have hz0 := pr_ok hz1
    have hok1 := rowsOf_ok (parseF_ok hz0.1).2
    have hLp := hL0 hz1
    have hfit := fit_ok hz0.2
    have hLn : ∀ c ∈ Lp, Nrm c := by rw [hLp]; exact nrm_rows hok1.2
    have hLl : Lp.length ≤ 64 := by rw [hLp]; simp; omega
    refine V_skipk [0, 2, 6, 7] (by simp only [proj, lk, reduceIte, Nat.reduceEqDiff]; rfl) ?_
    refine hK3 _ _ ?_; clear hK3
    refine V_sr T.mix (by kernel_rfl) (fun K6 hK6 => ?_)
    refine S_mv rfl ?_
    refine S_nc rfl ?_
    first | refine S_fa0 T.f111_0 rfl ?_ | refine S_fa T.f111_0 rfl ?_
    refine S_ldK T.ag67 rfl (fun K' hK' => ?_)
    simp (disch := omega) only [hk1, oP_some, Nat.add_zero]
    refine hK' _ ?_; clear hK' K'
    refine S_mv rfl ?_
    refine S_call T.hb80 rfl ?_
    refine FC.mono (mparse_spec h1 M u1 w1 hM1 t) ?_
    rintro v' h2 ⟨cs2, rfl, ⟨fa, hfb, rfl, hfl, hfn⟩, hE2, u2, w2, hM2⟩
    have hl2 := hE2.1
    refine S_allocA T.z115 ?_
    generalize hh : Array.push h2 _ = h3
    have hp3 : B h3 h2.size #[.int .i64 0, .int .i64 0, .slice none 0 0] 115 := by rw [← hh]; exact B.new _ _ _
    have hEh3 : Ext (fun _ => False) h2 h3 := by rw [← hh]; exact Ext.push _ _ _
    have hsh3 : h3.size = h2.size + 1 := by rw [← hh]; simp
    clear hh
    try clear a0 a1 a2 haok
    obtain ⟨a0, a1, a2, haok⟩ := aq (hp3)
    refine S_stl T.sz115 rfl rfl rfl rfl (fun j hj => by simp (disch := omega) only [haok]) ?_
    generalize hh : putsH _ _ _ _ = h4
    have hp4 : B h4 (h2.size) #[.int .i64 (parseF t).1, .int .i64 (parseF t).2.1, .slice fa (parseF t).2.2.length (parseF t).2.2.length] 115 := by rw [← hh]; exact B.puts_all (hp3) (cs' := #[.int .i64 (parseF t).1, .int .i64 (parseF t).2.1, .slice fa (parseF t).2.2.length (parseF t).2.2.length]) rfl
    have hEh4 : Ext (fun k => k = h2.size) h3 h4 := by rw [← hh]; exact Ext.puts (S := fun k => k = h2.size) rfl _ _ _
    clear hh
    try clear a0 a1 a2 haok
    obtain ⟨a0, a1, a2, haok⟩ := aq (hp4)
    have hl3 := hEh3.1
    have hl4 := hEh4.1
    have hfl4 := (hfl.ext hEh3 (fun _ _ f => f)).ext hEh4 (fun z e w => by have h9 := hfl.lt e; omega)
    have hR4 := ((hR1.ext hE2 (fun e => by omega)).ext hEh3 (fun f => f)).ext hEh4 (fun e => by omega)
    have hK4 := ((hK1.ext hE2 (fun e => hne e)).ext hEh3 (fun f => f)).ext hEh4 (fun e => by omega)
    have hM4 := (hM2.ext hEh3 (fun f => f)).ext hEh4 (fun e => by omega)
    have hEb : Ext (fun z => z = M) h h4 := ((hEa.trans hE2).step hEh3 (fun _ _ f => f.elim)).step hEh4 (fun z hz e => by omega)
    clear hRok
    have hRok : ∀ j, j < 3 → okPut h4 ⟨h.size, j, none⟩ = true := fun j hj => (hR4).ok (by simpa using hj)
    refine S_nil (hK6 _ _ (V_keep [6, 7, 10] (by simp only [proj, lk, reduceIte, Nat.reduceEqDiff]; rfl) ?_)); clear hK6
    refine V_seq (fun K7 hK7 => ?_)
    refine V_sr T.mix (by kernel_rfl) (fun K8 hK8 => ?_)
    first | refine S_fa0 T.f115_0 rfl ?_ | refine S_fa T.f115_0 rfl ?_
    refine S_ldK T.ag54 rfl (fun K' hK' => ?_)
    simp (disch := omega) only [a0, a1, a2, oP_some, Nat.add_zero]
    refine hK' _ ?_; clear hK' K'
    refine S_bin rfl rfl rfl ?_
    refine S_nil (hK8 _ _ (V_keep [6, 7, 10, 42] (by simp only [proj, lk, reduceIte, Nat.reduceEqDiff]; rfl) ?_)); clear hK8
    refine V_condp rfl (fun c21 => ?_) (fun c21 => ?_)
    · skip
      refine V_sr T.mix (by kernel_rfl) (fun K9 hK9 => ?_)
      first | refine S_fa0 T.f115_0 rfl ?_ | refine S_fa T.f115_0 rfl ?_
      refine S_ldK T.ag54 rfl (fun K' hK' => ?_)
      simp (disch := omega) only [a0, a1, a2, oP_some, Nat.add_zero]
      refine hK' _ ?_; clear hK' K'
      first | refine S_fa0 T.f115_1 rfl ?_ | refine S_fa T.f115_1 rfl ?_
      refine S_ldK T.ag3 rfl (fun K' hK' => ?_)
      simp (disch := omega) only [a0, a1, a2, oP_some, Nat.add_zero]
      refine hK' _ ?_; clear hK' K'
      refine S_bld rfl (T.bld97_0_1_2 _ _ _) ?_
      refine S_stl T.sz97 rfl rfl rfl rfl (fun j hj => by simp (disch := omega) only [hRok]) ?_
      generalize hh : putsH _ _ _ _ = h21
      have hR9 : B h21 (h.size) #[.int .i64 ((parseF t).1), .int .i64 (1), .int .i64 ((parseF t).2.1)] 97 := by rw [← hh]; exact B.puts_all (hR4) (cs' := #[.int .i64 ((parseF t).1), .int .i64 (1), .int .i64 ((parseF t).2.1)]) rfl
      have hEh21 : Ext (fun k => k = h.size) h4 h21 := by rw [← hh]; exact Ext.puts (S := fun k => k = h.size) rfl _ _ _
      clear hh
      refine S_nil (hK9 _ _ (V_keep [6] (by simp only [proj, lk, reduceIte, Nat.reduceEqDiff]; rfl) ?_)); clear hK9
      refine V_ret ?_
      refine hR _ _ (retc1 rfl rfl T.ag97 hR9 (by rfl) ?_)
      refine ⟨?_, hEb.step hEh21 (fun z hz e => by omega), (KM.mk hK4 ⟨u2, w2, hM4⟩ hne).ext hEh21 (fun e => by omega) (fun e => by omega)⟩
      rw [chk2 hz1 (by omega)]
      rfl
    · skip
      have hz3 : (parseF t).1 = 0 := by omega
      have hok2 := rowsOf_ok (parseF_ok hz3).2
      refine V_skipk [6, 7, 10] (by simp only [proj, lk, reduceIte, Nat.reduceEqDiff]; rfl) ?_
      refine hK7 _ _ ?_; clear hK7
      refine V_sr T.mix (by kernel_rfl) (fun K10 hK10 => ?_)
      first | refine S_fa0 T.f115_2 rfl ?_ | refine S_fa T.f115_2 rfl ?_
      refine S_ldK T.ag49 rfl (fun K' hK' => ?_)
      simp (disch := omega) only [a0, a1, a2, oP_some, Nat.add_zero]
      refine hK' _ ?_; clear hK' K'
      refine S_call T.hb77 rfl ?_
      refine FC.mono (rows_spec h4 fa _ (parseF t).2.2 hfl4 (by omega)) ?_
      rintro v' h5 ⟨oa, oc, rfl, hrv, hE5⟩
      have hl5 := hE5.1
      have hR5 := hR4.ext hE5 (fun f => f)
      have hlv5 := ((((hlv1.ext hE2 (fun z h1 h2 x => by omega)).ext hEh3 (fun _ _ _ f => f)).ext hEh4 (fun z h1 h2 x => by omega)).ext hE5 (fun _ _ _ f => f)).wid (Nat.le_refl _) (show h1.size ≤ h5.size by omega) (Nat.le_refl _)
      have hEc : Ext (fun z => z = M) h h5 := hEb.step hE5 (fun _ _ f => f.elim)
      have km5 : KM h5 KC M := ⟨hK4.ext hE5 (fun f => f), ⟨u2, w2, hM4.ext hE5 (fun f => f)⟩, hne⟩
      refine S_as rfl ?_
      refine S_nil (hK10 _ _ (V_keep [6, 7, 11] (by simp only [proj, lk, reduceIte, Nat.reduceEqDiff]; rfl) ?_)); clear hK10
      refine V_seq (fun K11 hK11 => ?_)
      refine V_sr T.mix (by kernel_rfl) (fun K12 hK12 => ?_)
      refine S_as rfl ?_
      refine S_nil (hK12 _ _ (V_keep [6, 7, 11, 12] (by simp only [proj, lk, reduceIte, Nat.reduceEqDiff]; rfl) ?_)); clear hK12
      refine V_block ?_
      refine V_loop (fun m l h' => ∃ (i : Nat) (hk : Heap) (S : List (List Int)) (sa : Option Addr) (sc : Nat), (i ≤ (rowsOf (parseF t).2.2).length) ∧ ((fol (rowsOf (parseF t).2.2) Lp 0) = fol ((rowsOf (parseF t).2.2).drop i) S i) ∧ (LV hA.size hk.size hk sa sc S) ∧ (∀ z, blkA sa = some z → z < h4.size ∨ h5.size ≤ z) ∧ (∀ c ∈ S, Nrm c) ∧ (S.length ≤ 64) ∧ (Ext (fun z => hA.size ≤ z ∧ z < h4.size) h5 hk) ∧ m = (rowsOf (parseF t).2.2).length - i ∧ l = [(6, .pointer (some ⟨h.size, 0, none⟩)), (7, .slice sa S.length sc), (11, .slice oa (rowsOf (parseF t).2.2).length oc), (12, .int .i64 (i : Int))] ∧ hk = h') _ ⟨0, h5, Lp, ca, cc, by omega, by simp, hlv5, fun z e => .inl (by obtain ⟨_, _, h9, _⟩ := hlv1; have h8 := h9 z e; omega), hLn, hLl, Ext.refl _ _, rfl, rfl, rfl⟩ ?_
      rintro m l h' ⟨i, hk, S, sa, sc, hi, hfo, hsv, hso, hSn, hSl, hEk, rfl, rfl, rfl⟩ K13 hK13
      have hkl := hEk.1
      have hRk := hR5.ext hEk (fun e => by omega)
      try clear hRok
      have hRok : ∀ j, j < 3 → okPut hk ⟨h.size, j, none⟩ = true := fun j hj => (hRk).ok (by simpa using hj)
      have hEd : Ext (fun z => z = M) h hk := hEc.step hEk (fun z hz e => by omega)
      have kmk := km5.ext hEk (fun e => by omega) (fun e => by omega)
      refine V_seq (fun K14 hK14 => ?_)
      refine V_sr T.mix (by kernel_rfl) (fun K15 hK15 => ?_)
      refine S_mv rfl ?_
      refine S_mv rfl ?_
      refine S_lenl T.el132 rfl ?_
      refine S_bin rfl rfl rfl ?_
      refine S_nil (hK15 _ _ (V_keep [6, 7, 11, 12, 54] (by simp only [proj, lk, reduceIte, Nat.reduceEqDiff]; rfl) ?_)); clear hK15
      refine V_condp rfl (fun c25 => ?_) (fun c25 => ?_)
      · skip
        obtain ⟨rb, rfl, hrb1, hrb2, hrg⟩ := (hrv.ext hEk (fun z h1 h2 x => by omega)).get (by omega)
        obtain ⟨hrc, ai, ci, hlc, hIc, hbi⟩ := hrg i (by omega)
        have hrn := hok2.2 _ (rmem (show i < (rowsOf (parseF t).2.2).length by omega))
        refine V_skipk [6, 7, 11, 12] (by simp only [proj, lk, reduceIte, Nat.reduceEqDiff]; rfl) ?_
        refine hK14 _ _ ?_; clear hK14
        refine V_seq (fun K16 hK16 => ?_)
        refine V_block ?_
        refine V_sr T.mix (by kernel_rfl) (fun K17 hK17 => ?_)
        refine S_mv rfl ?_
        refine S_mv rfl ?_
        first | refine S_ixmn T.el132 rfl rfl (by omega) ?_ | refine S_ixm T.el132 rfl rfl (by omega) (by omega) ?_ | refine S_ix T.el132 rfl rfl (by omega) (by omega) ?_
        first | refine S_fa0 T.f135_1 rfl ?_ | refine S_fa T.f135_1 rfl ?_
        refine S_ldK T.ag49 rfl (fun K' hK' => ?_)
        simp (disch := omega) only [hlc, oP_some, Nat.add_zero]
        refine hK' _ ?_; clear hK' K'
        refine S_as rfl ?_
        refine S_nil (hK17 _ _ (V_keep [6, 7, 11, 12, 13] (by simp only [proj, lk, reduceIte, Nat.reduceEqDiff]; rfl) ?_)); clear hK17
        refine V_sr T.mix (by kernel_rfl) (fun K18 hK18 => ?_)
        refine S_mv rfl ?_
        refine S_mv rfl ?_
        first | refine S_ixmn T.el132 rfl rfl (by omega) ?_ | refine S_ixm T.el132 rfl rfl (by omega) (by omega) ?_ | refine S_ix T.el132 rfl rfl (by omega) (by omega) ?_
        first | refine S_fa0 T.f135_0 rfl ?_ | refine S_fa T.f135_0 rfl ?_
        refine S_ldK T.ag4 rfl (fun K' hK' => ?_)
        simp (disch := omega) only [hrc, oP_some, Nat.add_zero]
        refine hK' _ ?_; clear hK' K'
        refine S_nil (hK18 _ _ (V_keep [6, 7, 11, 12, 13, 66] (by simp only [proj, lk, reduceIte, Nat.reduceEqDiff]; rfl) ?_)); clear hK18
        refine V_condb rfl (fun c27 => ?_) (fun c27 => ?_)
        · skip
          refine V_sr T.mix (by kernel_rfl) (fun K19 hK19 => ?_)
          refine S_as rfl ?_
          refine S_nil (hK19 _ _ (V_keep [6, 7, 11, 12, 13, 14] (by simp only [proj, lk, reduceIte, Nat.reduceEqDiff]; rfl) ?_)); clear hK19
          refine V_seq (fun K20 hK20 => ?_)
          refine V_sr T.mix (by kernel_rfl) (fun K21 hK21 => ?_)
          refine S_as rfl ?_
          refine S_nil (hK21 _ _ (V_keep [6, 7, 11, 12, 13, 14, 15] (by simp only [proj, lk, reduceIte, Nat.reduceEqDiff]; rfl) ?_)); clear hK21
          refine V_block ?_
          refine V_loop (fun m l h' => ∃ (j : Nat) (at_ : Int), (j ≤ S.length) ∧ ((at_ = -1 ∧ ∀ q, q < j → S.getD q [] ≠ ((rowsOf (parseF t).2.2).getD i (false, [])).2) ∨ ∃ n : Nat, at_ = n ∧ n < S.length ∧ S.getD n [] = ((rowsOf (parseF t).2.2).getD i (false, [])).2) ∧ m = S.length - j ∧ l = [(6, .pointer (some ⟨h.size, 0, none⟩)), (7, .slice sa S.length sc), (11, .slice (some ⟨rb, 0, none⟩) (rowsOf (parseF t).2.2).length oc), (12, .int .i64 (i : Int)), (13, .slice ai ((rowsOf (parseF t).2.2).getD i (false, [])).2.length ci), (14, .int .i64 at_), (15, .int .i64 (j : Int))] ∧ hk = h') _ ⟨0, -1, by omega, .inl ⟨rfl, fun q hq => by omega⟩, rfl, rfl, rfl⟩ ?_
          rintro m l h' ⟨j, at_, hj, hat, rfl, rfl, rfl⟩ K22 hK22
          refine V_seq (fun K23 hK23 => ?_)
          refine V_sr T.mix (by kernel_rfl) (fun K24 hK24 => ?_)
          refine S_cut (K' := fun l h' => ∃ b : Bool, (b = true ↔ (j < S.length ∧ at_ < 0)) ∧ l = [(6, .pointer (some ⟨h.size, 0, none⟩)), (7, .slice sa S.length sc), (11, .slice (some ⟨rb, 0, none⟩) (rowsOf (parseF t).2.2).length oc), (12, .int .i64 (i : Int)), (13, .slice ai ((rowsOf (parseF t).2.2).getD i (false, [])).2.length ci), (14, .int .i64 at_), (15, .int .i64 (j : Int)), (74, .bool b)] ∧ hk = h') ?_ ?_
          · skip
            refine S_mv rfl ?_
            refine S_mv rfl ?_
            refine S_lenl T.el38 rfl ?_
            refine S_bin rfl rfl rfl ?_
            refine S_mv rfl ?_
            refine S_dec (fun g29 => ?_) (fun g29 => ?_)
            · skip
              refine S_gt rfl ?_
              refine S_mv rfl ?_
              refine S_gt rfl ?_
              refine S_bin rfl rfl rfl ?_
              refine S_pt rfl rfl ?_
              exact S_nilk [6, 7, 11, 12, 13, 14, 15, 74] (by simp only [proj, lk, reduceIte, Nat.reduceEqDiff]; rfl) ⟨_, (by first | (simp [*]; done) | (simp; omega)), rfl, rfl⟩
            · skip
              refine S_gf rfl ?_
              refine S_gf rfl ?_
              refine S_pf rfl rfl ?_
              exact S_nilk [6, 7, 11, 12, 13, 14, 15, 74] (by simp only [proj, lk, reduceIte, Nat.reduceEqDiff]; rfl) ⟨_, (by first | (simp [*]; done) | (simp; omega)), rfl, rfl⟩
          rintro l h' ⟨b, hb29, rfl, rfl⟩
          refine hK24 _ _ ?_; clear hK24
          refine V_condb rfl (fun c29 => ?_) (fun c29 => ?_)
          · replace c29 := hb29.1 c29
            obtain ⟨sb, rfl, hsb1, hsb2, hsg⟩ := hsv.get (by omega)
            obtain ⟨a8, c8, hcell, hIs, hbi2⟩ := hsg j (by omega)
            refine V_skipk [6, 7, 11, 12, 13, 14, 15] (by simp only [proj, lk, reduceIte, Nat.reduceEqDiff]; rfl) ?_
            refine hK23 _ _ ?_; clear hK23
            refine V_seq (fun K26 hK26 => ?_)
            refine V_block ?_
            refine V_sr T.mix (by kernel_rfl) (fun K27 hK27 => ?_)
            refine S_mv rfl ?_
            refine S_mv rfl ?_
            first | refine S_ixn T.el38 rfl rfl (by omega) ?_ | refine S_ix1 T.el38 rfl rfl (by omega) (by omega) ?_ | refine S_ix T.el38 rfl rfl (by omega) (by omega) ?_
            refine S_ldK T.ag49 rfl (fun K' hK' => ?_)
            simp (disch := omega) only [hcell, oP_some, Nat.add_zero]
            refine hK' _ ?_; clear hK' K'
            refine S_mv rfl ?_
            refine S_call T.hb36 rfl ?_
            refine FC.mono (sameints_spec hk a8 ai c8 ci (S.getD j []) ((rowsOf (parseF t).2.2).getD i (false, [])).2 hIs hIc (by have h9 := (hSn _ (getD_mem (show j < S.length by omega))).len; omega) (by have h9 := hrn.len; omega)) ?_
            rintro v' h' ⟨rfl, rfl⟩
            refine S_nil (hK27 _ _ (V_keep [6, 7, 11, 12, 13, 14, 15, 82] (by simp only [proj, lk, reduceIte, Nat.reduceEqDiff]; rfl) ?_)); clear hK27
            refine V_condb rfl (fun c30 => ?_) (fun c30 => ?_)
            · skip
              refine V_reg T.mix (by kernel_rfl) ?_
              refine S_mv rfl ?_
              refine S_as rfl ?_
              refine S_nilk [6, 7, 11, 12, 13, 14, 15] (by simp only [proj, lk, reduceIte, Nat.reduceEqDiff]; rfl) ?_
              refine hK26 _ _ ?_; clear hK26
              refine V_reg T.mix (by kernel_rfl) ?_
              refine S_mv rfl ?_
              first | refine S_add rfl rfl (by omega) (by omega) ?_ | refine S_bin rfl rfl rfl ?_
              refine S_as rfl ?_
              refine S_nilk [6, 7, 11, 12, 13, 14, 15] (by simp only [proj, lk, reduceIte, Nat.reduceEqDiff]; rfl) ?_
              exact hK22 _ _ ⟨_, by omega, j + 1, (j : Int), by omega, .inr ⟨j, rfl, by omega, by simpa using c30⟩, rfl, rfl, rfl⟩
            · skip
              refine V_skipk [6, 7, 11, 12, 13, 14, 15] (by simp only [proj, lk, reduceIte, Nat.reduceEqDiff]; rfl) ?_
              refine hK26 _ _ ?_; clear hK26
              refine V_reg T.mix (by kernel_rfl) ?_
              refine S_mv rfl ?_
              first | refine S_add rfl rfl (by omega) (by omega) ?_ | refine S_bin rfl rfl rfl ?_
              refine S_as rfl ?_
              refine S_nilk [6, 7, 11, 12, 13, 14, 15] (by simp only [proj, lk, reduceIte, Nat.reduceEqDiff]; rfl) ?_
              exact hK22 _ _ ⟨_, by omega, j + 1, at_, by omega, by rcases hat with q | ⟨n, q1, q2⟩; (exact .inl ⟨q.1, fun q2 hq2 => by by_cases e : q2 = j; (rw [e]; simpa using c30); (exact q.2 q2 (by omega))⟩); (omega), rfl, rfl, rfl⟩
          · replace c29 : ¬ _ := fun hp => Bool.false_ne_true (c29.symm.trans (hb29.2 hp))
            refine V_exitk [6, 7, 11, 12, 14] rfl (by simp only [proj, lk, reduceIte, Nat.reduceEqDiff]; rfl) ?_
            refine hK20 _ _ ?_; clear hK20
            refine V_seq (fun K28 hK28 => ?_)
            refine V_sr T.mix (by kernel_rfl) (fun K29 hK29 => ?_)
            refine S_mv rfl ?_
            refine S_bin rfl rfl rfl ?_
            refine S_nil (hK29 _ _ (V_keep [6, 7, 11, 12, 14, 85] (by simp only [proj, lk, reduceIte, Nat.reduceEqDiff]; rfl) ?_)); clear hK29
            refine V_condp rfl (fun c34 => ?_) (fun c34 => ?_)
            · skip
              refine V_sr T.mix (by kernel_rfl) (fun K30 hK30 => ?_)
              refine S_mv rfl ?_
              refine S_bld rfl (T.bld97_0_1_2 _ _ _) ?_
              refine S_stl T.sz97 rfl rfl rfl rfl (fun j hj => by simp (disch := omega) only [hRok]) ?_
              generalize hh : putsH _ _ _ _ = h21
              have hR9 : B h21 (h.size) #[.int .i64 (19), .int .i64 (2), .int .i64 (i)] 97 := by rw [← hh]; exact B.puts_all (hRk) (cs' := #[.int .i64 (19), .int .i64 (2), .int .i64 (i)]) rfl
              have hEh21 : Ext (fun k => k = h.size) hk h21 := by rw [← hh]; exact Ext.puts (S := fun k => k = h.size) rfl _ _ _
              clear hh
              refine S_nil (hK30 _ _ (V_keep [6] (by simp only [proj, lk, reduceIte, Nat.reduceEqDiff]; rfl) ?_)); clear hK30
              refine V_ret ?_
              refine hR _ _ (retc1 rfl rfl T.ag97 hR9 (by rfl) ?_)
              have hfl2 := turn_bad (turn_gone (S := S) c27 (fun hm => by obtain ⟨q, hq, he⟩ := List.getElem_of_mem hm; rcases hat with ⟨_, z⟩ | ⟨n, z, _⟩; (exact z q (by omega) (by rw [← he]; simp [hq])); (omega)) S) (by omega) ((rowsOf (parseF t).2.2).drop (i + 1)) i
              rw [← rdrop (by omega), ← hfo, hLp] at hfl2
              refine ⟨?_, hEd.step hEh21 (fun z hz e => by omega), (kmk).ext hEh21 (fun e => by omega) (fun e => by omega)⟩
              rw [chk3 hz1 hz3 hfl2]
              rfl
            · skip
              obtain ⟨n, rfl, hn1, hn2⟩ : ∃ n : Nat, at_ = n ∧ n < S.length ∧ S.getD n [] = ((rowsOf (parseF t).2.2).getD i (false, [])).2 := by
                rcases hat with q | q
                · omega
                · exact q
              refine V_skipk [6, 7, 11, 12, 14] (by simp only [proj, lk, reduceIte, Nat.reduceEqDiff]; rfl) ?_
              refine hK28 _ _ ?_; clear hK28
              refine V_sr T.mix (by kernel_rfl) (fun K31 hK31 => ?_)
              refine S_as rfl ?_
              refine S_nil (hK31 _ _ (V_keep [6, 7, 11, 12, 14, 16] (by simp only [proj, lk, reduceIte, Nat.reduceEqDiff]; rfl) ?_)); clear hK31
              refine V_seq (fun K32 hK32 => ?_)
              refine V_sr T.mix (by kernel_rfl) (fun K33 hK33 => ?_)
              refine S_as rfl ?_
              refine S_nil (hK33 _ _ (V_keep [6, 7, 11, 12, 14, 16, 17] (by simp only [proj, lk, reduceIte, Nat.reduceEqDiff]; rfl) ?_)); clear hK33
              refine V_block ?_
              refine V_loop (fun m l h' => ∃ (j : Nat) (hq : Heap) (rs : List (List Int)) (ra : Option Addr) (rc : Nat), (j ≤ S.length) ∧ (rs = (S.take j).eraseIdx n) ∧ (LV hA.size hq.size hq ra rc rs) ∧ (∀ z, blkA ra = some z → hk.size ≤ z) ∧ (Ext (fun _ => False) hk hq) ∧ m = S.length - j ∧ l = [(6, .pointer (some ⟨h.size, 0, none⟩)), (7, .slice sa S.length sc), (11, .slice (some ⟨rb, 0, none⟩) (rowsOf (parseF t).2.2).length oc), (12, .int .i64 (i : Int)), (14, .int .i64 (n : Int)), (16, .slice ra rs.length rc), (17, .int .i64 (j : Int))] ∧ hq = h') _ ⟨0, hk, [], none, 0, by omega, by simp, LV.nil _ _ _ (Nat.le_refl _), by simp [blkA], Ext.refl _ _, rfl, rfl, rfl⟩ ?_
              rintro m l h' ⟨j, hq, rs, ra, rc, hj, hrs, hrl2, hro, hEq, rfl, rfl, rfl⟩ K34 hK34
              have hlq := hEq.1
              have hrsl : rs.length ≤ j := by rw [hrs, List.length_eraseIdx]; split <;> simp <;> omega
              refine V_seq (fun K35 hK35 => ?_)
              refine V_sr T.mix (by kernel_rfl) (fun K36 hK36 => ?_)
              refine S_mv rfl ?_
              refine S_mv rfl ?_
              refine S_lenl T.el38 rfl ?_
              refine S_bin rfl rfl rfl ?_
              refine S_nil (hK36 _ _ (V_keep [6, 7, 11, 12, 14, 16, 17, 91] (by simp only [proj, lk, reduceIte, Nat.reduceEqDiff]; rfl) ?_)); clear hK36
              refine V_condp rfl (fun c38 => ?_) (fun c38 => ?_)
              · skip
                obtain ⟨sb, rfl, hsb1, hsb2, hsg⟩ := (hsv.ext hEq (fun _ _ _ f => f)).get (by omega)
                obtain ⟨a8, c8, hcell, hIs, hbi2⟩ := hsg j (by omega)
                obtain ⟨vz, hvz⟩ := hrl2.own
                refine V_skipk [6, 7, 11, 12, 14, 16, 17] (by simp only [proj, lk, reduceIte, Nat.reduceEqDiff]; rfl) ?_
                refine hK35 _ _ ?_; clear hK35
                refine V_seq (fun K37 hK37 => ?_)
                refine V_block ?_
                refine V_sr T.mix (by kernel_rfl) (fun K38 hK38 => ?_)
                refine S_mv rfl ?_
                refine S_mv rfl ?_
                refine S_bin rfl rfl rfl ?_
                refine S_nil (hK38 _ _ (V_keep [6, 7, 11, 12, 14, 16, 17, 96] (by simp only [proj, lk, reduceIte, Nat.reduceEqDiff]; rfl) ?_)); clear hK38
                refine V_condp rfl (fun c39 => ?_) (fun c39 => ?_)
                · skip
                  refine V_reg T.mix (by kernel_rfl) ?_
                  refine S_mv rfl ?_
                  refine S_mv rfl ?_
                  refine S_mv rfl ?_
                  first | refine S_ixn T.el38 rfl rfl (by omega) ?_ | refine S_ix1 T.el38 rfl rfl (by omega) (by omega) ?_ | refine S_ix T.el38 rfl rfl (by omega) (by omega) ?_
                  refine S_ldK T.ag49 rfl (fun K' hK' => ?_)
                  simp (disch := omega) only [hcell, oP_some, Nat.add_zero]
                  refine hK' _ ?_; clear hK' K'
                  refine S_bs T.ei38 rfl (by decide) (by decide) (T.bs38_1_0 _ _ _) ?_
                  refine S_appx (lo := hA.size) T.ei38 T.ni38 T.us38 rfl rfl rfl (OwnR.ext hvz (Ext.push (fun _ => False) _ _) (fun _ _ f => f)) (by simp; omega) (cellsH_new _ _ _) rfl (by omega) (by decide) (by decide) rfl (fun a9 c9 hz hoz hE4x hb4x => ?_)
                  have hEz : Ext (fun z => blkA ra = some z) hq hz := (Ext.push _ _ _).trans hE4x
                  have hbz := new_blk (h := hq) hb4x (by simp)
                  refine S_as rfl ?_
                  refine S_nilk [6, 7, 11, 12, 14, 16, 17] (by simp only [proj, lk, reduceIte, Nat.reduceEqDiff]; rfl) ?_
                  refine hK37 _ _ ?_; clear hK37
                  refine V_reg T.mix (by kernel_rfl) ?_
                  refine S_mv rfl ?_
                  first | refine S_add rfl rfl (by omega) (by omega) ?_ | refine S_bin rfl rfl rfl ?_
                  refine S_as rfl ?_
                  refine S_nilk [6, 7, 11, 12, 14, 16, 17] (by simp only [proj, lk, reduceIte, Nat.reduceEqDiff]; rfl) ?_
                  exact hK34 _ _ ⟨_, by omega, j + 1, hz, rs ++ [S.getD j []], a9, c9, by omega, (by rw [erase_snoc (by omega) (by omega), ← hrs]), hrl2.snoc hvz hoz hEz hbz hIs (fun z e => ⟨(hbi2 z e).1, fun x => by have h9 := hbi2 z e; have h8 := hro z x; omega⟩), (fun z e => by rcases hbz z e with q | q; (exact hro z q); (omega)), hEq.step hEz (fun z hz2 e => by have h8 := hro z e; omega), rfl, by simp, rfl⟩
                · skip
                  refine V_skipk [6, 7, 11, 12, 14, 16, 17] (by simp only [proj, lk, reduceIte, Nat.reduceEqDiff]; rfl) ?_
                  refine hK37 _ _ ?_; clear hK37
                  refine V_reg T.mix (by kernel_rfl) ?_
                  refine S_mv rfl ?_
                  first | refine S_add rfl rfl (by omega) (by omega) ?_ | refine S_bin rfl rfl rfl ?_
                  refine S_as rfl ?_
                  refine S_nilk [6, 7, 11, 12, 14, 16, 17] (by simp only [proj, lk, reduceIte, Nat.reduceEqDiff]; rfl) ?_
                  exact hK34 _ _ ⟨_, by omega, j + 1, hq, rs, ra, rc, by omega, by have e : j = n := (by omega); subst e; rw [erase_same (by omega)]; exact hrs, hrl2, hro, hEq, rfl, rfl, rfl⟩
              · skip
                refine V_exitk [6, 11, 12, 16] rfl (by simp only [proj, lk, reduceIte, Nat.reduceEqDiff]; rfl) ?_
                refine hK32 _ _ ?_; clear hK32
                refine V_reg T.mix (by kernel_rfl) ?_
                refine S_mv rfl ?_
                refine S_as rfl ?_
                refine S_nilk [6, 7, 11, 12] (by simp only [proj, lk, reduceIte, Nat.reduceEqDiff]; rfl) ?_
                refine hK16 _ _ ?_; clear hK16
                refine V_reg T.mix (by kernel_rfl) ?_
                refine S_mv rfl ?_
                first | refine S_add rfl rfl (by omega) (by omega) ?_ | refine S_bin rfl rfl rfl ?_
                refine S_as rfl ?_
                refine S_nilk [6, 7, 11, 12] (by simp only [proj, lk, reduceIte, Nat.reduceEqDiff]; rfl) ?_
                have hje : j = S.length := by omega
                rw [hje, List.take_length] at hrs
                exact hK13 _ _ ⟨_, by omega, i + 1, hq, rs, ra, rc, by omega, (by rw [hfo, rdrop (by omega)]; exact turn_ok (turn_del c27 (by rw [hrs]; exact erase_perm hn1 hn2)) _ _), hrl2, (fun z e => .inr (by have h9 := hro z e; omega)), (fun c hc => hSn c (by rw [hrs] at hc; exact List.mem_of_mem_eraseIdx hc)), (by rw [hrs, List.length_eraseIdx]; split <;> omega), hEk.step hEq (fun _ _ f => f.elim), rfl, rfl, rfl⟩
        · skip
          refine V_seq (fun K39 hK39 => ?_)
          refine V_sr T.mix (by kernel_rfl) (fun K40 hK40 => ?_)
          refine S_mv rfl ?_
          refine S_mv rfl ?_
          refine S_call T.hb81 rfl ?_
          refine FC.mono (mrup_spec hk sa sc hA.size hk.size S hsv hSn (by omega) ai ci ((rowsOf (parseF t).2.2).getD i (false, [])).2 hIc hrn) ?_
          rintro v' hq ⟨g, rfl, hg, hEq⟩
          have hlq := hEq.1
          have hRq := hRk.ext hEq (fun f => f)
          have hRok : ∀ j, j < 3 → okPut hq ⟨h.size, j, none⟩ = true := fun j hj => (hRq).ok (by simpa using hj)
          refine S_notb rfl ?_
          refine S_nil (hK40 _ _ (V_keep [6, 7, 11, 12, 13, 108] (by simp only [proj, lk, reduceIte, Nat.reduceEqDiff]; rfl) ?_)); clear hK40
          refine V_condb rfl (fun c45 => ?_) (fun c45 => ?_)
          · skip
            refine V_sr T.mix (by kernel_rfl) (fun K41 hK41 => ?_)
            refine S_mv rfl ?_
            refine S_bld rfl (T.bld97_0_1_2 _ _ _) ?_
            refine S_stl T.sz97 rfl rfl rfl rfl (fun j hj => by simp (disch := omega) only [hRok]) ?_
            generalize hh : putsH _ _ _ _ = h21
            have hR9 : B h21 (h.size) #[.int .i64 (18), .int .i64 (2), .int .i64 (i)] 97 := by rw [← hh]; exact B.puts_all (hRq) (cs' := #[.int .i64 (18), .int .i64 (2), .int .i64 (i)]) rfl
            have hEh21 : Ext (fun k => k = h.size) hq h21 := by rw [← hh]; exact Ext.puts (S := fun k => k = h.size) rfl _ _ _
            clear hh
            refine S_nil (hK41 _ _ (V_keep [6] (by simp only [proj, lk, reduceIte, Nat.reduceEqDiff]; rfl) ?_)); clear hK41
            refine V_ret ?_
            refine hR _ _ (retc1 rfl rfl T.ag97 hR9 (by rfl) ?_)
            have hfl2 := turn_bad (turn_step (S := S) (r := ((rowsOf (parseF t).2.2).getD i (false, []))) (by rw [c27]; exact Bool.false_ne_true) (by by_cases e : Fix S (deny ((rowsOf (parseF t).2.2).getD i (false, [])).2); (exact e); (rw [hg.2 e] at c45; simp at c45)) S) (by omega) ((rowsOf (parseF t).2.2).drop (i + 1)) i
            rw [← rdrop (by omega), ← hfo, hLp] at hfl2
            refine ⟨?_, (hEd.step hEq (fun _ _ f => f.elim)).step hEh21 (fun z hz e => by omega), (kmk.ext hEq (fun f => f) (fun f => f)).ext hEh21 (fun e => by omega) (fun e => by omega)⟩
            rw [chk3 hz1 hz3 hfl2]
            rfl
          · skip
            refine V_skipk [6, 7, 11, 12, 13] (by simp only [proj, lk, reduceIte, Nat.reduceEqDiff]; rfl) ?_
            refine hK39 _ _ ?_; clear hK39
            refine V_seq (fun K42 hK42 => ?_)
            refine V_sr T.mix (by kernel_rfl) (fun K43 hK43 => ?_)
            refine S_mv rfl ?_
            refine S_lenl T.el38 rfl ?_
            refine S_bin rfl rfl rfl ?_
            refine S_nil (hK43 _ _ (V_keep [6, 7, 11, 12, 13, 113] (by simp only [proj, lk, reduceIte, Nat.reduceEqDiff]; rfl) ?_)); clear hK43
            refine V_condp rfl (fun c48 => ?_) (fun c48 => ?_)
            · skip
              refine V_sr T.mix (by kernel_rfl) (fun K44 hK44 => ?_)
              refine S_mv rfl ?_
              refine S_bld rfl (T.bld97_0_1_2 _ _ _) ?_
              refine S_stl T.sz97 rfl rfl rfl rfl (fun j hj => by simp (disch := omega) only [hRok]) ?_
              generalize hh : putsH _ _ _ _ = h21
              have hR9 : B h21 (h.size) #[.int .i64 (12), .int .i64 (2), .int .i64 (i)] 97 := by rw [← hh]; exact B.puts_all (hRq) (cs' := #[.int .i64 (12), .int .i64 (2), .int .i64 (i)]) rfl
              have hEh21 : Ext (fun k => k = h.size) hq h21 := by rw [← hh]; exact Ext.puts (S := fun k => k = h.size) rfl _ _ _
              clear hh
              refine S_nil (hK44 _ _ (V_keep [6] (by simp only [proj, lk, reduceIte, Nat.reduceEqDiff]; rfl) ?_)); clear hK44
              refine V_ret ?_
              refine hR _ _ (retc1 rfl rfl T.ag97 hR9 (by rfl) ?_)
              have hfl2 := turn_bad (turn_full (S := S) (r := ((rowsOf (parseF t).2.2).getD i (false, []))) (by rw [c27]; exact Bool.false_ne_true) (hg.1 (by simpa using c45)) (by omega) S) (by omega) ((rowsOf (parseF t).2.2).drop (i + 1)) i
              rw [← rdrop (by omega), ← hfo, hLp] at hfl2
              refine ⟨?_, (hEd.step hEq (fun _ _ f => f.elim)).step hEh21 (fun z hz e => by omega), (kmk.ext hEq (fun f => f) (fun f => f)).ext hEh21 (fun e => by omega) (fun e => by omega)⟩
              rw [chk3 hz1 hz3 hfl2]
              rfl
            · skip
              obtain ⟨vz, hvz⟩ := (hsv.ext hEq (fun _ _ _ f => f)).own
              refine V_skipk [6, 7, 11, 12, 13] (by simp only [proj, lk, reduceIte, Nat.reduceEqDiff]; rfl) ?_
              refine hK42 _ _ ?_; clear hK42
              refine V_reg T.mix (by kernel_rfl) ?_
              refine S_mv rfl ?_
              refine S_mv rfl ?_
              refine S_bs T.ei38 rfl (by decide) (by decide) (T.bs38_1_0 _ _ _) ?_
              refine S_appx (lo := hA.size) T.ei38 T.ni38 T.us38 rfl rfl rfl (OwnR.ext hvz (Ext.push (fun _ => False) _ _) (fun _ _ f => f)) (by simp; omega) (cellsH_new _ _ _) rfl (by omega) (by decide) (by decide) rfl (fun a9 c9 hz hoz hE4x hb4x => ?_)
              have hEz : Ext (fun z => blkA sa = some z) hq hz := (Ext.push _ _ _).trans hE4x
              have hbz := new_blk (h := hq) hb4x (by simp)
              have hsz := (hsv.ext hEq (fun _ _ _ f => f)).snoc hvz hoz hEz hbz (hIc.ext hEq (fun _ _ f => f)) (fun z e => ⟨by have h9 := hbi z e; omega, fun x => by have h9 := hbi z e; have h8 := hso z x; omega⟩)
              refine S_as rfl ?_
              refine S_nilk [6, 7, 11, 12] (by simp only [proj, lk, reduceIte, Nat.reduceEqDiff]; rfl) ?_
              refine hK16 _ _ ?_; clear hK16
              refine V_reg T.mix (by kernel_rfl) ?_
              refine S_mv rfl ?_
              first | refine S_add rfl rfl (by omega) (by omega) ?_ | refine S_bin rfl rfl rfl ?_
              refine S_as rfl ?_
              refine S_nilk [6, 7, 11, 12] (by simp only [proj, lk, reduceIte, Nat.reduceEqDiff]; rfl) ?_
              exact hK13 _ _ ⟨_, by omega, i + 1, hz, S ++ [((rowsOf (parseF t).2.2).getD i (false, [])).2], a9, c9, by omega, (by rw [hfo, rdrop (by omega)]; exact turn_ok (turn_add (by rw [c27]; exact Bool.false_ne_true) (hg.1 (by simpa using c45)) (by omega) (List.Perm.refl _)) _ _), hsz, (fun z e => by rcases hbz z e with q | q; (exact hso z q); (omega)), (fun c hc => by rcases List.mem_append.1 hc with q | q; (exact hSn c q); (rw [List.mem_singleton.1 q]; exact hrn)), (by simp; omega), (hEk.step hEq (fun _ _ f => f.elim)).step hEz (fun z hz2 e => by have h9 := hso z e; have h8 := (OwnR.blk2 hvz e).1; omega), rfl, by simp, rfl⟩
      · skip
        have hie : i = (rowsOf (parseF t).2.2).length := by omega
        rw [hie, List.drop_length] at hfo
        refine V_exitk [6, 7, 11] rfl (by simp only [proj, lk, reduceIte, Nat.reduceEqDiff]; rfl) ?_
        refine hK11 _ _ ?_; clear hK11
        refine V_seq (fun K45 hK45 => ?_)
        refine V_sr T.mix (by kernel_rfl) (fun K46 hK46 => ?_)
        refine S_as rfl ?_
        refine S_nil (hK46 _ _ (V_keep [6, 7, 11, 18] (by simp only [proj, lk, reduceIte, Nat.reduceEqDiff]; rfl) ?_)); clear hK46
        refine V_block ?_
        refine V_loop (fun m l h' => ∃ (j : Nat), (j ≤ S.length) ∧ (∀ q, q < j → S.getD q [] ≠ []) ∧ m = S.length - j ∧ l = [(6, .pointer (some ⟨h.size, 0, none⟩)), (7, .slice sa S.length sc), (11, .slice oa (rowsOf (parseF t).2.2).length oc), (18, .int .i64 (j : Int))] ∧ hk = h') _ ⟨0, by omega, fun q hq => by omega, rfl, rfl, rfl⟩ ?_
        rintro m l h' ⟨j, hj, hne2, rfl, rfl, rfl⟩ K47 hK47
        refine V_seq (fun K48 hK48 => ?_)
        refine V_sr T.mix (by kernel_rfl) (fun K49 hK49 => ?_)
        refine S_mv rfl ?_
        refine S_mv rfl ?_
        refine S_lenl T.el38 rfl ?_
        refine S_bin rfl rfl rfl ?_
        refine S_nil (hK49 _ _ (V_keep [6, 7, 11, 18, 123] (by simp only [proj, lk, reduceIte, Nat.reduceEqDiff]; rfl) ?_)); clear hK49
        refine V_condp rfl (fun c54 => ?_) (fun c54 => ?_)
        · skip
          obtain ⟨sb, rfl, hsb1, hsb2, hsg⟩ := hsv.get (by omega)
          obtain ⟨a8, c8, hcell, hIs, hbi2⟩ := hsg j (by omega)
          refine V_skipk [6, 7, 11, 18] (by simp only [proj, lk, reduceIte, Nat.reduceEqDiff]; rfl) ?_
          refine hK48 _ _ ?_; clear hK48
          refine V_seq (fun K50 hK50 => ?_)
          refine V_block ?_
          refine V_sr T.mix (by kernel_rfl) (fun K51 hK51 => ?_)
          refine S_mv rfl ?_
          refine S_mv rfl ?_
          first | refine S_ixn T.el38 rfl rfl (by omega) ?_ | refine S_ix1 T.el38 rfl rfl (by omega) (by omega) ?_ | refine S_ix T.el38 rfl rfl (by omega) (by omega) ?_
          refine S_ldK T.ag49 rfl (fun K' hK' => ?_)
          simp (disch := omega) only [hcell, oP_some, Nat.add_zero]
          refine hK' _ ?_; clear hK' K'
          refine S_lenl T.el49 rfl ?_
          refine S_bin rfl rfl rfl ?_
          refine S_nil (hK51 _ _ (V_keep [6, 7, 11, 18, 131] (by simp only [proj, lk, reduceIte, Nat.reduceEqDiff]; rfl) ?_)); clear hK51
          refine V_condp rfl (fun c55 => ?_) (fun c55 => ?_)
          · skip
            refine V_sr T.mix (by kernel_rfl) (fun K52 hK52 => ?_)
            refine S_bld rfl (T.bld97) ?_
            refine S_stl T.sz97 rfl rfl rfl rfl (fun j hj => by simp (disch := omega) only [hRok]) ?_
            generalize hh : putsH _ _ _ _ = h21
            have hR9 : B h21 (h.size) #[.int .i64 0, .int .i64 0, .int .i64 0] 97 := by rw [← hh]; exact B.puts_all (hRk) (cs' := #[.int .i64 0, .int .i64 0, .int .i64 0]) rfl
            have hEh21 : Ext (fun k => k = h.size) hk h21 := by rw [← hh]; exact Ext.puts (S := fun k => k = h.size) rfl _ _ _
            clear hh
            refine S_nil (hK52 _ _ (V_keep [6] (by simp only [proj, lk, reduceIte, Nat.reduceEqDiff]; rfl) ?_)); clear hK52
            refine V_ret ?_
            refine hR _ _ (retc1 rfl rfl T.ag97 hR9 (by rfl) ?_)
            have hem : [] ∈ S := by have h9 := getD_mem (show j < S.length by omega); rwa [List.length_eq_zero_iff.1 (show (S.getD j []).length = 0 by omega)] at h9
            have hfl2 : (fol (rowsOf (parseF t).2.2) Lp 0) = (0, 0) := by rw [hfo]; unfold fol; rw [if_pos hem]
            rw [hLp] at hfl2
            refine ⟨?_, hEd.step hEh21 (fun z hz e => by omega), (kmk).ext hEh21 (fun e => by omega) (fun e => by omega)⟩
            rw [chk3 hz1 hz3 hfl2]
            rfl
          · skip
            refine V_skipk [6, 7, 11, 18] (by simp only [proj, lk, reduceIte, Nat.reduceEqDiff]; rfl) ?_
            refine hK50 _ _ ?_; clear hK50
            refine V_reg T.mix (by kernel_rfl) ?_
            refine S_mv rfl ?_
            first | refine S_add rfl rfl (by omega) (by omega) ?_ | refine S_bin rfl rfl rfl ?_
            refine S_as rfl ?_
            refine S_nilk [6, 7, 11, 18] (by simp only [proj, lk, reduceIte, Nat.reduceEqDiff]; rfl) ?_
            exact hK47 _ _ ⟨_, by omega, j + 1, by omega, fun q hq e => by by_cases e2 : q = j; (subst e2; rw [e] at c55; exact c55 rfl); (exact hne2 q (by omega) e), rfl, rfl, rfl⟩
        · skip
          refine V_exitk [6, 11] rfl (by simp only [proj, lk, reduceIte, Nat.reduceEqDiff]; rfl) ?_
          refine hK45 _ _ ?_; clear hK45
          refine V_sr T.mix (by kernel_rfl) (fun K53 hK53 => ?_)
          refine S_mv rfl ?_
          refine S_lenl T.el132 rfl ?_
          refine S_bld rfl (T.bld97_0_1_2 _ _ _) ?_
          refine S_stl T.sz97 rfl rfl rfl rfl (fun j hj => by simp (disch := omega) only [hRok]) ?_
          generalize hh : putsH _ _ _ _ = h21
          have hR9 : B h21 (h.size) #[.int .i64 (20), .int .i64 (2), .int .i64 ((rowsOf (parseF t).2.2).length)] 97 := by rw [← hh]; exact B.puts_all (hRk) (cs' := #[.int .i64 (20), .int .i64 (2), .int .i64 ((rowsOf (parseF t).2.2).length)]) rfl
          have hEh21 : Ext (fun k => k = h.size) hk h21 := by rw [← hh]; exact Ext.puts (S := fun k => k = h.size) rfl _ _ _
          clear hh
          refine S_nil (hK53 _ _ (V_keep [6] (by simp only [proj, lk, reduceIte, Nat.reduceEqDiff]; rfl) ?_)); clear hK53
          refine V_ret ?_
          refine hR _ _ (retc1 rfl rfl T.ag97 hR9 (by rfl) ?_)
          have hem : [] ∉ S := fun hm => by obtain ⟨q, hq, he⟩ := List.getElem_of_mem hm; exact hne2 q (by omega) (by rw [← he]; simp [hq])
          have hfl2 : (fol (rowsOf (parseF t).2.2) Lp 0) = (20, (rowsOf (parseF t).2.2).length) := by rw [hfo]; unfold fol; rw [if_neg hem]
          rw [hLp] at hfl2
          refine ⟨?_, hEd.step hEh21 (fun z hz e => by omega), (kmk).ext hEh21 (fun e => by omega) (fun e => by omega)⟩
          rw [chk3 hz1 hz3 hfl2]
          rfl
end Go.Proofs.Qxb6500401aGreat.ChkW
