import Derived.Test.Qxb6500401aGreatYa
set_option linter.unusedVariables false
set_option linter.unusedSimpArgs false
namespace Go.Proofs.Qxb6500401aGreat
open Go.Eng Go.Trl Go.Chk Go.Wat

theorem climbF_succ (s : TS) (cl : Nat → Option (List Int)) (lv : Int) (i : Nat) (st : LS) : climbF s cl lv (i + 1) st =
    (if st.seen.testBit (atL s.L (i : Int)).natAbs = true then
      if levV s.L ((atL s.L (i : Int)).natAbs : Int) = lv then
        if st.op - 1 = 0 then ({ st with op := st.op - 1 }, atL s.L (i : Int))
        else match liveC cl (reaV s.L ((atL s.L (i : Int)).natAbs : Int)) with
          | none => ({ st with op := st.op - 1 }, 0)
          | some rc => if (markA s lv { st with op := st.op - 1 } rc).2 = true then climbF s cl lv i (markA s lv { st with op := st.op - 1 } rc).1 else ((markA s lv { st with op := st.op - 1 } rc).1, 0)
      else climbF s cl lv i st
    else climbF s cl lv i st) := rfl
theorem climbF_ok {s : TS} {cl : Nat → Option (List Int)} {lv : Int} (hc : ∀ n, n < 52 → ∀ c, cl n = some c → Nrm c) : ∀ (i : Nat) {st : LS}, st.ok → (climbF s cl lv i st).1.ok
  | 0, st, h => h
  | i + 1, st, h => by
    unfold climbF
    repeat' split
    · exact ⟨h.s, h.p, h.n⟩
    · exact ⟨h.s, h.p, h.n⟩
    · rename_i rc e _
      obtain ⟨n, c2, _, h1, h2, h3⟩ := liveS (cl := cl) (by rw [e]; rfl)
      rw [e] at h3; cases h3
      have hn := hc n h1 rc h2
      exact climbF_ok hc i (markA_ok (st := { st with op := st.op - 1 }) ⟨h.s, h.p, h.n⟩ (fun x hx => by have := hn.1 x hx; unfold gd at this; omega)).1
    · rename_i rc e _
      obtain ⟨n, c2, _, h1, h2, h3⟩ := liveS (cl := cl) (by rw [e]; rfl)
      rw [e] at h3; cases h3
      have hn := hc n h1 rc h2
      exact (markA_ok (st := { st with op := st.op - 1 }) ⟨h.s, h.p, h.n⟩ (fun x hx => by have := hn.1 x hx; unfold gd at this; omega)).1
    · exact climbF_ok hc i h
    · exact climbF_ok hc i h
theorem clF_some {cl : Nat → Option (List Int)} {id : Int} {c : List Int} (h : liveC cl id = some c) : clF cl id = c ∧ clE cl id = 0 := by unfold clF clE; rw [h]; exact ⟨rfl, rfl⟩
theorem clF_none {cl : Nat → Option (List Int)} {id : Int} (h : liveC cl id = none) : clF cl id = [] ∧ clE cl id = 13 := by unfold clF clE; rw [h]; exact ⟨rfl, rfl⟩
theorem nrm_live {W : WC} {cl : Nat → Option (List Int)} {ls : List Int} {c : Nat} (hw : WI W cl ls c) : ∀ n, n < 52 → ∀ cc, cl n = some cc → Nrm cc := fun n hn cc hc => ((hw.lo n hn).a cc hc).1
theorem nrm_liveC {W : WC} {cl : Nat → Option (List Int)} {ls : List Int} {c : Nat} (hw : WI W cl ls c) {id : Int} {cc : List Int} (h : liveC cl id = some cc) : Nrm cc := by
  obtain ⟨n, c2, _, h1, h2, h3⟩ := liveS (cl := cl) (id := id) (by rw [h]; rfl)
  rw [h] at h3; cases h3
  exact nrm_live hw n h1 cc h2
theorem at_gd {s : TS} (hok : Ok s) {i : Nat} (hi : i < s.L.length) : gd (atL s.L (i : Int)) := by
  rw [atL_eq hi]; exact gd_lits hok (mem_at (by rw [lits_len]; exact hi))
theorem all_snoc {c : List Int} {i : Nat} (h : i < c.length) (f : Int → Bool) : (c.take (i + 1)).all f = ((c.take i).all f && f (c.getD i 0)) := by
  rw [getD_snoc _ _ h, List.all_append]; simp
theorem all_stop {c : List Int} {i : Nat} (h : i < c.length) {f : Int → Bool} (hf : f (c.getD i 0) = false) : c.all f = false := by
  rw [List.all_eq_false]; exact ⟨_, mem_at h, by rw [hf]; simp⟩
theorem shF_len (s : TS) (cl : Nat → Option (List Int)) (st : LS) (a : Int) : ∀ v, (shF s cl st a v).1.length ≤ v
  | 0 => by simp [shF]
  | v + 1 => by
    have := shF_len s cl st a v
    unfold shF
    split
    · simp; omega
    · split
      · simp; omega
      · omega

theorem litOf_le (st : LS) (v : Nat) : -(v : Int) ≤ litOf st v ∧ litOf st v ≤ v := by 
  unfold litOf; repeat' split
  all_goals omega
theorem shF_succ (s : TS) (cl : Nat → Option (List Int)) (st : LS) (a : Int) (v : Nat) : shF s cl st a (v + 1) = (if litOf st (v + 1) = a then ((shF s cl st a v).1 ++ [litOf st (v + 1)], (shF s cl st a v).2) else if litOf st (v + 1) ≠ 0 ∧ spareF s cl st (litOf st (v + 1)) = false then ((shF s cl st a v).1 ++ [litOf st (v + 1)], if (shF s cl st a v).2 < levV s.L ((v + 1 : Nat) : Int) then levV s.L ((v + 1 : Nat) : Int) else (shF s cl st a v).2) else shF s cl st a v) := rfl

theorem climb_gd {s : TS} {cl : Nat → Option (List Int)} {lv : Int} (hok : Ok s) : ∀ (i : Nat) {st : LS}, i ≤ s.L.length → -12 ≤ (climbF s cl lv i st).2 ∧ (climbF s cl lv i st).2 ≤ 12
  | 0, st, _ => by simp [climbF]
  | i + 1, st, hi => by
    have hg := at_gd hok (i := i) (by omega)
    unfold gd at hg
    rw [climbF_succ]
    repeat' split
    · exact ⟨hg.2.1, hg.2.2⟩
    · exact ⟨by simp, by simp⟩
    · exact climb_gd hok i (by omega)
    · exact ⟨by simp, by simp⟩
    · exact climb_gd hok i (by omega)
    · exact climb_gd hok i (by omega)
set_option maxHeartbeats 400000 in
theorem allfalse_spec (h : Heap) (K C X : Nat) (st : LS) (lv : Int) (hB : LB h K C X st lv) (W : WC) (cl : Nat → Option (List Int)) (s : TS) (p : Nat) (wx : WX h C X W cl s p) (nk : K ≠ C ∧ K ≠ X) (ca : Option Addr) (cc : Nat) (c : List Int) (hIc : IL h ca cc c) (hnr : Nrm c) (hcK : ∀ b, blkA ca = some b → b ≠ K) :
    FC Tryz.prog 122 (#[.pointer (some ⟨K, 0, none⟩), .slice ca c.length cc] : Array Value) h fun v h' => v = .bool (c.all fun x => decide (valO s x = -1)) ∧ h = h' := by
  try clear l0 l1 l2 l3 l4 l5 l6 hlok
  obtain ⟨l0, l1, l2, l3, l4, l5, l6, hlok⟩ := lq (hB)
  have hln := hnr.len
  refine FC_of [(0, .pointer (some ⟨K, 0, none⟩)), (1, .slice ca c.length cc)] Tryz.func122 rfl Tryz.ntmps122 (by simp) rfl (fun R hR => ?_)
  refine V_sr T.mix (by kernel_rfl) (fun K1 hK1 => ?_)
  refine S_as rfl ?_
  refine S_nil (hK1 _ _ (V_keep [0, 1] (by simp only [proj, lk, reduceIte, Nat.reduceEqDiff]; rfl) ?_)); clear hK1
  refine V_seq (fun K2 hK2 => ?_)
  refine V_sr T.mix (by kernel_rfl) (fun K3 hK3 => ?_)
  refine S_as rfl ?_
  refine S_nil (hK3 _ _ (V_keep [0, 1, 5] (by simp only [proj, lk, reduceIte, Nat.reduceEqDiff]; rfl) ?_)); clear hK3
  refine V_block ?_
  refine V_loop (fun m l h' => ∃ (i : Nat), (i ≤ c.length) ∧ (((c.take i).all fun x => decide (valO s x = -1)) = true) ∧ m = c.length - i ∧ l = [(0, .pointer (some ⟨K, 0, none⟩)), (1, .slice ca c.length cc), (5, .int .i64 (i : Int))] ∧ h = h') _ ⟨0, by omega, by simp, rfl, rfl, rfl⟩ ?_
  rintro m l h' ⟨i, hi, hal, rfl, rfl, rfl⟩ K4 hK4
  refine V_seq (fun K5 hK5 => ?_)
  refine V_sr T.mix (by kernel_rfl) (fun K6 hK6 => ?_)
  refine S_mv rfl ?_
  refine S_mv rfl ?_
  refine S_lenl T.el49 rfl ?_
  refine S_bin rfl rfl rfl ?_
  refine S_nil (hK6 _ _ (V_keep [0, 1, 5, 10] (by simp only [proj, lk, reduceIte, Nat.reduceEqDiff]; rfl) ?_)); clear hK6
  refine V_condp rfl (fun c56 => ?_) (fun c56 => ?_)
  · skip
    obtain ⟨bb, rfl, _, _, _⟩ := hIc.get (by omega)
    refine V_skipk [0, 1, 5] (by simp only [proj, lk, reduceIte, Nat.reduceEqDiff]; rfl) ?_
    refine hK5 _ _ ?_; clear hK5
    refine V_seq (fun K7 hK7 => ?_)
    refine V_block ?_
    refine V_sr T.mix (by kernel_rfl) (fun K8 hK8 => ?_)
    refine S_mv rfl ?_
    refine S_nc rfl ?_
    first | refine S_fa0 T.f107_0 rfl ?_ | refine S_fa T.f107_0 rfl ?_
    refine S_ldK T.ag30 rfl (fun K' hK' => ?_)
    simp (disch := omega) only [l0, hIc.at, oP_some, Nat.add_zero]
    refine hK' _ ?_; clear hK' K'
    refine S_mv rfl ?_
    refine S_mv rfl ?_
    first | refine S_ixn T.el49 rfl rfl (by omega) ?_ | refine S_ix1 T.el49 rfl rfl (by omega) (by omega) ?_ | refine S_ix T.el49 rfl rfl (by omega) (by omega) ?_
    refine S_ldK T.ag3 rfl (fun K' hK' => ?_)
    simp (disch := omega) only [l0, hIc.at, oP_some, Nat.add_zero]
    refine hK' _ ?_; clear hK' K'
    refine S_call T.hb75 rfl ?_
    refine FC.mono (value_spec h X s p wx.t (c.getD i 0)) ?_
    rintro v' h' ⟨rfl, rfl⟩
    refine S_as rfl ?_
    refine S_nil (hK8 _ _ (V_keep [0, 1, 5, 6] (by simp only [proj, lk, reduceIte, Nat.reduceEqDiff]; rfl) ?_)); clear hK8
    refine V_sr T.mix (by kernel_rfl) (fun K9 hK9 => ?_)
    refine S_mv rfl ?_
    refine S_bin rfl rfl rfl ?_
    refine S_nil (hK9 _ _ (V_keep [0, 1, 5, 23] (by simp only [proj, lk, reduceIte, Nat.reduceEqDiff]; rfl) ?_)); clear hK9
    refine V_condp rfl (fun c58 => ?_) (fun c58 => ?_)
    · skip
      refine V_sr T.mix (by kernel_rfl) (fun K10 hK10 => ?_)
      refine S_as rfl ?_
      refine S_nil (hK10 _ _ (V_keep [4] (by simp only [proj, lk, reduceIte, Nat.reduceEqDiff]; rfl) ?_)); clear hK10
      refine V_ret ?_
      refine hR _ _ (ret1 rfl rfl ?_)
      exact ⟨by rw [all_stop (show i < c.length by omega) (decide_eq_false c58)], rfl⟩
    · skip
      refine V_skipk [0, 1, 5] (by simp only [proj, lk, reduceIte, Nat.reduceEqDiff]; rfl) ?_
      refine hK7 _ _ ?_; clear hK7
      refine V_reg T.mix (by kernel_rfl) ?_
      refine S_mv rfl ?_
      first | refine S_add rfl rfl (by omega) (by omega) ?_ | refine S_bin rfl rfl rfl ?_
      refine S_as rfl ?_
      refine S_nilk [0, 1, 5] (by simp only [proj, lk, reduceIte, Nat.reduceEqDiff]; rfl) ?_
      exact hK4 _ _ ⟨_, by omega, i + 1, by omega, by rw [all_snoc (by omega), hal, decide_eq_true (show valO s (c.getD i 0) = -1 by omega)]; rfl, rfl, rfl, rfl⟩
  · skip
    refine V_exitk [] rfl (by simp only [proj, lk, reduceIte, Nat.reduceEqDiff]; rfl) ?_
    refine hK2 _ _ ?_; clear hK2
    refine V_sr T.mix (by kernel_rfl) (fun K11 hK11 => ?_)
    refine S_as rfl ?_
    refine S_nil (hK11 _ _ (V_keep [4] (by simp only [proj, lk, reduceIte, Nat.reduceEqDiff]; rfl) ?_)); clear hK11
    refine V_ret ?_
    refine hR _ _ (ret1 rfl rfl ?_)
    rw [show i = c.length by omega, List.take_length] at hal
    exact ⟨by rw [hal], rfl⟩
set_option maxHeartbeats 1600000 in
theorem climb_spec (h : Heap) (K C X : Nat) (st : LS) (lv : Int) (hB : LB h K C X st lv) (W : WC) (cl : Nat → Option (List Int)) (s : TS) (p : Nat) (wx : WX h C X W cl s p) (nk : K ≠ C ∧ K ≠ X) (ok : st.ok) (hop : 0 ≤ st.op ∧ st.op ≤ 12) :
    FC Tryz.prog 125 (#[.pointer (some ⟨K, 0, none⟩)] : Array Value) h fun v h' => v = .int .i64 (climbF s cl lv s.L.length st).2 ∧ LB h' K C X (climbF s cl lv s.L.length st).1 lv ∧ Ext (fun x => x = K) h h' := by
  try clear l0 l1 l2 l3 l4 l5 l6 hlok
  obtain ⟨l0, l1, l2, l3, l4, l5, l6, hlok⟩ := lq (hB)
  have hl12 := wx.ok.len
  have hKl := hB.lt
  refine FC_of [(0, .pointer (some ⟨K, 0, none⟩))] Tryz.func125 rfl Tryz.ntmps125 (by simp) rfl (fun R hR => ?_)
  refine V_sr T.mix (by kernel_rfl) (fun K1 hK1 => ?_)
  refine S_as rfl ?_
  refine S_nil (hK1 _ _ (V_keep [0] (by simp only [proj, lk, reduceIte, Nat.reduceEqDiff]; rfl) ?_)); clear hK1
  refine V_sr T.mix (by kernel_rfl) (fun K2 hK2 => ?_)
  refine S_mv rfl ?_
  refine S_nc rfl ?_
  first | refine S_fa0 T.f107_0 rfl ?_ | refine S_fa T.f107_0 rfl ?_
  refine S_ldK T.ag30 rfl (fun K' hK' => ?_)
  simp (disch := omega) only [l0, l1, l2, l3, l4, l5, l6, oP_some, Nat.add_zero]
  refine hK' _ ?_; clear hK' K'
  refine S_call T.hb48 rfl ?_
  refine FC.mono (len_spec h X s p wx.t) ?_
  rintro v' h' ⟨rfl, rfl⟩
  refine S_as rfl ?_
  refine S_nil (hK2 _ _ (V_keep [0, 3] (by simp only [proj, lk, reduceIte, Nat.reduceEqDiff]; rfl) ?_)); clear hK2
  refine V_seq (fun K3 hK3 => ?_)
  refine V_sr T.mix (by kernel_rfl) (fun K4 hK4 => ?_)
  refine S_mv rfl ?_
  first | refine S_sub rfl rfl (by omega) (by omega) ?_ | refine S_bin rfl rfl rfl ?_
  refine S_as rfl ?_
  refine S_nil (hK4 _ _ (V_keep [0, 4] (by simp only [proj, lk, reduceIte, Nat.reduceEqDiff]; rfl) ?_)); clear hK4
  refine V_block ?_
  refine V_loop (fun m l h' => ∃ (j : Nat) (hk : Heap) (stk : LS), (j ≤ s.L.length) ∧ (LB hk K C X stk lv) ∧ (stk.ok) ∧ (-(s.L.length - j : Int) ≤ stk.op ∧ stk.op ≤ 12 + 12 * (s.L.length - j : Int)) ∧ (climbF s cl lv j stk = (climbF s cl lv s.L.length st)) ∧ (Ext (fun x => x = K) h hk) ∧ m = 2 * j ∧ l = [(0, .pointer (some ⟨K, 0, none⟩)), (4, .int .i64 ((j : Int) - 1))] ∧ hk = h') _ ⟨s.L.length, h, st, Nat.le_refl _, hB, ok, by omega, rfl, Ext.refl _ _, rfl, rfl, rfl⟩ ?_
  rintro m l h' ⟨j, hk, stk, hj, hBk, okk, hopk, hcq, hEk, rfl, rfl, rfl⟩ K5 hK5
  try clear l0 l1 l2 l3 l4 l5 l6 hlok
  obtain ⟨l0, l1, l2, l3, l4, l5, l6, hlok⟩ := lq (hBk)
  have wxk := (wx.ext hEk (fun e => nk.1 e.symm) (fun e => nk.2 e.symm))
  refine V_seq (fun K6 hK6 => ?_)
  refine V_sr T.mix (by kernel_rfl) (fun K7 hK7 => ?_)
  refine S_mv rfl ?_
  refine S_bin rfl rfl rfl ?_
  refine S_nil (hK7 _ _ (V_keep [0, 4, 19] (by simp only [proj, lk, reduceIte, Nat.reduceEqDiff]; rfl) ?_)); clear hK7
  refine V_condp rfl (fun c98 => ?_) (fun c98 => ?_)
  · skip
    obtain ⟨i, hii⟩ : ∃ i : Nat, j = i + 1 := ⟨j - 1, by omega⟩
    subst hii
    rw [show ((i + 1 : Nat) : Int) - 1 = (i : Int) by omega]
    have hga : gd (atL s.L (i : Int)) := at_gd wx.ok (by omega)
    have hga2 := hga
    unfold gd at hga2
    rw [climbF_succ] at hcq
    refine V_skipk [0, 4] (by simp only [proj, lk, reduceIte, Nat.reduceEqDiff]; rfl) ?_
    refine hK6 _ _ ?_; clear hK6
    refine V_seq (fun K8 hK8 => ?_)
    refine V_block ?_
    refine V_sr T.mix (by kernel_rfl) (fun K9 hK9 => ?_)
    refine S_mv rfl ?_
    refine S_nc rfl ?_
    first | refine S_fa0 T.f107_0 rfl ?_ | refine S_fa T.f107_0 rfl ?_
    refine S_ldK T.ag30 rfl (fun K' hK' => ?_)
    simp (disch := omega) only [l0, l1, l2, l3, l4, l5, l6, oP_some, Nat.add_zero]
    refine hK' _ ?_; clear hK' K'
    refine S_mv rfl ?_
    refine S_call T.hb51 rfl ?_
    refine FC.mono (at_spec hk X s p wxk.t (i : Int)) ?_
    rintro v' h' ⟨rfl, rfl⟩
    refine S_as rfl ?_
    refine S_nil (hK9 _ _ (V_keep [0, 4, 5] (by simp only [proj, lk, reduceIte, Nat.reduceEqDiff]; rfl) ?_)); clear hK9
    refine V_sr T.mix (by kernel_rfl) (fun K10 hK10 => ?_)
    refine S_mv rfl ?_
    refine S_call T.hb52 rfl ?_
    refine FC.mono (var_spec _ ((atL s.L (i : Int))) (by omega) (by omega)) ?_
    rintro v' h' ⟨rfl, rfl⟩
    refine S_as rfl ?_
    refine S_nil (hK10 _ _ (V_keep [0, 4, 5, 6] (by simp only [proj, lk, reduceIte, Nat.reduceEqDiff]; rfl) ?_)); clear hK10
    refine V_srM #[0, 1, 2, 3, 4, 5, 6, 7] [0, 1, 2, 3, 4] 5 [6, 7] T.mix (by kernel_rfl) rfl ⟨rfl, rfl⟩ (fun K11 hK11 => ?_)
    refine S_mv rfl ?_
    refine S_nc rfl ?_
    first | refine S_fa0 T.f107_2 rfl ?_ | refine S_fa T.f107_2 rfl ?_
    refine S_ldK T.ag51 rfl (fun K' hK' => ?_)
    simp (disch := omega) only [l0, l1, l2, l3, l4, l5, l6, oP_some, Nat.add_zero]
    refine hK' _ ?_; clear hK' K'
    refine S_mv rfl ?_
    refine S_nil ?_
    refine SM_call T.hb142 rfl ?_
    refine FC.mono (lbit_spec hk (atL s.L (i : Int)).natAbs (by omega)) ?_
    rintro v' h' ⟨rfl, rfl⟩
    first | refine ⟨Grows.refl _, ?_⟩ | refine ⟨Grows.of_ext (by assumption), ?_⟩
    refine S_nand (stk.seen) (2 ^ (atL s.L (i : Int)).natAbs) _ rfl rfl rfl rfl rfl (t13 okk.s) (t13 (p13 (by omega))) ?_
    refine S_bin rfl rfl rfl ?_
    refine S_nil (hK11 _ _ (V_keep [0, 4, 5, 6, 37] (by simp only [proj, lk, reduceIte, Nat.reduceEqDiff]; rfl) ?_)); clear hK11
    refine V_condp rfl (fun c101 => ?_) (fun c101 => ?_)
    · skip
      have hsb : stk.seen.testBit (atL s.L (i : Int)).natAbs = true := and_ne.1 (by omega)
      rw [if_pos hsb] at hcq
      refine V_sr T.mix (by kernel_rfl) (fun K12 hK12 => ?_)
      refine S_mv rfl ?_
      refine S_nc rfl ?_
      first | refine S_fa0 T.f107_0 rfl ?_ | refine S_fa T.f107_0 rfl ?_
      refine S_ldK T.ag30 rfl (fun K' hK' => ?_)
      simp (disch := omega) only [l0, l1, l2, l3, l4, l5, l6, oP_some, Nat.add_zero]
      refine hK' _ ?_; clear hK' K'
      refine S_mv rfl ?_
      refine S_call T.hb54 rfl ?_
      refine FC.mono (levelof_spec hk X s p wxk.t ((atL s.L (i : Int)).natAbs : Int)) ?_
      rintro v' h' ⟨rfl, rfl⟩
      refine S_as rfl ?_
      refine S_nil (hK12 _ _ (V_keep [0, 4, 5, 6, 7] (by simp only [proj, lk, reduceIte, Nat.reduceEqDiff]; rfl) ?_)); clear hK12
      refine V_sr T.mix (by kernel_rfl) (fun K13 hK13 => ?_)
      refine S_mv rfl ?_
      refine S_mv rfl ?_
      refine S_nc rfl ?_
      first | refine S_fa0 T.f107_6 rfl ?_ | refine S_fa T.f107_6 rfl ?_
      refine S_ldK T.ag3 rfl (fun K' hK' => ?_)
      simp (disch := omega) only [l0, l1, l2, l3, l4, l5, l6, oP_some, Nat.add_zero]
      refine hK' _ ?_; clear hK' K'
      refine S_bin rfl rfl rfl ?_
      refine S_nil (hK13 _ _ (V_keep [0, 4, 5, 6, 49] (by simp only [proj, lk, reduceIte, Nat.reduceEqDiff]; rfl) ?_)); clear hK13
      refine V_condp rfl (fun c103 => ?_) (fun c103 => ?_)
      · skip
        rw [if_pos c103] at hcq
        refine V_sr T.mix (by kernel_rfl) (fun K14 hK14 => ?_)
        refine S_mv rfl ?_
        refine S_nc rfl ?_
        first | refine S_fa0 T.f107_5 rfl ?_ | refine S_fa T.f107_5 rfl ?_
        refine S_ldK T.ag3 rfl (fun K' hK' => ?_)
        simp (disch := omega) only [l0, l1, l2, l3, l4, l5, l6, oP_some, Nat.add_zero]
        refine hK' _ ?_; clear hK' K'
        first | refine S_sub rfl rfl (by omega) (by omega) ?_ | refine S_bin rfl rfl rfl ?_
        refine S_nc rfl ?_
        first | refine S_fa0 T.f107_5 rfl ?_ | refine S_fa T.f107_5 rfl ?_
        refine S_st T.sz3 rfl rfl rfl rfl (by simp (disch := omega) only [hlok]) ?_
        generalize hh : putH _ _ _ = h1
        have hBh1 : LB h1 K C X { stk with op := stk.op - 1 } (lv) := by rw [← hh]; exact (hBk).put 5 _
        have hEh1 : Ext (fun x => x = K) hk h1 := by rw [← hh]; exact Ext.put _ _ rfl
        clear hh
        try clear l0 l1 l2 l3 l4 l5 l6 hlok
        obtain ⟨l0, l1, l2, l3, l4, l5, l6, hlok⟩ := lq (hBh1)
        have wx1 := wxk.ext hEh1 (fun e => nk.1 e.symm) (fun e => nk.2 e.symm)
        refine S_nil (hK14 _ _ (V_keep [0, 4, 5, 6] (by simp only [proj, lk, reduceIte, Nat.reduceEqDiff]; rfl) ?_)); clear hK14
        refine V_seq (fun K15 hK15 => ?_)
        refine V_sr T.mix (by kernel_rfl) (fun K16 hK16 => ?_)
        refine S_mv rfl ?_
        refine S_nc rfl ?_
        first | refine S_fa0 T.f107_5 rfl ?_ | refine S_fa T.f107_5 rfl ?_
        refine S_ldK T.ag3 rfl (fun K' hK' => ?_)
        simp (disch := omega) only [l0, l1, l2, l3, l4, l5, l6, oP_some, Nat.add_zero]
        refine hK' _ ?_; clear hK' K'
        refine S_bin rfl rfl rfl ?_
        refine S_nil (hK16 _ _ (V_keep [0, 4, 5, 6, 61] (by simp only [proj, lk, reduceIte, Nat.reduceEqDiff]; rfl) ?_)); clear hK16
        refine V_condp rfl (fun c105 => ?_) (fun c105 => ?_)
        · skip
          rw [if_pos c105] at hcq
          refine V_sr T.mix (by kernel_rfl) (fun K17 hK17 => ?_)
          refine S_mv rfl ?_
          refine S_as rfl ?_
          refine S_nil (hK17 _ _ (V_keep [2] (by simp only [proj, lk, reduceIte, Nat.reduceEqDiff]; rfl) ?_)); clear hK17
          refine V_ret ?_
          refine hR _ _ (ret1 rfl rfl ?_)
          exact ⟨by rw [← hcq], by rw [← hcq]; exact hBh1, hEk.trans hEh1⟩
        · skip
          rw [if_neg c105] at hcq
          refine V_skipk [0, 4, 6] (by simp only [proj, lk, reduceIte, Nat.reduceEqDiff]; rfl) ?_
          refine hK15 _ _ ?_; clear hK15
          refine V_sr T.mix (by kernel_rfl) (fun K18 hK18 => ?_)
          refine S_mv rfl ?_
          refine S_nc rfl ?_
          first | refine S_fa0 T.f107_0 rfl ?_ | refine S_fa T.f107_0 rfl ?_
          refine S_ldK T.ag30 rfl (fun K' hK' => ?_)
          simp (disch := omega) only [l0, l1, l2, l3, l4, l5, l6, oP_some, Nat.add_zero]
          refine hK' _ ?_; clear hK' K'
          refine S_mv rfl ?_
          refine S_call T.hb53 rfl ?_
          refine FC.mono (reason_spec h1 X s p wx1.t ((atL s.L (i : Int)).natAbs : Int)) ?_
          rintro v' h' ⟨rfl, rfl⟩
          refine S_as rfl ?_
          refine S_nil (hK18 _ _ (V_keep [0, 4, 8] (by simp only [proj, lk, reduceIte, Nat.reduceEqDiff]; rfl) ?_)); clear hK18
          refine V_sr T.mix (by kernel_rfl) (fun K19 hK19 => ?_)
          refine S_mv rfl ?_
          refine S_nc rfl ?_
          first | refine S_fa0 T.f107_1 rfl ?_ | refine S_fa T.f107_1 rfl ?_
          refine S_ldK T.ag31 rfl (fun K' hK' => ?_)
          simp (disch := omega) only [l0, l1, l2, l3, l4, l5, l6, oP_some, Nat.add_zero]
          refine hK' _ ?_; clear hK' K'
          refine S_mv rfl ?_
          refine S_call T.hb15 rfl ?_
          refine FC.mono (wclause_spec h1 C X W cl s p wx1 (reaV s.L ((atL s.L (i : Int)).natAbs : Int))) ?_
          rintro v' h2 ⟨ra, rfl, hIr, _, hrb, hE2⟩
          have hB2 := hBh1.ext hE2 (fun f => f)
          have wx2 := wx1.ext hE2 (fun f => f) (fun f => f)
          have hs2 := hEh1.1
          refine S_mv rfl ?_
          refine S_ex rfl rfl ?_
          refine S_ex rfl rfl ?_
          refine S_as rfl ?_
          refine S_as rfl ?_
          refine S_nil (hK19 _ _ (V_keep [0, 4, 9, 10] (by simp only [proj, lk, reduceIte, Nat.reduceEqDiff]; rfl) ?_)); clear hK19
          refine V_seq (fun K20 hK20 => ?_)
          refine V_sr T.mix (by kernel_rfl) (fun K21 hK21 => ?_)
          refine S_mv rfl ?_
          refine S_bin rfl rfl rfl ?_
          refine S_nil (hK21 _ _ (V_keep [0, 4, 9, 79] (by simp only [proj, lk, reduceIte, Nat.reduceEqDiff]; rfl) ?_)); clear hK21
          refine V_condp rfl (fun c110 => ?_) (fun c110 => ?_)
          · skip
            have hlv : liveC cl (reaV s.L ((atL s.L (i : Int)).natAbs : Int)) = none := by
              cases e : liveC cl (reaV s.L ((atL s.L (i : Int)).natAbs : Int)) with
              | none => rfl
              | some rc => exact absurd (by rw [(clF_some e).2]; rfl) c110
            rw [hlv] at hcq
            refine V_sr T.mix (by kernel_rfl) (fun K22 hK22 => ?_)
            refine S_as rfl ?_
            refine S_nil (hK22 _ _ (V_keep [2] (by simp only [proj, lk, reduceIte, Nat.reduceEqDiff]; rfl) ?_)); clear hK22
            refine V_ret ?_
            refine hR _ _ (ret1 rfl rfl ?_)
            exact ⟨by rw [← hcq], by rw [← hcq]; exact hB2, (hEk.trans hEh1).trans (hE2.mono fun _ f => f.elim)⟩
          · skip
            obtain ⟨rc, hlv⟩ : ∃ rc, liveC cl (reaV s.L ((atL s.L (i : Int)).natAbs : Int)) = some rc := by
              cases e : liveC cl (reaV s.L ((atL s.L (i : Int)).natAbs : Int)) with
              | none => exact absurd (by rw [(clF_none e).2]; decide) c110
              | some rc => exact ⟨rc, rfl⟩
            have hnr := nrm_liveC wx.i hlv
            rw [hlv] at hcq
            simp only [] at hcq
            refine V_skipk [0, 4, 9] (by simp only [proj, lk, reduceIte, Nat.reduceEqDiff]; rfl) ?_
            refine hK20 _ _ ?_; clear hK20
            refine V_sr T.mix (by kernel_rfl) (fun K23 hK23 => ?_)
            refine S_mv rfl ?_
            refine S_mv rfl ?_
            refine S_call T.hb124 rfl ?_
            rw [clF_some hlv |>.1] at hIr ⊢
            refine FC.mono (markall_spec h2 K C X _ lv hB2 W cl s p wx2 nk ra _ rc hIr hnr (fun b e z => by have h9 := hrb b e; have h8 := hBk.lt; omega) ⟨okk.s, okk.p, okk.n⟩ (by simp only []; omega)) ?_
            rintro v' h3 ⟨rfl, hB3, hE3⟩
            have hmo := markA_ok (s := s) (lv := lv) (st := { stk with op := stk.op - 1 }) (c := rc) ⟨okk.s, okk.p, okk.n⟩ (fun x hx => by have h9 := hnr.1 x hx; unfold gd at h9; omega)
            have hrl := hnr.len
            refine S_notb rfl ?_
            refine S_nil (hK23 _ _ (V_keep [0, 4, 83] (by simp only [proj, lk, reduceIte, Nat.reduceEqDiff]; rfl) ?_)); clear hK23
            refine V_condb rfl (fun c113 => ?_) (fun c113 => ?_)
            · skip
              refine V_sr T.mix (by kernel_rfl) (fun K24 hK24 => ?_)
              refine S_as rfl ?_
              refine S_nil (hK24 _ _ (V_keep [2] (by simp only [proj, lk, reduceIte, Nat.reduceEqDiff]; rfl) ?_)); clear hK24
              refine V_ret ?_
              refine hR _ _ (ret1 rfl rfl ?_)
              have hmf : (markA s lv { stk with op := stk.op - 1 } rc).2 = false := by simpa using c113
              rw [if_neg (by rw [hmf]; decide)] at hcq
              exact ⟨by rw [← hcq], by rw [← hcq]; exact hB3, (hEk.trans hEh1).trans ((hE2.mono fun _ f => f.elim).trans hE3)⟩
            · skip
              refine V_skipk [0, 4] (by simp only [proj, lk, reduceIte, Nat.reduceEqDiff]; rfl) ?_
              refine hK8 _ _ ?_; clear hK8
              refine V_reg T.mix (by kernel_rfl) ?_
              refine S_mv rfl ?_
              first | refine S_sub rfl rfl (by omega) (by omega) ?_ | refine S_bin rfl rfl rfl ?_
              refine S_as rfl ?_
              refine S_nilk [0, 4] (by simp only [proj, lk, reduceIte, Nat.reduceEqDiff]; rfl) ?_
              rw [if_pos (by simpa using c113)] at hcq
              exact hK5 _ _ ⟨_, by omega, i, h3, _, by omega, hB3, hmo.1, (by simp only [] at hmo; omega), hcq, (hEk.trans hEh1).trans ((hE2.mono fun _ f => f.elim).trans hE3), rfl, by rw [show ((i : Int) - 1) = (i : Int) - 1 from rfl], rfl⟩
      · skip
        rw [if_neg c103] at hcq
        refine V_skipk [0, 4] (by simp only [proj, lk, reduceIte, Nat.reduceEqDiff]; rfl) ?_
        refine hK8 _ _ ?_; clear hK8
        refine V_reg T.mix (by kernel_rfl) ?_
        refine S_mv rfl ?_
        first | refine S_sub rfl rfl (by omega) (by omega) ?_ | refine S_bin rfl rfl rfl ?_
        refine S_as rfl ?_
        refine S_nilk [0, 4] (by simp only [proj, lk, reduceIte, Nat.reduceEqDiff]; rfl) ?_
        exact hK5 _ _ ⟨_, by omega, i, hk, stk, by omega, hBk, okk, by omega, hcq, hEk, rfl, rfl, rfl⟩
    · skip
      have hsb : ¬ stk.seen.testBit (atL s.L (i : Int)).natAbs = true := fun e => by have h9 := and_ne.2 e; omega
      rw [if_neg hsb] at hcq
      refine V_skipk [0, 4] (by simp only [proj, lk, reduceIte, Nat.reduceEqDiff]; rfl) ?_
      refine hK8 _ _ ?_; clear hK8
      refine V_reg T.mix (by kernel_rfl) ?_
      refine S_mv rfl ?_
      first | refine S_sub rfl rfl (by omega) (by omega) ?_ | refine S_bin rfl rfl rfl ?_
      refine S_as rfl ?_
      refine S_nilk [0, 4] (by simp only [proj, lk, reduceIte, Nat.reduceEqDiff]; rfl) ?_
      exact hK5 _ _ ⟨_, by omega, i, hk, stk, by omega, hBk, okk, by omega, hcq, hEk, rfl, rfl, rfl⟩
  · skip
    refine V_exitk [] rfl (by simp only [proj, lk, reduceIte, Nat.reduceEqDiff]; rfl) ?_
    refine hK3 _ _ ?_; clear hK3
    refine V_sr T.mix (by kernel_rfl) (fun K25 hK25 => ?_)
    refine S_as rfl ?_
    refine S_nil (hK25 _ _ (V_keep [2] (by simp only [proj, lk, reduceIte, Nat.reduceEqDiff]; rfl) ?_)); clear hK25
    refine V_ret ?_
    refine hR _ _ (ret1 rfl rfl ?_)
    have hj0 : j = 0 := by omega
    subst hj0
    rw [show climbF s cl lv 0 stk = (stk, 0) from rfl] at hcq
    exact ⟨by rw [← hcq], by rw [← hcq]; exact hBk, hEk⟩
set_option maxHeartbeats 1600000 in
theorem lspare_spec (h : Heap) (K C X : Nat) (st : LS) (lv : Int) (hB : LB h K C X st lv) (W : WC) (cl : Nat → Option (List Int)) (s : TS) (p : Nat) (wx : WX h C X W cl s p) (nk : K ≠ C ∧ K ≠ X) (q : Int) (hq : -12 ≤ q ∧ q ≤ 12) (ok : st.ok) :
    FC Tryz.prog 144 (#[.pointer (some ⟨K, 0, none⟩), .int .i64 q] : Array Value) h fun v h' => v = .bool (spareF s cl st q) ∧ Ext (fun _ => False) h h' := by
  try clear l0 l1 l2 l3 l4 l5 l6 hlok
  obtain ⟨l0, l1, l2, l3, l4, l5, l6, hlok⟩ := lq (hB)
  refine FC_of [(0, .pointer (some ⟨K, 0, none⟩)), (1, .int .i64 q)] Tryz.func144 rfl Tryz.ntmps144 (by simp) rfl (fun R hR => ?_)
  refine V_sr T.mix (by kernel_rfl) (fun K1 hK1 => ?_)
  refine S_as rfl ?_
  refine S_nil (hK1 _ _ (V_keep [0, 1] (by simp only [proj, lk, reduceIte, Nat.reduceEqDiff]; rfl) ?_)); clear hK1
  refine V_sr T.mix (by kernel_rfl) (fun K2 hK2 => ?_)
  refine S_mv rfl ?_
  refine S_call T.hb52 rfl ?_
  refine FC.mono (var_spec _ (q) (by omega) (by omega)) ?_
  rintro v' h' ⟨rfl, rfl⟩
  refine S_as rfl ?_
  refine S_nil (hK2 _ _ (V_keep [0, 1, 5] (by simp only [proj, lk, reduceIte, Nat.reduceEqDiff]; rfl) ?_)); clear hK2
  refine V_sr T.mix (by kernel_rfl) (fun K3 hK3 => ?_)
  refine S_mv rfl ?_
  refine S_nc rfl ?_
  first | refine S_fa0 T.f107_0 rfl ?_ | refine S_fa T.f107_0 rfl ?_
  refine S_ldK T.ag30 rfl (fun K' hK' => ?_)
  simp (disch := omega) only [l0, l1, l2, l3, l4, l5, l6, oP_some, Nat.add_zero]
  refine hK' _ ?_; clear hK' K'
  refine S_mv rfl ?_
  refine S_call T.hb53 rfl ?_
  refine FC.mono (reason_spec h X s p wx.t (q.natAbs : Int)) ?_
  rintro v' h' ⟨rfl, rfl⟩
  refine S_as rfl ?_
  refine S_nil (hK3 _ _ (V_keep [0, 1, 6] (by simp only [proj, lk, reduceIte, Nat.reduceEqDiff]; rfl) ?_)); clear hK3
  refine V_sr T.mix (by kernel_rfl) (fun K4 hK4 => ?_)
  refine S_mv rfl ?_
  refine S_nc rfl ?_
  first | refine S_fa0 T.f107_1 rfl ?_ | refine S_fa T.f107_1 rfl ?_
  refine S_ldK T.ag31 rfl (fun K' hK' => ?_)
  simp (disch := omega) only [l0, l1, l2, l3, l4, l5, l6, oP_some, Nat.add_zero]
  refine hK' _ ?_; clear hK' K'
  refine S_mv rfl ?_
  refine S_call T.hb15 rfl ?_
  refine FC.mono (wclause_spec h C X W cl s p wx (reaV s.L (q.natAbs : Int))) ?_
  rintro v' h1 ⟨ra, rfl, hIr, _, hrb, hE1⟩
  have hB1 := hB.ext hE1 (fun f => f)
  have wx1 := wx.ext hE1 (fun f => f) (fun f => f)
  try clear l0 l1 l2 l3 l4 l5 l6 hlok
  obtain ⟨l0, l1, l2, l3, l4, l5, l6, hlok⟩ := lq (hB1)
  refine S_mv rfl ?_
  refine S_ex rfl rfl ?_
  refine S_ex rfl rfl ?_
  refine S_as rfl ?_
  refine S_as rfl ?_
  refine S_nil (hK4 _ _ (V_keep [0, 1, 7, 8] (by simp only [proj, lk, reduceIte, Nat.reduceEqDiff]; rfl) ?_)); clear hK4
  refine V_seq (fun K5 hK5 => ?_)
  refine V_sr T.mix (by kernel_rfl) (fun K6 hK6 => ?_)
  refine S_mv rfl ?_
  refine S_bin rfl rfl rfl ?_
  refine S_nil (hK6 _ _ (V_keep [0, 1, 7, 31] (by simp only [proj, lk, reduceIte, Nat.reduceEqDiff]; rfl) ?_)); clear hK6
  refine V_condp rfl (fun c12 => ?_) (fun c12 => ?_)
  · skip
    have hlv : liveC cl (reaV s.L (q.natAbs : Int)) = none := by
      cases e : liveC cl (reaV s.L (q.natAbs : Int)) with
      | none => rfl
      | some rc => exact absurd (by rw [(clF_some e).2]; rfl) c12
    refine V_sr T.mix (by kernel_rfl) (fun K7 hK7 => ?_)
    refine S_as rfl ?_
    refine S_nil (hK7 _ _ (V_keep [4] (by simp only [proj, lk, reduceIte, Nat.reduceEqDiff]; rfl) ?_)); clear hK7
    refine V_ret ?_
    refine hR _ _ (ret1 rfl rfl ?_)
    exact ⟨by unfold spareF; rw [hlv], hE1⟩
  · skip
    obtain ⟨rc, hlv⟩ : ∃ rc, liveC cl (reaV s.L (q.natAbs : Int)) = some rc := by
      cases e : liveC cl (reaV s.L (q.natAbs : Int)) with
      | none => exact absurd (by rw [(clF_none e).2]; decide) c12
      | some rc => exact ⟨rc, rfl⟩
    have hnr := nrm_liveC wx.i hlv
    have hln := hnr.len
    rw [(clF_some hlv).1] at hIr ⊢
    refine V_skipk [0, 1, 7] (by simp only [proj, lk, reduceIte, Nat.reduceEqDiff]; rfl) ?_
    refine hK5 _ _ ?_; clear hK5
    refine V_seq (fun K8 hK8 => ?_)
    refine V_sr T.mix (by kernel_rfl) (fun K9 hK9 => ?_)
    refine S_as rfl ?_
    refine S_nil (hK9 _ _ (V_keep [0, 1, 7, 9] (by simp only [proj, lk, reduceIte, Nat.reduceEqDiff]; rfl) ?_)); clear hK9
    refine V_block ?_
    refine V_loop (fun m l h' => ∃ (i : Nat), (i ≤ rc.length) ∧ ((rc.take i).all (fun x => decide (x = -q) || holdsF st x || decide (levV s.L (x.natAbs : Int) = 0)) = true) ∧ m = rc.length - i ∧ l = [(0, .pointer (some ⟨K, 0, none⟩)), (1, .int .i64 q), (7, .slice ra rc.length rc.length), (9, .int .i64 (i : Int))] ∧ h1 = h') _ ⟨0, by omega, by simp, rfl, rfl, rfl⟩ ?_
    rintro m l h' ⟨i, hi, hal, rfl, rfl, rfl⟩ K10 hK10
    refine V_seq (fun K11 hK11 => ?_)
    refine V_sr T.mix (by kernel_rfl) (fun K12 hK12 => ?_)
    refine S_mv rfl ?_
    refine S_mv rfl ?_
    refine S_lenl T.el49 rfl ?_
    refine S_bin rfl rfl rfl ?_
    refine S_nil (hK12 _ _ (V_keep [0, 1, 7, 9, 35] (by simp only [proj, lk, reduceIte, Nat.reduceEqDiff]; rfl) ?_)); clear hK12
    refine V_condp rfl (fun c15 => ?_) (fun c15 => ?_)
    · skip
      obtain ⟨bb, hbe, _, _, _⟩ := hIr.get (by omega)
      subst hbe
      have hgr := gd_getD hnr.1 (show i < rc.length by omega)
      unfold gd at hgr
      refine V_skipk [0, 1, 7, 9] (by simp only [proj, lk, reduceIte, Nat.reduceEqDiff]; rfl) ?_
      refine hK11 _ _ ?_; clear hK11
      refine V_seq (fun K13 hK13 => ?_)
      refine V_block ?_
      refine V_sr T.mix (by kernel_rfl) (fun K14 hK14 => ?_)
      refine S_mv rfl ?_
      refine S_mv rfl ?_
      first | refine S_ixn T.el49 rfl rfl (by omega) ?_ | refine S_ix1 T.el49 rfl rfl (by omega) (by omega) ?_ | refine S_ix T.el49 rfl rfl (by omega) (by omega) ?_
      refine S_ldK T.ag3 rfl (fun K' hK' => ?_)
      simp (disch := omega) only [hIr.at, oP_some, Nat.add_zero]
      refine hK' _ ?_; clear hK' K'
      refine S_as rfl ?_
      refine S_nil (hK14 _ _ (V_keep [0, 1, 7, 9, 10] (by simp only [proj, lk, reduceIte, Nat.reduceEqDiff]; rfl) ?_)); clear hK14
      refine V_sr T.mix (by kernel_rfl) (fun K15 hK15 => ?_)
      refine S_mv rfl ?_
      refine S_mv rfl ?_
      first | refine S_neg rfl (by omega) (by omega) ?_ | refine S_un rfl rfl ?_
      refine S_bin rfl rfl rfl ?_
      refine S_nil (hK15 _ _ (V_keep [0, 1, 7, 9, 10, 45] (by simp only [proj, lk, reduceIte, Nat.reduceEqDiff]; rfl) ?_)); clear hK15
      refine V_condp rfl (fun c17 => ?_) (fun c17 => ?_)
      · skip
        refine V_sr T.mix (by kernel_rfl) (fun K16 hK16 => ?_)
        refine S_mv rfl ?_
        refine S_mv rfl ?_
        refine S_call T.hb147 rfl ?_
        refine FC.mono (lholds_spec h1 K C X st lv hB1 (rc.getD i 0) (by omega) ok) ?_
        rintro v' h' ⟨rfl, rfl⟩
        refine S_notb rfl ?_
        refine S_nil (hK16 _ _ (V_keep [0, 1, 7, 9, 10, 49] (by simp only [proj, lk, reduceIte, Nat.reduceEqDiff]; rfl) ?_)); clear hK16
        refine V_condb rfl (fun c18 => ?_) (fun c18 => ?_)
        · skip
          refine V_sr T.mix (by kernel_rfl) (fun K17 hK17 => ?_)
          refine S_mv rfl ?_
          refine S_call T.hb52 rfl ?_
          refine FC.mono (var_spec _ ((rc.getD i 0)) (by omega) (by omega)) ?_
          rintro v' h' ⟨rfl, rfl⟩
          refine S_as rfl ?_
          refine S_nil (hK17 _ _ (V_keep [0, 1, 7, 9, 11] (by simp only [proj, lk, reduceIte, Nat.reduceEqDiff]; rfl) ?_)); clear hK17
          refine V_sr T.mix (by kernel_rfl) (fun K18 hK18 => ?_)
          refine S_mv rfl ?_
          refine S_nc rfl ?_
          first | refine S_fa0 T.f107_0 rfl ?_ | refine S_fa T.f107_0 rfl ?_
          refine S_ldK T.ag30 rfl (fun K' hK' => ?_)
          simp (disch := omega) only [l0, l1, l2, l3, l4, l5, l6, oP_some, Nat.add_zero]
          refine hK' _ ?_; clear hK' K'
          refine S_mv rfl ?_
          refine S_call T.hb54 rfl ?_
          refine FC.mono (levelof_spec h1 X s p wx1.t ((rc.getD i 0).natAbs : Int)) ?_
          rintro v' h' ⟨rfl, rfl⟩
          refine S_as rfl ?_
          refine S_nil (hK18 _ _ (V_keep [0, 1, 7, 9, 12] (by simp only [proj, lk, reduceIte, Nat.reduceEqDiff]; rfl) ?_)); clear hK18
          refine V_sr T.mix (by kernel_rfl) (fun K19 hK19 => ?_)
          refine S_mv rfl ?_
          refine S_bin rfl rfl rfl ?_
          refine S_nil (hK19 _ _ (V_keep [0, 1, 7, 9, 59] (by simp only [proj, lk, reduceIte, Nat.reduceEqDiff]; rfl) ?_)); clear hK19
          refine V_condp rfl (fun c21 => ?_) (fun c21 => ?_)
          · skip
            refine V_sr T.mix (by kernel_rfl) (fun K20 hK20 => ?_)
            refine S_as rfl ?_
            refine S_nil (hK20 _ _ (V_keep [4] (by simp only [proj, lk, reduceIte, Nat.reduceEqDiff]; rfl) ?_)); clear hK20
            refine V_ret ?_
            refine hR _ _ (ret1 rfl rfl ?_)
            have hf2 : (fun x => decide (x = -q) || holdsF st x || decide (levV s.L (x.natAbs : Int) = 0)) (rc.getD i 0) = false := by simp only []; rw [decide_eq_false c17, show holdsF st (rc.getD i 0) = false by simpa using c18, decide_eq_false c21]; rfl
            exact ⟨by unfold spareF; rw [hlv]; simp only []; rw [all_stop (show i < rc.length by omega) hf2], hE1⟩
          · skip
            refine V_skipk [0, 1, 7, 9] (by simp only [proj, lk, reduceIte, Nat.reduceEqDiff]; rfl) ?_
            refine hK13 _ _ ?_; clear hK13
            refine V_reg T.mix (by kernel_rfl) ?_
            refine S_mv rfl ?_
            first | refine S_add rfl rfl (by omega) (by omega) ?_ | refine S_bin rfl rfl rfl ?_
            refine S_as rfl ?_
            refine S_nilk [0, 1, 7, 9] (by simp only [proj, lk, reduceIte, Nat.reduceEqDiff]; rfl) ?_
            exact hK10 _ _ ⟨_, by omega, i + 1, by omega, by rw [all_snoc (by omega), hal]; simp only [Bool.true_and]; rw [decide_eq_true (show levV s.L ((rc.getD i 0).natAbs : Int) = 0 by omega), Bool.or_true], rfl, rfl, rfl⟩
        · skip
          refine V_skipk [0, 1, 7, 9] (by simp only [proj, lk, reduceIte, Nat.reduceEqDiff]; rfl) ?_
          refine hK13 _ _ ?_; clear hK13
          refine V_reg T.mix (by kernel_rfl) ?_
          refine S_mv rfl ?_
          first | refine S_add rfl rfl (by omega) (by omega) ?_ | refine S_bin rfl rfl rfl ?_
          refine S_as rfl ?_
          refine S_nilk [0, 1, 7, 9] (by simp only [proj, lk, reduceIte, Nat.reduceEqDiff]; rfl) ?_
          exact hK10 _ _ ⟨_, by omega, i + 1, by omega, by rw [all_snoc (by omega), hal]; simp only [Bool.true_and]; rw [show holdsF st (rc.getD i 0) = true by simpa using c18, Bool.or_true, Bool.true_or], rfl, rfl, rfl⟩
      · skip
        refine V_skipk [0, 1, 7, 9] (by simp only [proj, lk, reduceIte, Nat.reduceEqDiff]; rfl) ?_
        refine hK13 _ _ ?_; clear hK13
        refine V_reg T.mix (by kernel_rfl) ?_
        refine S_mv rfl ?_
        first | refine S_add rfl rfl (by omega) (by omega) ?_ | refine S_bin rfl rfl rfl ?_
        refine S_as rfl ?_
        refine S_nilk [0, 1, 7, 9] (by simp only [proj, lk, reduceIte, Nat.reduceEqDiff]; rfl) ?_
        exact hK10 _ _ ⟨_, by omega, i + 1, by omega, by rw [all_snoc (by omega), hal]; simp only [Bool.true_and]; rw [decide_eq_true (show (rc.getD i 0) = -q by omega), Bool.true_or, Bool.true_or], rfl, rfl, rfl⟩
    · skip
      refine V_exitk [] rfl (by simp only [proj, lk, reduceIte, Nat.reduceEqDiff]; rfl) ?_
      refine hK8 _ _ ?_; clear hK8
      refine V_sr T.mix (by kernel_rfl) (fun K21 hK21 => ?_)
      refine S_as rfl ?_
      refine S_nil (hK21 _ _ (V_keep [4] (by simp only [proj, lk, reduceIte, Nat.reduceEqDiff]; rfl) ?_)); clear hK21
      refine V_ret ?_
      refine hR _ _ (ret1 rfl rfl ?_)
      rw [show i = rc.length by omega, List.take_length] at hal
      exact ⟨by unfold spareF; rw [hlv]; simp only []; rw [hal], hE1⟩
set_option maxHeartbeats 400000 in
theorem litof_spec (h : Heap) (K C X : Nat) (st : LS) (lv : Int) (hB : LB h K C X st lv) (v : Nat) (hv : v ≤ 12) (ok : st.ok) :
    FC Tryz.prog 143 (#[.pointer (some ⟨K, 0, none⟩), .int .i64 (v : Int)] : Array Value) h fun rv h' => rv = .int .i64 (litOf st v) ∧ h = h' := by
  try clear l0 l1 l2 l3 l4 l5 l6 hlok
  obtain ⟨l0, l1, l2, l3, l4, l5, l6, hlok⟩ := lq (hB)
  refine FC_of [(0, .pointer (some ⟨K, 0, none⟩)), (1, .int .i64 (v : Int))] Tryz.func143 rfl Tryz.ntmps143 (by simp) rfl (fun R hR => ?_)
  refine V_sr T.mix (by kernel_rfl) (fun K1 hK1 => ?_)
  refine S_as rfl ?_
  refine S_nil (hK1 _ _ (V_keep [0, 1] (by simp only [proj, lk, reduceIte, Nat.reduceEqDiff]; rfl) ?_)); clear hK1
  refine V_sr T.mix (by kernel_rfl) (fun K2 hK2 => ?_)
  refine S_mv rfl ?_
  refine S_call T.hb142 rfl ?_
  refine FC.mono (lbit_spec h v hv) ?_
  rintro v' h' ⟨rfl, rfl⟩
  refine S_as rfl ?_
  refine S_nil (hK2 _ _ (V_keep [0, 1, 5] (by simp only [proj, lk, reduceIte, Nat.reduceEqDiff]; rfl) ?_)); clear hK2
  refine V_seq (fun K3 hK3 => ?_)
  refine V_sr T.mix (by kernel_rfl) (fun K4 hK4 => ?_)
  refine S_mv rfl ?_
  refine S_nc rfl ?_
  first | refine S_fa0 T.f107_4 rfl ?_ | refine S_fa T.f107_4 rfl ?_
  refine S_ldK T.ag51 rfl (fun K' hK' => ?_)
  simp (disch := omega) only [l0, l1, l2, l3, l4, l5, l6, oP_some, Nat.add_zero]
  refine hK' _ ?_; clear hK' K'
  refine S_mv rfl ?_
  refine S_nand (st.neg) (2 ^ v) _ rfl rfl rfl rfl rfl (t13 ok.n) (t13 (p13 (by omega))) ?_
  refine S_bin rfl rfl rfl ?_
  refine S_nil (hK4 _ _ (V_keep [0, 1, 5, 14] (by simp only [proj, lk, reduceIte, Nat.reduceEqDiff]; rfl) ?_)); clear hK4
  refine V_condp rfl (fun c33 => ?_) (fun c33 => ?_)
  · skip
    refine V_sr T.mix (by kernel_rfl) (fun K5 hK5 => ?_)
    refine S_mv rfl ?_
    first | refine S_neg rfl (by omega) (by omega) ?_ | refine S_un rfl rfl ?_
    refine S_as rfl ?_
    refine S_nil (hK5 _ _ (V_keep [4] (by simp only [proj, lk, reduceIte, Nat.reduceEqDiff]; rfl) ?_)); clear hK5
    refine V_ret ?_
    refine hR _ _ (ret1 rfl rfl ?_)
    exact ⟨by unfold litOf; rw [if_pos (and_ne.1 (by omega))], rfl⟩
  · skip
    refine V_skipk [0, 1, 5] (by simp only [proj, lk, reduceIte, Nat.reduceEqDiff]; rfl) ?_
    refine hK3 _ _ ?_; clear hK3
    refine V_seq (fun K6 hK6 => ?_)
    refine V_sr T.mix (by kernel_rfl) (fun K7 hK7 => ?_)
    refine S_mv rfl ?_
    refine S_nc rfl ?_
    first | refine S_fa0 T.f107_3 rfl ?_ | refine S_fa T.f107_3 rfl ?_
    refine S_ldK T.ag51 rfl (fun K' hK' => ?_)
    simp (disch := omega) only [l0, l1, l2, l3, l4, l5, l6, oP_some, Nat.add_zero]
    refine hK' _ ?_; clear hK' K'
    refine S_mv rfl ?_
    refine S_nand (st.pos) (2 ^ v) _ rfl rfl rfl rfl rfl (t13 ok.p) (t13 (p13 (by omega))) ?_
    refine S_bin rfl rfl rfl ?_
    refine S_nil (hK7 _ _ (V_keep [1, 23] (by simp only [proj, lk, reduceIte, Nat.reduceEqDiff]; rfl) ?_)); clear hK7
    refine V_condp rfl (fun c36 => ?_) (fun c36 => ?_)
    · skip
      refine V_sr T.mix (by kernel_rfl) (fun K8 hK8 => ?_)
      refine S_mv rfl ?_
      refine S_as rfl ?_
      refine S_nil (hK8 _ _ (V_keep [4] (by simp only [proj, lk, reduceIte, Nat.reduceEqDiff]; rfl) ?_)); clear hK8
      refine V_ret ?_
      refine hR _ _ (ret1 rfl rfl ?_)
      exact ⟨by unfold litOf; rw [if_neg (fun e => by have h9 := and_ne.2 e; omega), if_pos (and_ne.1 (by omega))], rfl⟩
    · skip
      refine V_skipk [] (by simp only [proj, lk, reduceIte, Nat.reduceEqDiff]; rfl) ?_
      refine hK6 _ _ ?_; clear hK6
      refine V_sr T.mix (by kernel_rfl) (fun K9 hK9 => ?_)
      refine S_as rfl ?_
      refine S_nil (hK9 _ _ (V_keep [4] (by simp only [proj, lk, reduceIte, Nat.reduceEqDiff]; rfl) ?_)); clear hK9
      refine V_ret ?_
      refine hR _ _ (ret1 rfl rfl ?_)
      exact ⟨by unfold litOf; rw [if_neg (fun e => by have h9 := and_ne.2 e; omega), if_neg (fun e => by have h9 := and_ne.2 e; omega)], rfl⟩
set_option maxHeartbeats 3200000 in
theorem shrink_spec (h : Heap) (K C X : Nat) (st : LS) (lv : Int) (hB : LB h K C X st lv) (W : WC) (cl : Nat → Option (List Int)) (s : TS) (p : Nat) (wx : WX h C X W cl s p) (nk : K ≠ C ∧ K ≠ X) (a : Int) (ok : st.ok) :
    FC Tryz.prog 127 (#[.pointer (some ⟨K, 0, none⟩), .int .i64 a] : Array Value) h fun rv h' => ∃ xa, rv = .agg #[.int .i64 (0), .slice xa (shF s cl st a 12).1.length (shF s cl st a 12).1.length, .int .i64 (a), .int .i64 ((shF s cl st a 12).2)] ∧ IL h' xa (shF s cl st a 12).1.length (shF s cl st a 12).1 ∧ ((shF s cl st a 12).1.length = 0 → xa = none) ∧ (∀ b, blkA xa = some b → h.size ≤ b) ∧ Ext (fun _ => False) h h' := by
  have hKl := hB.lt
  refine FC_of [(0, .pointer (some ⟨K, 0, none⟩)), (1, .int .i64 a)] Tryz.func127 rfl Tryz.ntmps127 (by simp) rfl (fun R hR => ?_)
  refine V_sr T.mix (by kernel_rfl) (fun K1 hK1 => ?_)
  refine S_allocA T.z148 ?_
  generalize hh : Array.push h _ = h1
  have hR1 : B h1 h.size #[.int .i64 0, .slice none 0 0, .int .i64 0, .int .i64 0] 148 := by rw [← hh]; exact B.new _ _ _
  have hEh1 : Ext (fun _ => False) h h1 := by rw [← hh]; exact Ext.push _ _ _
  have hsh1 : h1.size = h.size + 1 := by rw [← hh]; simp
  clear hh
  refine S_nil (hK1 _ _ (V_keep [0, 1, 4] (by simp only [proj, lk, reduceIte, Nat.reduceEqDiff]; rfl) ?_)); clear hK1
  refine V_sr T.mix (by kernel_rfl) (fun K2 hK2 => ?_)
  refine S_mk T.ei49 rfl rfl (by omega) (by omega) (by omega) (by omega) ?_
  simp only [Nat.mul_one, mkZ_one]
  generalize hh : Array.push h1 _ = h2
  have hO2 : B h2 h1.size (arr 12 fun _ => .int .i64 0) 3 := by rw [← hh]; exact B.new _ _ _
  have hE2 : Ext (fun _ => False) h1 h2 := by rw [← hh]; exact Ext.push _ _ _
  clear hh
  have hE02 := hEh1.trans hE2
  have hl2 := hO2.lt
  have hs2 : h1.size ≤ h2.size := hE2.1
  refine S_as rfl ?_
  refine S_nil (hK2 _ _ (V_keep [0, 1, 4, 5] (by simp only [proj, lk, reduceIte, Nat.reduceEqDiff]; rfl) ?_)); clear hK2
  refine V_sr T.mix (by kernel_rfl) (fun K3 hK3 => ?_)
  refine S_as rfl ?_
  refine S_nil (hK3 _ _ (V_keep [0, 1, 4, 5, 6] (by simp only [proj, lk, reduceIte, Nat.reduceEqDiff]; rfl) ?_)); clear hK3
  refine V_seq (fun K4 hK4 => ?_)
  refine V_sr T.mix (by kernel_rfl) (fun K5 hK5 => ?_)
  refine S_as rfl ?_
  refine S_nil (hK5 _ _ (V_keep [0, 1, 4, 5, 6, 7] (by simp only [proj, lk, reduceIte, Nat.reduceEqDiff]; rfl) ?_)); clear hK5
  refine V_block ?_
  refine V_loop (fun m l h' => ∃ (v : Nat) (hk : Heap) (oa : Option Addr) (oc : Nat), (v ≤ 12) ∧ (LB hk K C X st lv) ∧ (B hk h.size #[.int .i64 0, .slice none 0 0, .int .i64 0, .int .i64 0] 148) ∧ (OwnR h1.size hk oa (shF s cl st a v).1.length oc (ints (shF s cl st a v).1) 3 1) ∧ (Ext (fun _ => False) h hk) ∧ m = 12 - v ∧ l = [(0, .pointer (some ⟨K, 0, none⟩)), (1, .int .i64 a), (4, .pointer (some ⟨h.size, 0, none⟩)), (5, .slice oa (shF s cl st a v).1.length oc), (6, .int .i64 (shF s cl st a v).2), (7, .int .i64 ((v : Int) + 1))] ∧ hk = h') _ ⟨0, h2, some ⟨h1.size, 0, none⟩, 12, by omega, hB.ext hE02 (fun f => f), hR1.ext hE2 (fun f => f), by refine .inr ⟨h1.size, _, rfl, Nat.le_refl _, hO2, by rw [arr_size], by simp [shF], by simp [shF, ints], fun j hj => by simp [shF, ints] at hj⟩, hE02, rfl, rfl, rfl⟩ ?_
  rintro m l h' ⟨v, hk, oa, oc, hv, hBk, hRk, hoo, hEk, rfl, rfl, rfl⟩ K6 hK6
  try clear l0 l1 l2 l3 l4 l5 l6 hlok
  obtain ⟨l0, l1, l2, l3, l4, l5, l6, hlok⟩ := lq (hBk)
  have hlen := shF_len s cl st a v
  have hsk := hEk.1
  have wxk := wx.ext hEk (fun f => f) (fun f => f)
  rw [show (v : Int) + 1 = ((v + 1 : Nat) : Int) by omega]
  refine V_seq (fun K7 hK7 => ?_)
  refine V_sr T.mix (by kernel_rfl) (fun K8 hK8 => ?_)
  refine S_mv rfl ?_
  refine S_bin rfl rfl rfl ?_
  refine S_nil (hK8 _ _ (V_keep [0, 1, 4, 5, 6, 7, 13] (by simp only [proj, lk, reduceIte, Nat.reduceEqDiff]; rfl) ?_)); clear hK8
  refine V_condp rfl (fun c47 => ?_) (fun c47 => ?_)
  · skip
    have hmx := shF_succ s cl st a v
    refine V_skipk [0, 1, 4, 5, 6, 7] (by simp only [proj, lk, reduceIte, Nat.reduceEqDiff]; rfl) ?_
    refine hK7 _ _ ?_; clear hK7
    refine V_seq (fun K9 hK9 => ?_)
    refine V_block ?_
    refine V_sr T.mix (by kernel_rfl) (fun K10 hK10 => ?_)
    refine S_mv rfl ?_
    refine S_mv rfl ?_
    refine S_call T.hb143 rfl ?_
    refine FC.mono (litof_spec hk K C X st lv hBk (v + 1) (by omega) ok) ?_
    rintro v' h' ⟨rfl, rfl⟩
    have hlo := litOf_le st (v + 1)
    refine S_as rfl ?_
    refine S_nil (hK10 _ _ (V_keep [0, 1, 4, 5, 6, 7, 8] (by simp only [proj, lk, reduceIte, Nat.reduceEqDiff]; rfl) ?_)); clear hK10
    refine V_sr T.mix (by kernel_rfl) (fun K11 hK11 => ?_)
    refine S_mv rfl ?_
    refine S_mv rfl ?_
    refine S_bin rfl rfl rfl ?_
    refine S_nil (hK11 _ _ (V_keep [0, 1, 4, 5, 6, 7, 8, 21] (by simp only [proj, lk, reduceIte, Nat.reduceEqDiff]; rfl) ?_)); clear hK11
    refine V_condp rfl (fun c49 => ?_) (fun c49 => ?_)
    · skip
      rw [if_pos c49] at hmx
      refine V_reg T.mix (by kernel_rfl) ?_
      refine S_mv rfl ?_
      refine S_mv rfl ?_
      refine S_bs T.ei49 rfl (by decide) (by decide) (T.bs49_1_0 _) ?_
      refine S_appx (lo := h1.size) T.ei49 T.ni49 T.us49 rfl rfl rfl (OwnR.ext hoo (Ext.push (fun _ => False) _ _) (fun _ _ f => f)) (by simp; omega) (cellsH_new _ _ _) rfl (by omega) (by decide) (by decide) rfl (fun a4 c4 h4 ho4 hE4x hb4x => ?_)
      have hE4 : Ext (fun z => blkA oa = some z) hk h4 := (Ext.push _ _ _).trans hE4x
      have hb4 := new_blk2 (h := hk) hb4x (by simp)
      have hI4 : OwnR h1.size h4 a4 ((shF s cl st a v).1 ++ [(litOf st (v + 1))]).length c4 (ints ((shF s cl st a v).1 ++ [(litOf st (v + 1))])) 3 1 := by rw [ints_snoc, List.length_append]; exact ho4
      refine S_as rfl ?_
      refine S_nilk [0, 1, 4, 5, 6, 7] (by simp only [proj, lk, reduceIte, Nat.reduceEqDiff]; rfl) ?_
      refine hK9 _ _ ?_; clear hK9
      refine V_reg T.mix (by kernel_rfl) ?_
      refine S_mv rfl ?_
      first | refine S_add rfl rfl (by omega) (by omega) ?_ | refine S_bin rfl rfl rfl ?_
      refine S_as rfl ?_
      refine S_nilk [0, 1, 4, 5, 6, 7] (by simp only [proj, lk, reduceIte, Nat.reduceEqDiff]; rfl) ?_
      exact hK6 _ _ ⟨_, by omega, v + 1, h4, a4, c4, by omega, hBk.ext hE4 (fun e => by have h9 := (OwnR.blk2 hoo e).1; omega), hRk.ext hE4 (fun e => by have h9 := (OwnR.blk2 hoo e).1; omega), (by rw [hmx]; exact hI4), hEk.step hE4 (fun b hb e => by have h9 := (OwnR.blk2 hoo e).1; omega), rfl, by rw [hmx]; simp, rfl⟩
    · skip
      refine V_sr T.mix (by kernel_rfl) (fun K12 hK12 => ?_)
      refine S_mv rfl ?_
      refine S_bin rfl rfl rfl ?_
      refine S_nil (hK12 _ _ (V_keep [0, 1, 4, 5, 6, 7, 8, 27] (by simp only [proj, lk, reduceIte, Nat.reduceEqDiff]; rfl) ?_)); clear hK12
      refine V_condp rfl (fun c51 => ?_) (fun c51 => ?_)
      · skip
        refine V_sr T.mix (by kernel_rfl) (fun K13 hK13 => ?_)
        refine S_mv rfl ?_
        refine S_mv rfl ?_
        refine S_call T.hb144 rfl ?_
        refine FC.mono (lspare_spec hk K C X st lv hBk W cl s p wxk nk (litOf st (v + 1)) (by omega) ok) ?_
        rintro v' h5 ⟨rfl, hE5⟩
        have hs5 := hE5.1
        try clear l0 l1 l2 l3 l4 l5 l6 hlok
        obtain ⟨l0, l1, l2, l3, l4, l5, l6, hlok⟩ := lq (hBk.ext hE5 (fun f => f))
        refine S_notb rfl ?_
        refine S_nil (hK13 _ _ (V_keep [0, 1, 4, 5, 6, 7, 8, 31] (by simp only [proj, lk, reduceIte, Nat.reduceEqDiff]; rfl) ?_)); clear hK13
        refine V_condb rfl (fun c52 => ?_) (fun c52 => ?_)
        · skip
          have hsp : spareF s cl st (litOf st (v + 1)) = false := by simpa using c52
          rw [if_neg c49, if_pos ⟨c51, hsp⟩] at hmx
          refine V_sr T.mix (by kernel_rfl) (fun K14 hK14 => ?_)
          refine S_mv rfl ?_
          refine S_mv rfl ?_
          refine S_bs T.ei49 rfl (by decide) (by decide) (T.bs49_1_0 _) ?_
          have hoo5 := hoo
          refine S_appx (lo := h1.size) T.ei49 T.ni49 T.us49 rfl rfl rfl (OwnR.ext (OwnR.ext hoo hE5 (fun _ _ f => f)) (Ext.push (fun _ => False) _ _) (fun _ _ f => f)) (by simp; omega) (cellsH_new _ _ _) rfl (by omega) (by decide) (by decide) rfl (fun a6 c6 h6 ho6 hE6x hb6x => ?_)
          have hE6 : Ext (fun z => blkA oa = some z) h5 h6 := (Ext.push _ _ _).trans hE6x
          have hb6 := new_blk2 (h := h5) hb6x (by simp)
          have hI6 : OwnR h1.size h6 a6 ((shF s cl st a v).1 ++ [(litOf st (v + 1))]).length c6 (ints ((shF s cl st a v).1 ++ [(litOf st (v + 1))])) 3 1 := by rw [ints_snoc, List.length_append]; exact ho6
          try clear l0 l1 l2 l3 l4 l5 l6 hlok
          obtain ⟨l0, l1, l2, l3, l4, l5, l6, hlok⟩ := lq ((hBk.ext hE5 (fun f => f)).ext hE6 (fun e => by have h9 := (OwnR.blk2 hoo e).1; omega))
          refine S_as rfl ?_
          refine S_nil (hK14 _ _ (V_keep [0, 1, 4, 5, 6, 7] (by simp only [proj, lk, reduceIte, Nat.reduceEqDiff]; rfl) ?_)); clear hK14
          refine V_sr T.mix (by kernel_rfl) (fun K15 hK15 => ?_)
          refine S_mv rfl ?_
          refine S_nc rfl ?_
          first | refine S_fa0 T.f107_0 rfl ?_ | refine S_fa T.f107_0 rfl ?_
          refine S_ldK T.ag30 rfl (fun K' hK' => ?_)
          simp (disch := omega) only [l0, l1, l2, l3, l4, l5, l6, oP_some, Nat.add_zero]
          refine hK' _ ?_; clear hK' K'
          refine S_mv rfl ?_
          refine S_call T.hb54 rfl ?_
          refine FC.mono (levelof_spec h6 X s p ((wxk.ext hE5 (fun f => f) (fun f => f)).ext hE6 (fun e => by have h9 := (OwnR.blk2 hoo e).1; have h8 := wx.lt; omega) (fun e => by have h9 := (OwnR.blk2 hoo e).1; have h8 := wx.lt; omega)).t ((v + 1 : Nat) : Int)) ?_
          rintro v' h' ⟨rfl, rfl⟩
          refine S_as rfl ?_
          refine S_nil (hK15 _ _ (V_keep [0, 1, 4, 5, 6, 7, 9] (by simp only [proj, lk, reduceIte, Nat.reduceEqDiff]; rfl) ?_)); clear hK15
          refine V_sr T.mix (by kernel_rfl) (fun K16 hK16 => ?_)
          refine S_mv rfl ?_
          refine S_mv rfl ?_
          refine S_bin rfl rfl rfl ?_
          refine S_nil (hK16 _ _ (V_keep [0, 1, 4, 5, 6, 7, 9, 44] (by simp only [proj, lk, reduceIte, Nat.reduceEqDiff]; rfl) ?_)); clear hK16
          refine V_condp rfl (fun c55 => ?_) (fun c55 => ?_)
          · skip
            rw [if_pos (by omega)] at hmx
            refine V_reg T.mix (by kernel_rfl) ?_
            refine S_mv rfl ?_
            refine S_as rfl ?_
            refine S_nilk [0, 1, 4, 5, 6, 7] (by simp only [proj, lk, reduceIte, Nat.reduceEqDiff]; rfl) ?_
            refine hK9 _ _ ?_; clear hK9
            refine V_reg T.mix (by kernel_rfl) ?_
            refine S_mv rfl ?_
            first | refine S_add rfl rfl (by omega) (by omega) ?_ | refine S_bin rfl rfl rfl ?_
            refine S_as rfl ?_
            refine S_nilk [0, 1, 4, 5, 6, 7] (by simp only [proj, lk, reduceIte, Nat.reduceEqDiff]; rfl) ?_
            exact hK6 _ _ ⟨_, by omega, v + 1, h6, a6, c6, by omega, (hBk.ext hE5 (fun f => f)).ext hE6 (fun e => by have h9 := (OwnR.blk2 hoo e).1; omega), (hRk.ext hE5 (fun f => f)).ext hE6 (fun e => by have h9 := (OwnR.blk2 hoo e).1; omega), (by rw [hmx]; exact hI6), (hEk.trans hE5).step hE6 (fun b hb e => by have h9 := (OwnR.blk2 hoo e).1; omega), rfl, by rw [hmx]; simp, rfl⟩
          · skip
            rw [if_neg (by omega)] at hmx
            refine V_skipk [0, 1, 4, 5, 6, 7] (by simp only [proj, lk, reduceIte, Nat.reduceEqDiff]; rfl) ?_
            refine hK9 _ _ ?_; clear hK9
            refine V_reg T.mix (by kernel_rfl) ?_
            refine S_mv rfl ?_
            first | refine S_add rfl rfl (by omega) (by omega) ?_ | refine S_bin rfl rfl rfl ?_
            refine S_as rfl ?_
            refine S_nilk [0, 1, 4, 5, 6, 7] (by simp only [proj, lk, reduceIte, Nat.reduceEqDiff]; rfl) ?_
            exact hK6 _ _ ⟨_, by omega, v + 1, h6, a6, c6, by omega, (hBk.ext hE5 (fun f => f)).ext hE6 (fun e => by have h9 := (OwnR.blk2 hoo e).1; omega), (hRk.ext hE5 (fun f => f)).ext hE6 (fun e => by have h9 := (OwnR.blk2 hoo e).1; omega), (by rw [hmx]; exact hI6), (hEk.trans hE5).step hE6 (fun b hb e => by have h9 := (OwnR.blk2 hoo e).1; omega), rfl, by rw [hmx]; simp, rfl⟩
        · skip
          have hsp : spareF s cl st (litOf st (v + 1)) = true := by simpa using c52
          rw [if_neg c49, if_neg (fun z => by rw [hsp] at z; cases z.2)] at hmx
          refine V_skipk [0, 1, 4, 5, 6, 7] (by simp only [proj, lk, reduceIte, Nat.reduceEqDiff]; rfl) ?_
          refine hK9 _ _ ?_; clear hK9
          refine V_reg T.mix (by kernel_rfl) ?_
          refine S_mv rfl ?_
          first | refine S_add rfl rfl (by omega) (by omega) ?_ | refine S_bin rfl rfl rfl ?_
          refine S_as rfl ?_
          refine S_nilk [0, 1, 4, 5, 6, 7] (by simp only [proj, lk, reduceIte, Nat.reduceEqDiff]; rfl) ?_
          exact hK6 _ _ ⟨_, by omega, v + 1, h5, oa, oc, by omega, hBk.ext hE5 (fun f => f), hRk.ext hE5 (fun f => f), (by rw [hmx]; exact OwnR.ext hoo hE5 (fun _ _ f => f)), hEk.trans hE5, rfl, by rw [hmx], rfl⟩
      · skip
        rw [if_neg c49, if_neg (fun z => z.1 (by omega))] at hmx
        refine V_skipk [0, 1, 4, 5, 6, 7] (by simp only [proj, lk, reduceIte, Nat.reduceEqDiff]; rfl) ?_
        refine hK9 _ _ ?_; clear hK9
        refine V_reg T.mix (by kernel_rfl) ?_
        refine S_mv rfl ?_
        first | refine S_add rfl rfl (by omega) (by omega) ?_ | refine S_bin rfl rfl rfl ?_
        refine S_as rfl ?_
        refine S_nilk [0, 1, 4, 5, 6, 7] (by simp only [proj, lk, reduceIte, Nat.reduceEqDiff]; rfl) ?_
        exact hK6 _ _ ⟨_, by omega, v + 1, hk, oa, oc, by omega, hBk, hRk, (by rw [hmx]; exact hoo), hEk, rfl, by rw [hmx], rfl⟩
  · skip
    have hv12 : v = 12 := by omega
    subst hv12
    refine V_exitk [1, 4, 5, 6] rfl (by simp only [proj, lk, reduceIte, Nat.reduceEqDiff]; rfl) ?_
    refine hK4 _ _ ?_; clear hK4
    refine V_sr T.mix (by kernel_rfl) (fun K17 hK17 => ?_)
    refine S_mv rfl ?_
    refine S_call T.hb87 rfl ?_
    refine FC.mono (copyints_spec hk oa oc (shF s cl st a 12).1 (own0 hoo) (by omega)) ?_
    rintro v' h8 ⟨xa, rfl, hIx, hE8, hxn, hxb⟩
    have hR8 := hRk.ext hE8 (fun f => f)
    have hrok : ∀ j, j < 4 → okPut h8 ⟨h.size, j, none⟩ = true := fun j hj => hR8.ok (by simpa using hj)
    refine S_as rfl ?_
    refine S_nil (hK17 _ _ (V_keep [1, 4, 6, 10] (by simp only [proj, lk, reduceIte, Nat.reduceEqDiff]; rfl) ?_)); clear hK17
    refine V_sr T.mix (by kernel_rfl) (fun K18 hK18 => ?_)
    refine S_mv rfl ?_
    refine S_mv rfl ?_
    refine S_mv rfl ?_
    refine S_bld rfl (T.bld148_1_2_3 _ _ _ _ _) ?_
    refine S_stl T.sz148 rfl rfl rfl rfl (fun j hj => by simp (disch := omega) only [hrok]) ?_
    generalize hh : putsH _ _ _ _ = h9
    have hR9 : B h9 (h.size) #[.int .i64 (0), .slice xa (shF s cl st a 12).1.length (shF s cl st a 12).1.length, .int .i64 (a), .int .i64 ((shF s cl st a 12).2)] 148 := by rw [← hh]; exact B.puts_all (hR8) (cs' := #[.int .i64 (0), .slice xa (shF s cl st a 12).1.length (shF s cl st a 12).1.length, .int .i64 (a), .int .i64 ((shF s cl st a 12).2)]) rfl
    have hEh9 : Ext (fun k => k = h.size) h8 h9 := by rw [← hh]; exact Ext.puts (S := fun k => k = h.size) rfl _ _ _
    clear hh
    refine S_nil (hK18 _ _ (V_keep [4] (by simp only [proj, lk, reduceIte, Nat.reduceEqDiff]; rfl) ?_)); clear hK18
    refine V_ret ?_
    refine hR _ _ (retc1 rfl rfl T.ag148 hR9 (by rfl) ?_)
    have hsk2 : h.size ≤ hk.size := hEk.1
    have hhh : h.size < h1.size := by omega
    exact ⟨xa, rfl, hIx.ext hEh9 (fun b e z => by have h9 := hxb b e; have h8 := hRk.lt; omega), hxn, fun b e => Nat.le_trans hsk2 (hxb b e), (hEk.trans hE8).step hEh9 (fun b hb e => by omega)⟩
set_option maxHeartbeats 3200000 in
theorem analyze_spec (h : Heap) (K C X : Nat) (hB : LB h K C X LS.z 0) (W : WC) (cl : Nat → Option (List Int)) (s : TS) (p : Nat) (wx : WX h C X W cl s p) (nk : K ≠ C ∧ K ≠ X) (conf : Int) :
    FC Tryz.prog 93 (#[.pointer (some ⟨K, 0, none⟩), .int .i64 conf] : Array Value) h fun rv h' => ∃ xa, rv = .agg #[.int .i64 (((analyzeF s cl conf).err : Int)), .slice xa (analyzeF s cl conf).lits.length (analyzeF s cl conf).lits.length, .int .i64 ((analyzeF s cl conf).asr), .int .i64 ((analyzeF s cl conf).back)] ∧ IL h' xa (analyzeF s cl conf).lits.length (analyzeF s cl conf).lits ∧ ((analyzeF s cl conf).lits.length = 0 → xa = none) ∧ (∀ b, blkA xa = some b → h.size ≤ b) ∧ LB h' K C X LS.z 0 ∧ Ext (fun x => x = K) h h' := by
  have hKl := hB.lt
  have hl12 := wx.ok.len
  have hdp := wx.ok.dep
  refine FC_of [(0, .pointer (some ⟨K, 0, none⟩)), (1, .int .i64 conf)] Tryz.func93 rfl Tryz.ntmps93 (by simp) rfl (fun R hR => ?_)
  refine V_sr T.mix (by kernel_rfl) (fun K1 hK1 => ?_)
  refine S_allocA T.z148 ?_
  generalize hh : Array.push h _ = h1
  have hR1 : B h1 h.size #[.int .i64 0, .slice none 0 0, .int .i64 0, .int .i64 0] 148 := by rw [← hh]; exact B.new _ _ _
  have hEh1 : Ext (fun _ => False) h h1 := by rw [← hh]; exact Ext.push _ _ _
  have hsh1 : h1.size = h.size + 1 := by rw [← hh]; simp
  clear hh
  try clear l0 l1 l2 l3 l4 l5 l6 hlok
  obtain ⟨l0, l1, l2, l3, l4, l5, l6, hlok⟩ := lq (hB.ext hEh1 (fun f => f))
  refine S_nil (hK1 _ _ (V_keep [0, 1, 4] (by simp only [proj, lk, reduceIte, Nat.reduceEqDiff]; rfl) ?_)); clear hK1
  refine V_sr T.mix (by kernel_rfl) (fun K2 hK2 => ?_)
  refine S_mv rfl ?_
  refine S_nc rfl ?_
  first | refine S_fa0 T.f107_1 rfl ?_ | refine S_fa T.f107_1 rfl ?_
  refine S_ldK T.ag31 rfl (fun K' hK' => ?_)
  simp (disch := omega) only [l0, l1, l2, l3, l4, l5, l6, oP_some, Nat.add_zero]
  refine hK' _ ?_; clear hK' K'
  refine S_mv rfl ?_
  refine S_call T.hb15 rfl ?_
  have hB1 := hB.ext hEh1 (fun f => f)
  refine FC.mono (wclause_spec h1 C X W cl s p (wx.ext hEh1 (fun f => f) (fun f => f)) conf) ?_
  rintro v' h2 ⟨ca, rfl, hIc, _, hcb, hE2⟩
  have hE02 := hEh1.trans hE2
  have hs12 := hE2.1
  have hB2 := hB.ext hE02 (fun f => f)
  have wx2 := wx.ext hE02 (fun f => f) (fun f => f)
  have hR2 := hR1.ext hE2 (fun f => f)
  have hrok : ∀ j, j < 4 → okPut h2 ⟨h.size, j, none⟩ = true := fun j hj => (hR2).ok (by simpa using hj)
  try clear l0 l1 l2 l3 l4 l5 l6 hlok
  obtain ⟨l0, l1, l2, l3, l4, l5, l6, hlok⟩ := lq (hB2)
  refine S_mv rfl ?_
  refine S_ex rfl rfl ?_
  refine S_ex rfl rfl ?_
  refine S_as rfl ?_
  refine S_as rfl ?_
  refine S_nil (hK2 _ _ (V_keep [0, 4, 5, 6] (by simp only [proj, lk, reduceIte, Nat.reduceEqDiff]; rfl) ?_)); clear hK2
  refine V_seq (fun K3 hK3 => ?_)
  refine V_sr T.mix (by kernel_rfl) (fun K4 hK4 => ?_)
  refine S_mv rfl ?_
  refine S_bin rfl rfl rfl ?_
  refine S_nil (hK4 _ _ (V_keep [0, 4, 5, 19] (by simp only [proj, lk, reduceIte, Nat.reduceEqDiff]; rfl) ?_)); clear hK4
  refine V_condp rfl (fun c69 => ?_) (fun c69 => ?_)
  · skip
    have hlv : liveC cl conf = none := by
      cases e : liveC cl conf with
      | none => rfl
      | some rc => exact absurd (by rw [(clF_some e).2]; rfl) c69
    refine V_sr T.mix (by kernel_rfl) (fun K5 hK5 => ?_)
    refine S_bld rfl (T.bld148_0 _) ?_
    refine S_stl T.sz148 rfl rfl rfl rfl (fun j hj => by simp (disch := omega) only [hrok]) ?_
    generalize hh : putsH _ _ _ _ = h9
    have hR9 : B h9 (h.size) #[.int .i64 (13), .slice none 0 0, .int .i64 (0), .int .i64 (0)] 148 := by rw [← hh]; exact B.puts_all (hR2) (cs' := #[.int .i64 (13), .slice none 0 0, .int .i64 (0), .int .i64 (0)]) rfl
    have hEh9 : Ext (fun k => k = h.size) h2 h9 := by rw [← hh]; exact Ext.puts (S := fun k => k = h.size) rfl _ _ _
    clear hh
    refine S_nil (hK5 _ _ (V_keep [4] (by simp only [proj, lk, reduceIte, Nat.reduceEqDiff]; rfl) ?_)); clear hK5
    refine V_ret ?_
    refine hR _ _ (retc1 rfl rfl T.ag148 hR9 (by rfl) ?_)
    have hae : (analyzeF s cl conf) = ⟨13, [], 0, 0⟩ := by unfold analyzeF; rw [hlv]
    exact ⟨none, by rw [hae]; rfl, by rw [hae]; exact IL.nil _, fun _ => rfl, by simp [blkA], hB2.ext hEh9 (fun e => by omega), (hE02.mono fun _ f => f.elim).step hEh9 (fun b hb e => by omega)⟩
  · skip
    obtain ⟨c, hlv⟩ : ∃ rc, liveC cl conf = some rc := by
      cases e : liveC cl conf with
      | none => exact absurd (by rw [(clF_none e).2]; decide) c69
      | some rc => exact ⟨rc, rfl⟩
    have hnr := nrm_liveC wx.i hlv
    refine V_skipk [0, 4, 5] (by simp only [proj, lk, reduceIte, Nat.reduceEqDiff]; rfl) ?_
    refine hK3 _ _ ?_; clear hK3
    refine V_seq (fun K6 hK6 => ?_)
    refine V_sr T.mix (by kernel_rfl) (fun K7 hK7 => ?_)
    refine S_mv rfl ?_
    refine S_mv rfl ?_
    refine S_call T.hb122 rfl ?_
    rw [(clF_some hlv).1] at hIc ⊢
    refine FC.mono (allfalse_spec h2 K C X LS.z 0 hB2 W cl s p wx2 nk ca _ c hIc hnr (fun b e z => by have h9 := hcb b e; omega)) ?_
    rintro v' h' ⟨rfl, rfl⟩
    refine S_notb rfl ?_
    refine S_nil (hK7 _ _ (V_keep [0, 4, 5, 24] (by simp only [proj, lk, reduceIte, Nat.reduceEqDiff]; rfl) ?_)); clear hK7
    refine V_condb rfl (fun c72 => ?_) (fun c72 => ?_)
    · skip
      refine V_sr T.mix (by kernel_rfl) (fun K8 hK8 => ?_)
      refine S_bld rfl (T.bld148_0 _) ?_
      refine S_stl T.sz148 rfl rfl rfl rfl (fun j hj => by simp (disch := omega) only [hrok]) ?_
      generalize hh : putsH _ _ _ _ = h9
      have hR9 : B h9 (h.size) #[.int .i64 (15), .slice none 0 0, .int .i64 (0), .int .i64 (0)] 148 := by rw [← hh]; exact B.puts_all (hR2) (cs' := #[.int .i64 (15), .slice none 0 0, .int .i64 (0), .int .i64 (0)]) rfl
      have hEh9 : Ext (fun k => k = h.size) h2 h9 := by rw [← hh]; exact Ext.puts (S := fun k => k = h.size) rfl _ _ _
      clear hh
      refine S_nil (hK8 _ _ (V_keep [4] (by simp only [proj, lk, reduceIte, Nat.reduceEqDiff]; rfl) ?_)); clear hK8
      refine V_ret ?_
      refine hR _ _ (retc1 rfl rfl T.ag148 hR9 (by rfl) ?_)
      have hae : (analyzeF s cl conf) = ⟨15, [], 0, 0⟩ := by unfold analyzeF; rw [hlv]; simp only []; rw [if_neg (by simpa using c72)]
      exact ⟨none, by rw [hae]; rfl, by rw [hae]; exact IL.nil _, fun _ => rfl, by simp [blkA], hB2.ext hEh9 (fun e => by omega), (hE02.mono fun _ f => f.elim).step hEh9 (fun b hb e => by omega)⟩
    · skip
      have hal : (c.all fun x => decide (valO s x = -1)) = true := by simpa using c72
      refine V_skipk [0, 4, 5] (by simp only [proj, lk, reduceIte, Nat.reduceEqDiff]; rfl) ?_
      refine hK6 _ _ ?_; clear hK6
      refine V_sr T.mix (by kernel_rfl) (fun K9 hK9 => ?_)
      refine S_mv rfl ?_
      refine S_mv rfl ?_
      refine S_nc rfl ?_
      first | refine S_fa0 T.f107_0 rfl ?_ | refine S_fa T.f107_0 rfl ?_
      refine S_ldK T.ag30 rfl (fun K' hK' => ?_)
      simp (disch := omega) only [l0, l1, l2, l3, l4, l5, l6, oP_some, Nat.add_zero]
      refine hK' _ ?_; clear hK' K'
      refine S_call T.hb47 rfl ?_
      refine FC.mono (level_spec h2 X s p wx2.t) ?_
      rintro v' h' ⟨rfl, rfl⟩
      refine S_nc rfl ?_
      first | refine S_fa0 T.f107_6 rfl ?_ | refine S_fa T.f107_6 rfl ?_
      refine S_st T.sz3 rfl rfl rfl rfl (by simp (disch := omega) only [hlok]) ?_
      generalize hh : putH _ _ _ = h3
      have hBh3 : LB h3 K C X LS.z ((s.k : Int)) := by rw [← hh]; exact (hB2).put 6 _
      have hEh3 : Ext (fun x => x = K) h2 h3 := by rw [← hh]; exact Ext.put _ _ rfl
      clear hh
      try clear l0 l1 l2 l3 l4 l5 l6 hlok
      obtain ⟨l0, l1, l2, l3, l4, l5, l6, hlok⟩ := lq (hBh3)
      have wx3 := wx2.ext hEh3 (fun e => nk.1 e.symm) (fun e => nk.2 e.symm)
      refine S_nil (hK9 _ _ (V_keep [0, 4, 5] (by simp only [proj, lk, reduceIte, Nat.reduceEqDiff]; rfl) ?_)); clear hK9
      refine V_seq (fun K10 hK10 => ?_)
      refine V_sr T.mix (by kernel_rfl) (fun K11 hK11 => ?_)
      refine S_mv rfl ?_
      refine S_nc rfl ?_
      first | refine S_fa0 T.f107_6 rfl ?_ | refine S_fa T.f107_6 rfl ?_
      refine S_ldK T.ag3 rfl (fun K' hK' => ?_)
      simp (disch := omega) only [l0, l1, l2, l3, l4, l5, l6, oP_some, Nat.add_zero]
      refine hK' _ ?_; clear hK' K'
      refine S_bin rfl rfl rfl ?_
      refine S_nil (hK11 _ _ (V_keep [0, 4, 5, 38] (by simp only [proj, lk, reduceIte, Nat.reduceEqDiff]; rfl) ?_)); clear hK11
      refine V_condp rfl (fun c76 => ?_) (fun c76 => ?_)
      · skip
        refine V_sr T.mix (by kernel_rfl) (fun K12 hK12 => ?_)
        refine S_mv rfl ?_
        refine S_call T.hb123 rfl ?_
        refine FC.mono (refuse_spec h3 K C X LS.z (s.k : Int) hBh3 (10)) ?_
        rintro v' h9 ⟨rfl, hBz, hEz⟩
        have hRz := (hR2.ext hEh3 (fun e => by omega)).ext hEz (fun e => by omega)
        have hrok : ∀ j, j < 4 → okPut h9 ⟨h.size, j, none⟩ = true := fun j hj => (hRz).ok (by simpa using hj)
        refine S_stl T.sz148 rfl rfl rfl rfl (fun j hj => by simp (disch := omega) only [hrok]) ?_
        generalize hh : putsH _ _ _ _ = h10
        have hR9 : B h10 (h.size) #[.int .i64 (10), .slice none 0 0, .int .i64 (0), .int .i64 (0)] 148 := by rw [← hh]; exact B.puts_all (hRz) (cs' := #[.int .i64 (10), .slice none 0 0, .int .i64 (0), .int .i64 (0)]) rfl
        have hEh10 : Ext (fun k => k = h.size) h9 h10 := by rw [← hh]; exact Ext.puts (S := fun k => k = h.size) rfl _ _ _
        clear hh
        refine S_nil (hK12 _ _ (V_keep [4] (by simp only [proj, lk, reduceIte, Nat.reduceEqDiff]; rfl) ?_)); clear hK12
        refine V_ret ?_
        refine hR _ _ (retc1 rfl rfl T.ag148 hR9 (by rfl) ?_)
        have hae : (analyzeF s cl conf) = ⟨10, [], 0, 0⟩ := by unfold analyzeF; rw [hlv]; simp only []; rw [if_pos hal, if_pos (by omega)]
        exact ⟨none, by rw [hae]; rfl, by rw [hae]; exact IL.nil _, fun _ => rfl, by simp [blkA], hBz.ext hEh10 (fun e => by omega), (((hE02.mono fun _ f => f.elim).trans hEh3).trans hEz).step hEh10 (fun b hb e => by omega)⟩
      · skip
        have hk0 : ¬ s.k = 0 := by omega
        refine V_skipk [0, 4, 5] (by simp only [proj, lk, reduceIte, Nat.reduceEqDiff]; rfl) ?_
        refine hK10 _ _ ?_; clear hK10
        refine V_sr T.mix (by kernel_rfl) (fun K13 hK13 => ?_)
        refine S_mv rfl ?_
        refine S_mv rfl ?_
        refine S_call T.hb124 rfl ?_
        refine FC.mono (markall_spec h3 K C X LS.z (s.k : Int) hBh3 W cl s p wx3 nk ca _ c (hIc.ext hEh3 (fun b e z => by have h9 := hcb b e; omega)) hnr (fun b e z => by have h9 := hcb b e; omega) ⟨by decide, by decide, by decide⟩ ⟨by decide, by decide⟩) ?_
        rintro v' h4 ⟨rfl, hB4, hE4⟩
        have hmo := markA_ok (s := s) (lv := (s.k : Int)) (st := LS.z) (c := c) ⟨by decide, by decide, by decide⟩ (fun x hx => by have h9 := hnr.1 x hx; unfold gd at h9; omega)
        have wx4 := wx3.ext hE4 (fun e => nk.1 e.symm) (fun e => nk.2 e.symm)
        have hR4 := (hR2.ext hEh3 (fun e => by omega)).ext hE4 (fun e => by omega)
        have hln := hnr.len
        have hs4 := hE4.1
        have hs3 := hEh3.1
        have hs2 := hE02.1
        try clear l0 l1 l2 l3 l4 l5 l6 hlok
        obtain ⟨l0, l1, l2, l3, l4, l5, l6, hlok⟩ := lq (hB4)
        refine S_nil (hK13 _ _ (V_keep [0, 4] (by simp only [proj, lk, reduceIte, Nat.reduceEqDiff]; rfl) ?_)); clear hK13
        refine V_seq (fun K14 hK14 => ?_)
        refine V_sr T.mix (by kernel_rfl) (fun K15 hK15 => ?_)
        refine S_mv rfl ?_
        refine S_nc rfl ?_
        first | refine S_fa0 T.f107_5 rfl ?_ | refine S_fa T.f107_5 rfl ?_
        refine S_ldK T.ag3 rfl (fun K' hK' => ?_)
        simp (disch := omega) only [l0, l1, l2, l3, l4, l5, l6, oP_some, Nat.add_zero]
        refine hK' _ ?_; clear hK' K'
        refine S_bin rfl rfl rfl ?_
        refine S_nil (hK15 _ _ (V_keep [0, 4, 48] (by simp only [proj, lk, reduceIte, Nat.reduceEqDiff]; rfl) ?_)); clear hK15
        refine V_condp rfl (fun c80 => ?_) (fun c80 => ?_)
        · skip
          refine V_sr T.mix (by kernel_rfl) (fun K16 hK16 => ?_)
          refine S_mv rfl ?_
          refine S_call T.hb123 rfl ?_
          refine FC.mono (refuse_spec h4 K C X (markA s s.k LS.z c).1 (s.k : Int) hB4 (10)) ?_
          rintro v' h9 ⟨rfl, hBz, hEz⟩
          have hRz := (hR4).ext hEz (fun e => by omega)
          have hrok : ∀ j, j < 4 → okPut h9 ⟨h.size, j, none⟩ = true := fun j hj => (hRz).ok (by simpa using hj)
          refine S_stl T.sz148 rfl rfl rfl rfl (fun j hj => by simp (disch := omega) only [hrok]) ?_
          generalize hh : putsH _ _ _ _ = h10
          have hR9 : B h10 (h.size) #[.int .i64 (10), .slice none 0 0, .int .i64 (0), .int .i64 (0)] 148 := by rw [← hh]; exact B.puts_all (hRz) (cs' := #[.int .i64 (10), .slice none 0 0, .int .i64 (0), .int .i64 (0)]) rfl
          have hEh10 : Ext (fun k => k = h.size) h9 h10 := by rw [← hh]; exact Ext.puts (S := fun k => k = h.size) rfl _ _ _
          clear hh
          refine S_nil (hK16 _ _ (V_keep [4] (by simp only [proj, lk, reduceIte, Nat.reduceEqDiff]; rfl) ?_)); clear hK16
          refine V_ret ?_
          refine hR _ _ (retc1 rfl rfl T.ag148 hR9 (by rfl) ?_)
          have hae : (analyzeF s cl conf) = ⟨10, [], 0, 0⟩ := by unfold analyzeF; rw [hlv]; simp only []; rw [if_pos hal, if_neg hk0, if_pos c80]
          exact ⟨none, by rw [hae]; rfl, by rw [hae]; exact IL.nil _, fun _ => rfl, by simp [blkA], hBz.ext hEh10 (fun e => by omega), ((((hE02.mono fun _ f => f.elim).trans hEh3).trans hE4).trans hEz).step hEh10 (fun b hb e => by omega)⟩
        · skip
          refine V_skipk [0, 4] (by simp only [proj, lk, reduceIte, Nat.reduceEqDiff]; rfl) ?_
          refine hK14 _ _ ?_; clear hK14
          refine V_sr T.mix (by kernel_rfl) (fun K17 hK17 => ?_)
          refine S_mv rfl ?_
          refine S_call T.hb125 rfl ?_
          refine FC.mono (climb_spec h4 K C X (markA s s.k LS.z c).1 (s.k : Int) hB4 W cl s p wx4 nk hmo.1 (by have hz0 : LS.z.op = 0 := rfl; omega)) ?_
          rintro v' h5 ⟨rfl, hB5, hE5⟩
          have hcm : climbF s cl (s.k : Int) s.L.length (markA s s.k LS.z c).1 = (clmb s cl c) := rfl
          rw [hcm] at hB5 ⊢
          have hck : (clmb s cl c).1.ok := climbF_ok (nrm_live wx.i) _ hmo.1
          have wx5 := wx4.ext hE5 (fun e => nk.1 e.symm) (fun e => nk.2 e.symm)
          have hR5 := hR4.ext hE5 (fun e => by omega)
          have hcg : -12 ≤ (clmb s cl c).2 ∧ (clmb s cl c).2 ≤ 12 := climb_gd wx.ok _ (Nat.le_refl _)
          have hs5 := hE5.1
          refine S_as rfl ?_
          refine S_nil (hK17 _ _ (V_keep [0, 4, 7] (by simp only [proj, lk, reduceIte, Nat.reduceEqDiff]; rfl) ?_)); clear hK17
          refine V_seq (fun K18 hK18 => ?_)
          refine V_sr T.mix (by kernel_rfl) (fun K19 hK19 => ?_)
          refine S_mv rfl ?_
          refine S_bin rfl rfl rfl ?_
          refine S_nil (hK19 _ _ (V_keep [0, 4, 7, 54] (by simp only [proj, lk, reduceIte, Nat.reduceEqDiff]; rfl) ?_)); clear hK19
          refine V_condp rfl (fun c84 => ?_) (fun c84 => ?_)
          · skip
            refine V_sr T.mix (by kernel_rfl) (fun K20 hK20 => ?_)
            refine S_mv rfl ?_
            refine S_call T.hb123 rfl ?_
            refine FC.mono (refuse_spec h5 K C X (clmb s cl c).1 (s.k : Int) hB5 (15)) ?_
            rintro v' h9 ⟨rfl, hBz, hEz⟩
            have hRz := (hR5).ext hEz (fun e => by omega)
            have hrok : ∀ j, j < 4 → okPut h9 ⟨h.size, j, none⟩ = true := fun j hj => (hRz).ok (by simpa using hj)
            refine S_stl T.sz148 rfl rfl rfl rfl (fun j hj => by simp (disch := omega) only [hrok]) ?_
            generalize hh : putsH _ _ _ _ = h10
            have hR9 : B h10 (h.size) #[.int .i64 (15), .slice none 0 0, .int .i64 (0), .int .i64 (0)] 148 := by rw [← hh]; exact B.puts_all (hRz) (cs' := #[.int .i64 (15), .slice none 0 0, .int .i64 (0), .int .i64 (0)]) rfl
            have hEh10 : Ext (fun k => k = h.size) h9 h10 := by rw [← hh]; exact Ext.puts (S := fun k => k = h.size) rfl _ _ _
            clear hh
            refine S_nil (hK20 _ _ (V_keep [4] (by simp only [proj, lk, reduceIte, Nat.reduceEqDiff]; rfl) ?_)); clear hK20
            refine V_ret ?_
            refine hR _ _ (retc1 rfl rfl T.ag148 hR9 (by rfl) ?_)
            have hae : (analyzeF s cl conf) = ⟨15, [], 0, 0⟩ := by unfold analyzeF; rw [hlv]; simp only []; rw [if_pos hal, if_neg hk0, if_neg c80, if_pos c84]
            exact ⟨none, by rw [hae]; rfl, by rw [hae]; exact IL.nil _, fun _ => rfl, by simp [blkA], hBz.ext hEh10 (fun e => by omega), (((((hE02.mono fun _ f => f.elim).trans hEh3).trans hE4).trans hE5).trans hEz).step hEh10 (fun b hb e => by omega)⟩
          · skip
            refine V_skipk [0, 4, 7] (by simp only [proj, lk, reduceIte, Nat.reduceEqDiff]; rfl) ?_
            refine hK18 _ _ ?_; clear hK18
            refine V_sr T.mix (by kernel_rfl) (fun K21 hK21 => ?_)
            refine S_mv rfl ?_
            refine S_mv rfl ?_
            first | refine S_neg rfl (by omega) (by omega) ?_ | refine S_un rfl rfl ?_
            refine S_call T.hb126 rfl ?_
            refine FC.mono (ljoin_spec h5 K C X (clmb s cl c).1 (s.k : Int) hB5 (-(clmb s cl c).2) (by omega) hck) ?_
            rintro v' h6 ⟨rfl, hB6, hE6⟩
            have wx6 := wx5.ext hE6 (fun e => nk.1 e.symm) (fun e => nk.2 e.symm)
            have hs6 := hE6.1
            refine S_nil (hK21 _ _ (V_keep [0, 4, 7] (by simp only [proj, lk, reduceIte, Nat.reduceEqDiff]; rfl) ?_)); clear hK21
            refine V_sr T.mix (by kernel_rfl) (fun K22 hK22 => ?_)
            refine S_mv rfl ?_
            refine S_mv rfl ?_
            first | refine S_neg rfl (by omega) (by omega) ?_ | refine S_un rfl rfl ?_
            refine S_call T.hb127 rfl ?_
            refine FC.mono (shrink_spec h6 K C X (joinF (clmb s cl c).1 (-(clmb s cl c).2)) (s.k : Int) hB6 W cl s p wx6 nk (-(clmb s cl c).2) (joinF_ok hck (by omega))) ?_
            rintro v' h7 ⟨xa, rfl, hIx, hxn, hxb, hE7⟩
            have hs7 := hE7.1
            refine S_allocA T.z148 ?_
            generalize hh : Array.push h7 _ = h8
            have hO8 : B h8 h7.size #[.int .i64 0, .slice none 0 0, .int .i64 0, .int .i64 0] 148 := by rw [← hh]; exact B.new _ _ _
            have hEh8 : Ext (fun _ => False) h7 h8 := by rw [← hh]; exact Ext.push _ _ _
            have hsh8 : h8.size = h7.size + 1 := by rw [← hh]; simp
            clear hh
            have hrok8 : ∀ j, j < 4 → okPut h8 ⟨h7.size, j, none⟩ = true := fun j hj => hO8.ok (by simpa using hj)
            refine S_stl T.sz148 rfl rfl rfl rfl (fun j hj => by simp (disch := omega) only [hrok8]) ?_
            generalize hh : putsH _ _ _ _ = h9
            have hO9 : B h9 (h7.size) #[.int .i64 (0), .slice xa (shF s cl (joinF (clmb s cl c).1 (-(clmb s cl c).2)) (-(clmb s cl c).2) 12).1.length (shF s cl (joinF (clmb s cl c).1 (-(clmb s cl c).2)) (-(clmb s cl c).2) 12).1.length, .int .i64 (-(clmb s cl c).2), .int .i64 ((shF s cl (joinF (clmb s cl c).1 (-(clmb s cl c).2)) (-(clmb s cl c).2) 12).2)] 148 := by rw [← hh]; exact B.puts_all (hO8) (cs' := #[.int .i64 (0), .slice xa (shF s cl (joinF (clmb s cl c).1 (-(clmb s cl c).2)) (-(clmb s cl c).2) 12).1.length (shF s cl (joinF (clmb s cl c).1 (-(clmb s cl c).2)) (-(clmb s cl c).2) 12).1.length, .int .i64 (-(clmb s cl c).2), .int .i64 ((shF s cl (joinF (clmb s cl c).1 (-(clmb s cl c).2)) (-(clmb s cl c).2) 12).2)]) rfl
            have hEh9 : Ext (fun k => k = h7.size) h8 h9 := by rw [← hh]; exact Ext.puts (S := fun k => k = h7.size) rfl _ _ _
            clear hh
            refine S_nil (hK22 _ _ (V_keep [0, 4, 8] (by simp only [proj, lk, reduceIte, Nat.reduceEqDiff]; rfl) ?_)); clear hK22
            refine V_sr T.mix (by kernel_rfl) (fun K23 hK23 => ?_)
            refine S_mv rfl ?_
            refine S_call T.hb128 rfl ?_
            refine FC.mono (wipe_spec h9 K C X (joinF (clmb s cl c).1 (-(clmb s cl c).2)) (s.k : Int) ((((hB6.ext hE7 (fun f => f)).ext hEh8 (fun f => f)).ext hEh9 (fun e => by have h9 := hEh8.1; omega)))) ?_
            rintro v' h10 ⟨rfl, hB10, hE10⟩
            have hO10 := hO9.ext hE10 (fun e => by omega)
            have hR10 := (((((hR5.ext hE6 (fun e => by omega)).ext hE7 (fun f => f)).ext hEh8 (fun f => f)).ext hEh9 (fun e => by omega)).ext hE10 (fun e => by omega))
            have hrok : ∀ j, j < 4 → okPut h10 ⟨h.size, j, none⟩ = true := fun j hj => (hR10).ok (by simpa using hj)
            refine S_nil (hK23 _ _ (V_keep [4, 8] (by simp only [proj, lk, reduceIte, Nat.reduceEqDiff]; rfl) ?_)); clear hK23
            refine V_sr T.mix (by kernel_rfl) (fun K24 hK24 => ?_)
            refine S_ldn T.ag148 rfl (hO10.all rfl) ?_
            refine S_stl T.sz148 rfl rfl rfl rfl (fun j hj => by simp (disch := omega) only [hrok]) ?_
            generalize hh : putsH _ _ _ _ = h11
            have hR9 : B h11 (h.size) #[.int .i64 (0), .slice xa (shF s cl (joinF (clmb s cl c).1 (-(clmb s cl c).2)) (-(clmb s cl c).2) 12).1.length (shF s cl (joinF (clmb s cl c).1 (-(clmb s cl c).2)) (-(clmb s cl c).2) 12).1.length, .int .i64 (-(clmb s cl c).2), .int .i64 ((shF s cl (joinF (clmb s cl c).1 (-(clmb s cl c).2)) (-(clmb s cl c).2) 12).2)] 148 := by rw [← hh]; exact B.puts_all (hR10) (cs' := #[.int .i64 (0), .slice xa (shF s cl (joinF (clmb s cl c).1 (-(clmb s cl c).2)) (-(clmb s cl c).2) 12).1.length (shF s cl (joinF (clmb s cl c).1 (-(clmb s cl c).2)) (-(clmb s cl c).2) 12).1.length, .int .i64 (-(clmb s cl c).2), .int .i64 ((shF s cl (joinF (clmb s cl c).1 (-(clmb s cl c).2)) (-(clmb s cl c).2) 12).2)]) rfl
            have hEh11 : Ext (fun k => k = h.size) h10 h11 := by rw [← hh]; exact Ext.puts (S := fun k => k = h.size) rfl _ _ _
            clear hh
            refine S_nil (hK24 _ _ (V_keep [4] (by simp only [proj, lk, reduceIte, Nat.reduceEqDiff]; rfl) ?_)); clear hK24
            refine V_ret ?_
            refine hR _ _ (retc1 rfl rfl T.ag148 hR9 (by rfl) ?_)
            have hae : (analyzeF s cl conf) = ⟨0, (shF s cl (joinF (clmb s cl c).1 (-(clmb s cl c).2)) (-(clmb s cl c).2) 12).1, -(clmb s cl c).2, (shF s cl (joinF (clmb s cl c).1 (-(clmb s cl c).2)) (-(clmb s cl c).2) 12).2⟩ := by unfold analyzeF; rw [hlv]; simp only []; rw [if_pos hal, if_neg hk0, if_neg c80, if_neg c84]
            rw [hae]
            have hs8 := hEh8.1
            have hs9 := hEh9.1
            have hs10 := hE10.1
            refine ⟨xa, rfl, ?_, hxn, fun b e => by have h9 := hxb b e; omega, hB10.ext hEh11 (fun e => by omega), ?_⟩
            · exact ((((hIx.ext hEh8 (fun _ _ f => f)).ext hEh9 (fun b e z => by have h9 := hIx.lt e; omega)).ext hE10 (fun b e z => by have h9 := hxb b e; omega)).ext hEh11 (fun b e z => by have h9 := hxb b e; omega))
            · exact (((((((((hE02.mono fun _ f => f.elim).trans hEh3).trans hE4).trans hE5).trans hE6).trans (hE7.mono fun _ f => f.elim)).trans (hEh8.mono fun _ f => f.elim)).step hEh9 (fun b hb e => by omega)).trans hE10).step hEh11 (fun b hb e => by omega)
end Go.Proofs.Qxb6500401aGreat
