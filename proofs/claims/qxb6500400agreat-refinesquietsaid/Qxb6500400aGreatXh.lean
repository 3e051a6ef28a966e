import Derived.Test.Qxb6500400aGreatXg
import Derived.Test.Qxb6500400aGreatXe
set_option linter.unusedVariables false
set_option linter.unusedSimpArgs false
namespace Go.Proofs.Qxb6500400aGreat
open Go.Eng Go.Trl Go.Chk Go.Wat

theorem val1 {cc : List Int} {x v : Int} (hn : Nrm cc) (hx : x ≠ 0) (h : ValR cc x v) : v = 1 ↔ x ∈ cc := by
  rcases h with q | q | q
  · exact ⟨fun _ => q.2, fun _ => q.1⟩
  · exact ⟨fun e => by omega, fun e => by have := hn.inj e q.2 (by simp); omega⟩
  · exact ⟨fun e => by omega, fun e => absurd e q.2.1⟩
theorem valf {on : List Int} {x v : Int} (hc : Con (· ∈ on)) (h : ValR on x v) : v = -1 ↔ -x ∈ on := by
  rcases h with q | q | q
  · exact ⟨fun e => by omega, fun e => absurd e (hc x q.2)⟩
  · exact ⟨fun _ => q.2, fun _ => q.1⟩
  · exact ⟨fun e => by omega, fun e => absurd e q.2.2⟩
theorem bud_some {cl : Nat → Option (List Int)} {due : Nat → Bool} {ls : List Int} {c0 n i : Nat} {cc : List Int} (h : cl i = some cc) : bud cl due ls c0 n i = (if due i then 1 else 0) + nc (some cc) ls c0 n := by unfold bud; rw [h]
theorem bud_none {cl : Nat → Option (List Int)} {due : Nat → Bool} {ls : List Int} {c0 n i : Nat} (h : cl i = none) : bud cl due ls c0 n i = 0 := by unfold bud; rw [h]
theorem bud_sum (cl : Nat → Option (List Int)) (due : Nat → Bool) (ls : List Int) (c0 n i : Nat) (hn : n ≤ 12) (hi : i ≤ 52) : sumN (bud cl due ls c0 n) i ≤ 13 * i := by
  have := sumN_bd (f := bud cl due ls c0 n) (b := 13) i (fun j _ => Nat.le_trans (bud_le cl due ls c0 n j) (by omega)); omega
theorem nc_val {cc ls : List Int} {c0 j : Nat} (h : c0 ≤ j) : nc (some cc) ls c0 (j + 1) = nc (some cc) ls c0 j + if -(ls.getD j 0) ∈ cc then 1 else 0 := nc_step (some cc) ls h
set_option maxHeartbeats 400000 in
theorem slack_spec (h : Heap) (ac : Option Addr) (cap : Nat) (c : List Int) (hc : IL h ac cap c) (hn : Nrm c) (ao : Option Addr) (oc : Nat) (on : List Int) (ho : IL h ao oc on) (hlo : on.length ≤ 1000) (hcon : Con (· ∈ on)) :
    FC Tryz.prog 124 (#[.slice ac c.length cap, .slice ao on.length oc] : Array Value) h fun rv h' => rv = .int .i64 ((slk c on : Nat) : Int) ∧ h = h' := by
  have hcl := hn.len
  refine FC_of [(0, .slice ac c.length cap), (1, .slice ao on.length oc)] Tryz.func124 rfl Tryz.ntmps124 (by simp) rfl (fun R hR => ?_)
  refine V_sr T.mix (by kernel_rfl) (fun K1 hK1 => ?_)
  refine S_as rfl ?_
  refine S_nil (hK1 _ _ (V_keep [0, 1] (by simp only [proj, lk, reduceIte, Nat.reduceEqDiff]; rfl) ?_)); clear hK1
  refine V_sr T.mix (by kernel_rfl) (fun K2 hK2 => ?_)
  refine S_as rfl ?_
  refine S_nil (hK2 _ _ (V_keep [0, 1, 5] (by simp only [proj, lk, reduceIte, Nat.reduceEqDiff]; rfl) ?_)); clear hK2
  refine V_seq (fun K3 hK3 => ?_)
  refine V_sr T.mix (by kernel_rfl) (fun K4 hK4 => ?_)
  refine S_as rfl ?_
  refine S_nil (hK4 _ _ (V_keep [0, 1, 5, 6] (by simp only [proj, lk, reduceIte, Nat.reduceEqDiff]; rfl) ?_)); clear hK4
  refine V_block ?_
  refine V_loop (fun m l h' => ∃ (i : Nat) (n : Nat), (i ≤ c.length) ∧ (n = slk (c.take i) on) ∧ (n ≤ i) ∧ m = c.length - i ∧ l = [(0, .slice ac c.length cap), (1, .slice ao on.length oc), (5, .int .i64 (n : Int)), (6, .int .i64 (i : Int))] ∧ h = h') _ ⟨0, 0, by omega, by simp [slk], by omega, rfl, rfl, rfl⟩ ?_
  rintro m l h' ⟨i, n, hi, hnn, hni, rfl, rfl, rfl⟩ K5 hK5
  refine V_seq (fun K6 hK6 => ?_)
  refine V_sr T.mix (by kernel_rfl) (fun K7 hK7 => ?_)
  refine S_mv rfl ?_
  refine S_mv rfl ?_
  refine S_lenl T.el39 rfl ?_
  refine S_bin rfl rfl rfl ?_
  refine S_nil (hK7 _ _ (V_keep [0, 1, 5, 6, 10] (by simp only [proj, lk, reduceIte, Nat.reduceEqDiff]; rfl) ?_)); clear hK7
  refine V_condp rfl (fun c143 => ?_) (fun c143 => ?_)
  · skip
    obtain ⟨bb, rfl, _, _, _⟩ := hc.get (by omega)
    have hgd := gd_getD hn.1 (show i < c.length by omega)
    unfold gd at hgd
    refine V_skipk [0, 1, 5, 6] (by simp only [proj, lk, reduceIte, Nat.reduceEqDiff]; rfl) ?_
    refine hK6 _ _ ?_; clear hK6
    refine V_seq (fun K8 hK8 => ?_)
    refine V_block ?_
    refine V_sr T.mix (by kernel_rfl) (fun K9 hK9 => ?_)
    refine S_mv rfl ?_
    refine S_mv rfl ?_
    first | refine S_ixn T.el39 rfl rfl (by omega) ?_ | refine S_ix1 T.el39 rfl rfl (by omega) (by omega) ?_ | refine S_ix T.el39 rfl rfl (by omega) (by omega) ?_
    refine S_ldK T.ag3 rfl (fun K' hK' => ?_)
    simp (disch := omega) only [hc.at, oP_some, Nat.add_zero]
    refine hK' _ ?_; clear hK' K'
    refine S_mv rfl ?_
    refine S_call T.hb122 rfl ?_
    refine FC.mono (val_spec h (c.getD i 0) (by omega) ao oc on ho (by omega)) ?_
    rintro v' h' ⟨v, rfl, hv, rfl⟩
    refine S_bin rfl rfl rfl ?_
    refine S_nil (hK9 _ _ (V_keep [0, 1, 5, 6, 19] (by simp only [proj, lk, reduceIte, Nat.reduceEqDiff]; rfl) ?_)); clear hK9
    refine V_condp rfl (fun c144 => ?_) (fun c144 => ?_)
    · skip
      have hnf : ¬ -(c.getD i 0) ∈ on := fun e => c144 ((valf hcon hv).2 e)
      refine V_reg T.mix (by kernel_rfl) ?_
      refine S_mv rfl ?_
      first | refine S_add rfl rfl (by omega) (by omega) ?_ | refine S_bin rfl rfl rfl ?_
      refine S_as rfl ?_
      refine S_nilk [0, 1, 5, 6] (by simp only [proj, lk, reduceIte, Nat.reduceEqDiff]; rfl) ?_
      refine hK8 _ _ ?_; clear hK8
      refine V_reg T.mix (by kernel_rfl) ?_
      refine S_mv rfl ?_
      first | refine S_add rfl rfl (by omega) (by omega) ?_ | refine S_bin rfl rfl rfl ?_
      refine S_as rfl ?_
      refine S_nilk [0, 1, 5, 6] (by simp only [proj, lk, reduceIte, Nat.reduceEqDiff]; rfl) ?_
      exact hK5 _ _ ⟨_, by omega, i + 1, n + 1, by omega, by rw [slk_snoc (by omega), if_neg hnf, hnn], by omega, rfl, rfl, rfl⟩
    · skip
      have hff : -(c.getD i 0) ∈ on := (valf hcon hv).1 (by omega)
      refine V_skipk [0, 1, 5, 6] (by simp only [proj, lk, reduceIte, Nat.reduceEqDiff]; rfl) ?_
      refine hK8 _ _ ?_; clear hK8
      refine V_reg T.mix (by kernel_rfl) ?_
      refine S_mv rfl ?_
      first | refine S_add rfl rfl (by omega) (by omega) ?_ | refine S_bin rfl rfl rfl ?_
      refine S_as rfl ?_
      refine S_nilk [0, 1, 5, 6] (by simp only [proj, lk, reduceIte, Nat.reduceEqDiff]; rfl) ?_
      exact hK5 _ _ ⟨_, by omega, i + 1, n, by omega, by rw [slk_snoc (by omega), if_pos hff, hnn]; rfl, by omega, rfl, rfl, rfl⟩
  · skip
    refine V_exitk [5] rfl (by simp only [proj, lk, reduceIte, Nat.reduceEqDiff]; rfl) ?_
    refine hK3 _ _ ?_; clear hK3
    refine V_sr T.mix (by kernel_rfl) (fun K10 hK10 => ?_)
    refine S_mv rfl ?_
    refine S_as rfl ?_
    refine S_nil (hK10 _ _ (V_keep [4] (by simp only [proj, lk, reduceIte, Nat.reduceEqDiff]; rfl) ?_)); clear hK10
    refine V_ret ?_
    refine hR _ _ (ret1 rfl rfl ?_)
    have hie : i = c.length := by omega
    rw [hie, List.take_length] at hnn
    exact ⟨by rw [hnn], rfl⟩
set_option maxHeartbeats 400000 in
theorem mwvisits_spec (h : Heap) (M Y : Nat) (mm : MC) (cl : Nat → Option (List Int)) (G F : Nat → Prop) (s : TS) (mv : MV h M Y mm cl G F s) :
    FC Tryz.prog 38 (#[.pointer (some ⟨M, 0, none⟩)] : Array Value) h fun rv h' => rv = .int .i64 (mm.seen : Int) ∧ h = h' := by
  have hB := mv.b
  have hE := Ext.refl (fun x => x = M) h
  refine FC_of [(0, .pointer (some ⟨M, 0, none⟩))] Tryz.func38 rfl Tryz.ntmps38 (by simp) rfl (fun R hR => ?_)
  refine V_sr T.mix (by kernel_rfl) (fun K1 hK1 => ?_)
  refine S_as rfl ?_
  refine S_nil (hK1 _ _ (V_keep [0] (by simp only [proj, lk, reduceIte, Nat.reduceEqDiff]; rfl) ?_)); clear hK1
  refine V_sr T.mix (by kernel_rfl) (fun K2 hK2 => ?_)
  refine S_mv rfl ?_
  refine S_nc rfl ?_
  first | refine S_fa0 T.f91_4 rfl ?_ | refine S_fa T.f91_4 rfl ?_
  refine S_ldK T.ag3 rfl (fun K' hK' => ?_)
  simp (disch := omega) only [mlT hB, mlUsed hB, mlCl hB, mlDue hB, mlSeen hB, oP_some, Nat.add_zero]
  refine hK' _ ?_; clear hK' K'
  refine S_as rfl ?_
  refine S_nil (hK2 _ _ (V_keep [2] (by simp only [proj, lk, reduceIte, Nat.reduceEqDiff]; rfl) ?_)); clear hK2
  refine V_ret ?_
  refine hR _ _ (ret1 rfl rfl ?_)
  exact ⟨rfl, rfl⟩
set_option maxHeartbeats 400000 in
theorem ripe_spec (h : Heap) (M Y : Nat) (mm : MC) (cl : Nat → Option (List Int)) (G F : Nat → Prop) (s : TS) (mv : MV h M Y mm cl G F s) (hD : ∀ j, j < 52 → ∀ cc, cl j = some cc → Done (· ∈ lits s.L) cc) :
    FC Tryz.prog 98 (#[.pointer (some ⟨M, 0, none⟩)] : Array Value) h fun rv h' => rv = .slice none 0 0 ∧ Ext (fun _ => False) h h' := by
  have hB := mv.b
  have hE := Ext.refl (fun x => x = M) h
  have hl12 := mv.t.ok.len
  have hll := lits_len s.L
  have hcon := con_lits mv.t.ok
  refine FC_of [(0, .pointer (some ⟨M, 0, none⟩))] Tryz.func98 rfl Tryz.ntmps98 (by simp) rfl (fun R hR => ?_)
  refine V_sr T.mix (by kernel_rfl) (fun K1 hK1 => ?_)
  refine S_as rfl ?_
  refine S_nil (hK1 _ _ (V_keep [0] (by simp only [proj, lk, reduceIte, Nat.reduceEqDiff]; rfl) ?_)); clear hK1
  refine V_sr T.mix (by kernel_rfl) (fun K2 hK2 => ?_)
  refine S_mv rfl ?_
  refine S_call T.hb96 rfl ?_
  refine FC.mono (mon_spec h M Y mm cl G F s mv) ?_
  rintro v' h1 ⟨oa, oc, rfl, hon, hE1⟩
  have hI1 : IL h1 oa oc (lits s.L) := own0 hon
  have mv1 := mv.ext hE1 (fun f => f) (fun _ _ f => f) (fun _ _ f => f)
  clear hB
  have hB := mv1.b
  refine S_as rfl ?_
  refine S_nil (hK2 _ _ (V_keep [0, 3] (by simp only [proj, lk, reduceIte, Nat.reduceEqDiff]; rfl) ?_)); clear hK2
  refine V_sr T.mix (by kernel_rfl) (fun K3 hK3 => ?_)
  refine S_as rfl ?_
  refine S_nil (hK3 _ _ (V_keep [0, 3, 4] (by simp only [proj, lk, reduceIte, Nat.reduceEqDiff]; rfl) ?_)); clear hK3
  refine V_seq (fun K4 hK4 => ?_)
  refine V_sr T.mix (by kernel_rfl) (fun K5 hK5 => ?_)
  refine S_as rfl ?_
  refine S_nil (hK5 _ _ (V_keep [0, 3, 4, 5] (by simp only [proj, lk, reduceIte, Nat.reduceEqDiff]; rfl) ?_)); clear hK5
  refine V_block ?_
  refine V_loop (fun m l h' => ∃ (i : Nat), (i ≤ 52) ∧ m = 52 - i ∧ l = [(0, .pointer (some ⟨M, 0, none⟩)), (3, .slice oa (lits s.L).length oc), (4, .slice none 0 0), (5, .int .i64 (i : Int))] ∧ h1 = h') _ ⟨0, by omega, rfl, rfl, rfl⟩ ?_
  rintro m l h' ⟨i, hi, rfl, rfl, rfl⟩ K6 hK6
  refine V_seq (fun K7 hK7 => ?_)
  refine V_sr T.mix (by kernel_rfl) (fun K8 hK8 => ?_)
  refine S_mv rfl ?_
  refine S_bin rfl rfl rfl ?_
  refine S_nil (hK8 _ _ (V_keep [0, 3, 4, 5, 11] (by simp only [proj, lk, reduceIte, Nat.reduceEqDiff]; rfl) ?_)); clear hK8
  refine V_condp rfl (fun c129 => ?_) (fun c129 => ?_)
  · skip
    refine V_skipk [0, 3, 4, 5] (by simp only [proj, lk, reduceIte, Nat.reduceEqDiff]; rfl) ?_
    refine hK7 _ _ ?_; clear hK7
    refine V_seq (fun K9 hK9 => ?_)
    refine V_block ?_
    refine V_sr T.mix (by kernel_rfl) (fun K10 hK10 => ?_)
    refine S_mv rfl ?_
    refine S_mv rfl ?_
    refine S_nc rfl ?_
    first | refine S_fa0 T.f91_1 rfl ?_ | refine S_fa T.f91_1 rfl ?_
    first | refine S_ixan T.ar88 rfl rfl (by omega) ?_ | refine S_ixa1 T.ar88 rfl rfl (by omega) (by omega) ?_
    refine S_ldK T.ag4 rfl (fun K' hK' => ?_)
    simp (disch := omega) only [mlT hB, mlUsed hB, mlCl hB, mlDue hB, mlSeen hB, oP_some, Nat.add_zero]
    refine hK' _ ?_; clear hK' K'
    refine S_nil (hK10 _ _ (V_keep [0, 3, 4, 5, 19] (by simp only [proj, lk, reduceIte, Nat.reduceEqDiff]; rfl) ?_)); clear hK10
    refine V_condb rfl (fun c130 => ?_) (fun c130 => ?_)
    · skip
      obtain ⟨cc, hcl⟩ : ∃ cc, cl i = some cc := Option.isSome_iff_exists.1 (by rw [← mv.r.u i (by omega)]; simpa using c130)
      obtain ⟨hnr, hcn, hIc⟩ := mv1.r.c i (by omega) cc hcl
      refine V_sr T.mix (by kernel_rfl) (fun K11 hK11 => ?_)
      refine S_mv rfl ?_
      refine S_mv rfl ?_
      refine S_nc rfl ?_
      first | refine S_fa0 T.f91_2 rfl ?_ | refine S_fa T.f91_2 rfl ?_
      first | refine S_ixan T.ar89 rfl rfl (by omega) ?_ | refine S_ixa1 T.ar89 rfl rfl (by omega) (by omega) ?_
      refine S_ldK T.ag39 rfl (fun K' hK' => ?_)
      simp (disch := omega) only [mlCl hB, oP_some, Nat.add_zero]
      refine hK' _ ?_; clear hK' K'
      rw [hcn]
      refine S_mv rfl ?_
      refine S_call T.hb97 rfl ?_
      refine FC.mono (state_spec h1 (mm.ca i) cc.length cc hIc hnr oa oc (lits s.L) (hI1) (by omega) hcon) ?_
      rintro v' h' ⟨sv, uv, rfl, hst, rfl⟩
      have hpos := hst.fin hcon (hD i (by omega) cc hcl)
      refine S_mv rfl ?_
      refine S_ex rfl rfl ?_
      refine S_ex rfl rfl ?_
      refine S_as rfl ?_
      refine S_as rfl ?_
      refine S_nil (hK11 _ _ (V_keep [0, 3, 4, 5, 6] (by simp only [proj, lk, reduceIte, Nat.reduceEqDiff]; rfl) ?_)); clear hK11
      refine V_sr T.mix (by kernel_rfl) (fun K12 hK12 => ?_)
      refine S_mv rfl ?_
      refine S_bin rfl rfl rfl ?_
      refine S_nil (hK12 _ _ (V_keep [0, 3, 4, 5, 32] (by simp only [proj, lk, reduceIte, Nat.reduceEqDiff]; rfl) ?_)); clear hK12
      refine V_condp rfl (fun c132 => ?_) (fun c132 => ?_)
      · skip
        exfalso; omega
      · skip
        refine V_skipk [0, 3, 4, 5] (by simp only [proj, lk, reduceIte, Nat.reduceEqDiff]; rfl) ?_
        refine hK9 _ _ ?_; clear hK9
        refine V_reg T.mix (by kernel_rfl) ?_
        refine S_mv rfl ?_
        first | refine S_add rfl rfl (by omega) (by omega) ?_ | refine S_bin rfl rfl rfl ?_
        refine S_as rfl ?_
        refine S_nilk [0, 3, 4, 5] (by simp only [proj, lk, reduceIte, Nat.reduceEqDiff]; rfl) ?_
        exact hK6 _ _ ⟨_, by omega, i + 1, by omega, rfl, rfl, rfl⟩
    · skip
      refine V_skipk [0, 3, 4, 5] (by simp only [proj, lk, reduceIte, Nat.reduceEqDiff]; rfl) ?_
      refine hK9 _ _ ?_; clear hK9
      refine V_reg T.mix (by kernel_rfl) ?_
      refine S_mv rfl ?_
      first | refine S_add rfl rfl (by omega) (by omega) ?_ | refine S_bin rfl rfl rfl ?_
      refine S_as rfl ?_
      refine S_nilk [0, 3, 4, 5] (by simp only [proj, lk, reduceIte, Nat.reduceEqDiff]; rfl) ?_
      exact hK6 _ _ ⟨_, by omega, i + 1, by omega, rfl, rfl, rfl⟩
  · skip
    refine V_exitk [4] rfl (by simp only [proj, lk, reduceIte, Nat.reduceEqDiff]; rfl) ?_
    refine hK4 _ _ ?_; clear hK4
    refine V_sr T.mix (by kernel_rfl) (fun K13 hK13 => ?_)
    refine S_mv rfl ?_
    refine S_as rfl ?_
    refine S_nil (hK13 _ _ (V_keep [2] (by simp only [proj, lk, reduceIte, Nat.reduceEqDiff]; rfl) ?_)); clear hK13
    refine V_ret ?_
    refine hR _ _ (ret1 rfl rfl ?_)
    exact ⟨rfl, hE1⟩
set_option maxHeartbeats 400000 in
theorem budget_spec (h : Heap) (M Y : Nat) (mm : MC) (cl : Nat → Option (List Int)) (G F : Nat → Prop) (s : TS) (mv : MV h M Y mm cl G F s) (c0 : Nat) (hc0 : c0 ≤ s.L.length) :
    FC Tryz.prog 123 (#[.pointer (some ⟨M, 0, none⟩), .int .i64 (c0 : Int)] : Array Value) h fun rv h' => rv = .int .i64 ((sumN (bud cl mm.due (lits s.L) c0 s.L.length) 52 : Nat) : Int) ∧ h = h' := by
  have hB := mv.b
  have hE := Ext.refl (fun x => x = M) h
  have hl12 := mv.t.ok.len
  have hll := lits_len s.L
  have hcon := con_lits mv.t.ok
  refine FC_of [(0, .pointer (some ⟨M, 0, none⟩)), (1, .int .i64 (c0 : Int))] Tryz.func123 rfl Tryz.ntmps123 (by simp) rfl (fun R hR => ?_)
  refine V_sr T.mix (by kernel_rfl) (fun K1 hK1 => ?_)
  refine S_as rfl ?_
  refine S_nil (hK1 _ _ (V_keep [0, 1] (by simp only [proj, lk, reduceIte, Nat.reduceEqDiff]; rfl) ?_)); clear hK1
  refine V_sr T.mix (by kernel_rfl) (fun K2 hK2 => ?_)
  refine S_as rfl ?_
  refine S_nil (hK2 _ _ (V_keep [0, 1, 5] (by simp only [proj, lk, reduceIte, Nat.reduceEqDiff]; rfl) ?_)); clear hK2
  refine V_seq (fun K3 hK3 => ?_)
  refine V_sr T.mix (by kernel_rfl) (fun K4 hK4 => ?_)
  refine S_as rfl ?_
  refine S_nil (hK4 _ _ (V_keep [0, 1, 5, 6] (by simp only [proj, lk, reduceIte, Nat.reduceEqDiff]; rfl) ?_)); clear hK4
  refine V_block ?_
  refine V_loop (fun m l h' => ∃ (i : Nat), (i ≤ 52) ∧ m = 52 - i ∧ l = [(0, .pointer (some ⟨M, 0, none⟩)), (1, .int .i64 (c0 : Int)), (5, .int .i64 ((sumN (bud cl mm.due (lits s.L) c0 s.L.length) i : Nat) : Int)), (6, .int .i64 (i : Int))] ∧ h = h') _ ⟨0, by omega, rfl, rfl, rfl⟩ ?_
  rintro m l h' ⟨i, hi, rfl, rfl, rfl⟩ K5 hK5
  refine V_seq (fun K6 hK6 => ?_)
  refine V_sr T.mix (by kernel_rfl) (fun K7 hK7 => ?_)
  refine S_mv rfl ?_
  refine S_bin rfl rfl rfl ?_
  refine S_nil (hK7 _ _ (V_keep [0, 1, 5, 6, 10] (by simp only [proj, lk, reduceIte, Nat.reduceEqDiff]; rfl) ?_)); clear hK7
  refine V_condp rfl (fun c154 => ?_) (fun c154 => ?_)
  · skip
    have hbs := bud_sum cl mm.due (lits s.L) c0 s.L.length i (by omega) (by omega)
    refine V_skipk [0, 1, 5, 6] (by simp only [proj, lk, reduceIte, Nat.reduceEqDiff]; rfl) ?_
    refine hK6 _ _ ?_; clear hK6
    refine V_seq (fun K8 hK8 => ?_)
    refine V_block ?_
    refine V_sr T.mix (by kernel_rfl) (fun K9 hK9 => ?_)
    refine S_mv rfl ?_
    refine S_mv rfl ?_
    refine S_nc rfl ?_
    first | refine S_fa0 T.f91_1 rfl ?_ | refine S_fa T.f91_1 rfl ?_
    first | refine S_ixan T.ar88 rfl rfl (by omega) ?_ | refine S_ixa1 T.ar88 rfl rfl (by omega) (by omega) ?_
    refine S_ldK T.ag4 rfl (fun K' hK' => ?_)
    simp (disch := omega) only [mlT hB, mlUsed hB, mlCl hB, mlDue hB, mlSeen hB, oP_some, Nat.add_zero]
    refine hK' _ ?_; clear hK' K'
    refine S_nil (hK9 _ _ (V_keep [0, 1, 5, 6, 18] (by simp only [proj, lk, reduceIte, Nat.reduceEqDiff]; rfl) ?_)); clear hK9
    refine V_condb rfl (fun c155 => ?_) (fun c155 => ?_)
    · skip
      obtain ⟨cc, hcl⟩ : ∃ cc, cl i = some cc := Option.isSome_iff_exists.1 (by rw [← mv.r.u i (by omega)]; simpa using c155)
      obtain ⟨hnr, hcn, hIc⟩ := mv.r.c i (by omega) cc hcl
      have hcl12 := hnr.len
      refine V_seqJ (fun l h' => ∃ (n0 : Nat), (n0 = sumN (bud cl mm.due (lits s.L) c0 s.L.length) i + (if mm.due i then 1 else 0)) ∧ l = [(0, .pointer (some ⟨M, 0, none⟩)), (1, .int .i64 (c0 : Int)), (5, .int .i64 (n0 : Int)), (6, .int .i64 (i : Int))] ∧ h = h') ?_ ?_
      · skip
        refine V_sr T.mix (by kernel_rfl) (fun K11 hK11 => ?_)
        refine S_mv rfl ?_
        refine S_mv rfl ?_
        refine S_nc rfl ?_
        first | refine S_fa0 T.f91_3 rfl ?_ | refine S_fa T.f91_3 rfl ?_
        first | refine S_ixan T.ar88 rfl rfl (by omega) ?_ | refine S_ixa1 T.ar88 rfl rfl (by omega) (by omega) ?_
        refine S_ldK T.ag4 rfl (fun K' hK' => ?_)
        simp (disch := omega) only [mlT hB, mlUsed hB, mlCl hB, mlDue hB, mlSeen hB, oP_some, Nat.add_zero]
        refine hK' _ ?_; clear hK' K'
        refine S_nil (hK11 _ _ (V_keep [0, 1, 5, 6, 24] (by simp only [proj, lk, reduceIte, Nat.reduceEqDiff]; rfl) ?_)); clear hK11
        refine V_condb rfl (fun c156 => ?_) (fun c156 => ?_)
        · skip
          refine V_reg T.mix (by kernel_rfl) ?_
          refine S_mv rfl ?_
          first | refine S_add rfl rfl (by omega) (by omega) ?_ | refine S_bin rfl rfl rfl ?_
          refine S_as rfl ?_
          refine S_nilk [0, 1, 5, 6] (by simp only [proj, lk, reduceIte, Nat.reduceEqDiff]; rfl) ?_
          exact ⟨sumN (bud cl mm.due (lits s.L) c0 s.L.length) i + 1, by rw [if_pos (by simpa using c156)], rfl, rfl⟩
        · skip
          refine V_skipk [0, 1, 5, 6] (by simp only [proj, lk, reduceIte, Nat.reduceEqDiff]; rfl) ?_
          exact ⟨sumN (bud cl mm.due (lits s.L) c0 s.L.length) i, by rw [if_neg (by simpa using c156)]; rfl, rfl, rfl⟩
      rintro l h' ⟨n0, hn0, rfl, rfl⟩
      have hn0b : n0 ≤ 13 * i + 1 := by rw [hn0]; split <;> omega
      refine V_sr T.mix (by kernel_rfl) (fun K12 hK12 => ?_)
      refine S_mv rfl ?_
      refine S_as rfl ?_
      refine S_nil (hK12 _ _ (V_keep [0, 1, 5, 6, 7] (by simp only [proj, lk, reduceIte, Nat.reduceEqDiff]; rfl) ?_)); clear hK12
      refine V_block ?_
      refine V_loop (fun m l h' => ∃ (j : Nat) (n1 : Nat), (c0 ≤ j) ∧ (j ≤ s.L.length) ∧ (n1 = n0 + (nc (some cc) (lits s.L) c0 j)) ∧ m = s.L.length - j ∧ l = [(0, .pointer (some ⟨M, 0, none⟩)), (1, .int .i64 (c0 : Int)), (5, .int .i64 (n1 : Int)), (6, .int .i64 (i : Int)), (7, .int .i64 (j : Int))] ∧ h = h') _ ⟨c0, n0, by omega, hc0, by rw [nc_self]; rfl, rfl, rfl, rfl⟩ ?_
      rintro m l h' ⟨j, n1, hj1, hj2, hn1, rfl, rfl, rfl⟩ K13 hK13
      have hncj := nc_le (some cc) (lits s.L) c0 j
      refine V_seq (fun K14 hK14 => ?_)
      refine V_sr T.mix (by kernel_rfl) (fun K15 hK15 => ?_)
      refine S_mv rfl ?_
      refine S_mv rfl ?_
      refine S_nc rfl ?_
      first | refine S_fa0 T.f91_0 rfl ?_ | refine S_fa T.f91_0 rfl ?_
      refine S_ldK T.ag34 rfl (fun K' hK' => ?_)
      simp (disch := omega) only [mlT hB, mlUsed hB, mlCl hB, mlDue hB, mlSeen hB, oP_some, Nat.add_zero]
      refine hK' _ ?_; clear hK' K'
      refine S_call T.hb50 rfl ?_
      refine FC.mono (mlen_spec h Y F s mv.t) ?_
      rintro v' h' ⟨rfl, rfl⟩
      refine S_bin rfl rfl rfl ?_
      refine S_nil (hK15 _ _ (V_keep [0, 1, 5, 6, 7, 34] (by simp only [proj, lk, reduceIte, Nat.reduceEqDiff]; rfl) ?_)); clear hK15
      refine V_condp rfl (fun c159 => ?_) (fun c159 => ?_)
      · skip
        have hgj : gd ((lits s.L).getD j 0) := gd_lits mv.t.ok (mem_at (by omega))
        unfold gd at hgj
        refine V_skipk [0, 1, 5, 6, 7] (by simp only [proj, lk, reduceIte, Nat.reduceEqDiff]; rfl) ?_
        refine hK14 _ _ ?_; clear hK14
        refine V_seq (fun K16 hK16 => ?_)
        refine V_block ?_
        refine V_sr T.mix (by kernel_rfl) (fun K17 hK17 => ?_)
        refine S_mv rfl ?_
        refine S_nc rfl ?_
        first | refine S_fa0 T.f91_0 rfl ?_ | refine S_fa T.f91_0 rfl ?_
        refine S_ldK T.ag34 rfl (fun K' hK' => ?_)
        simp (disch := omega) only [mlT hB, mlUsed hB, mlCl hB, mlDue hB, mlSeen hB, oP_some, Nat.add_zero]
        refine hK' _ ?_; clear hK' K'
        refine S_mv rfl ?_
        refine S_call T.hb56 rfl ?_
        refine FC.mono (mat_spec h Y F s mv.t (j : Int)) ?_
        rintro v' h' ⟨rfl, rfl⟩
        rw [atL_eq (show j < s.L.length by omega)]
        refine S_as rfl ?_
        refine S_nil (hK17 _ _ (V_keep [0, 1, 5, 6, 7, 8] (by simp only [proj, lk, reduceIte, Nat.reduceEqDiff]; rfl) ?_)); clear hK17
        refine V_sr T.mix (by kernel_rfl) (fun K18 hK18 => ?_)
        refine S_mv rfl ?_
        first | refine S_neg rfl (by omega) (by omega) ?_ | refine S_un rfl rfl ?_
        refine S_mv rfl ?_
        refine S_mv rfl ?_
        refine S_nc rfl ?_
        first | refine S_fa0 T.f91_2 rfl ?_ | refine S_fa T.f91_2 rfl ?_
        first | refine S_ixan T.ar89 rfl rfl (by omega) ?_ | refine S_ixa1 T.ar89 rfl rfl (by omega) (by omega) ?_
        refine S_ldK T.ag39 rfl (fun K' hK' => ?_)
        simp (disch := omega) only [mlCl hB, oP_some, Nat.add_zero]
        refine hK' _ ?_; clear hK' K'
        rw [hcn]
        refine S_call T.hb122 rfl ?_
        refine FC.mono (val_spec h (-((lits s.L).getD j 0)) (by omega) (mm.ca i) cc.length cc hIc (by omega)) ?_
        rintro v' h' ⟨v, rfl, hv, rfl⟩
        have hv1 := val1 hnr (by omega) hv
        refine S_bin rfl rfl rfl ?_
        refine S_nil (hK18 _ _ (V_keep [0, 1, 5, 6, 7, 52] (by simp only [proj, lk, reduceIte, Nat.reduceEqDiff]; rfl) ?_)); clear hK18
        refine V_condp rfl (fun c161 => ?_) (fun c161 => ?_)
        · skip
          have hin := hv1.1 c161
          refine V_reg T.mix (by kernel_rfl) ?_
          refine S_mv rfl ?_
          first | refine S_add rfl rfl (by omega) (by omega) ?_ | refine S_bin rfl rfl rfl ?_
          refine S_as rfl ?_
          refine S_nilk [0, 1, 5, 6, 7] (by simp only [proj, lk, reduceIte, Nat.reduceEqDiff]; rfl) ?_
          refine hK16 _ _ ?_; clear hK16
          refine V_reg T.mix (by kernel_rfl) ?_
          refine S_mv rfl ?_
          first | refine S_add rfl rfl (by omega) (by omega) ?_ | refine S_bin rfl rfl rfl ?_
          refine S_as rfl ?_
          refine S_nilk [0, 1, 5, 6, 7] (by simp only [proj, lk, reduceIte, Nat.reduceEqDiff]; rfl) ?_
          exact hK13 _ _ ⟨_, by omega, j + 1, n1 + 1, by omega, by omega, by rw [nc_val hj1, if_pos hin, hn1, Nat.add_assoc], rfl, rfl, rfl⟩
        · skip
          have hnin : ¬ -((lits s.L).getD j 0) ∈ cc := fun e => c161 (hv1.2 e)
          refine V_skipk [0, 1, 5, 6, 7] (by simp only [proj, lk, reduceIte, Nat.reduceEqDiff]; rfl) ?_
          refine hK16 _ _ ?_; clear hK16
          refine V_reg T.mix (by kernel_rfl) ?_
          refine S_mv rfl ?_
          first | refine S_add rfl rfl (by omega) (by omega) ?_ | refine S_bin rfl rfl rfl ?_
          refine S_as rfl ?_
          refine S_nilk [0, 1, 5, 6, 7] (by simp only [proj, lk, reduceIte, Nat.reduceEqDiff]; rfl) ?_
          exact hK13 _ _ ⟨_, by omega, j + 1, n1, by omega, by omega, by rw [nc_val hj1, if_neg hnin, hn1]; rfl, rfl, rfl, rfl⟩
      · skip
        refine V_exitk [0, 1, 5, 6] rfl (by simp only [proj, lk, reduceIte, Nat.reduceEqDiff]; rfl) ?_
        refine hK8 _ _ ?_; clear hK8
        refine V_reg T.mix (by kernel_rfl) ?_
        refine S_mv rfl ?_
        first | refine S_add rfl rfl (by omega) (by omega) ?_ | refine S_bin rfl rfl rfl ?_
        refine S_as rfl ?_
        refine S_nilk [0, 1, 5, 6] (by simp only [proj, lk, reduceIte, Nat.reduceEqDiff]; rfl) ?_
        exact hK5 _ _ ⟨_, by omega, i + 1, by omega, rfl, by rw [hn1, show j = s.L.length by omega, hn0, sumN, bud_some hcl, Nat.add_assoc]; rfl, rfl⟩
    · skip
      have hnn : cl i = none := by cases e : cl i with
        | none => rfl
        | some cc => have h9 := mv.r.u i (by omega); rw [e, c155] at h9; cases h9
      refine V_skipk [0, 1, 5, 6] (by simp only [proj, lk, reduceIte, Nat.reduceEqDiff]; rfl) ?_
      refine hK8 _ _ ?_; clear hK8
      refine V_reg T.mix (by kernel_rfl) ?_
      refine S_mv rfl ?_
      first | refine S_add rfl rfl (by omega) (by omega) ?_ | refine S_bin rfl rfl rfl ?_
      refine S_as rfl ?_
      refine S_nilk [0, 1, 5, 6] (by simp only [proj, lk, reduceIte, Nat.reduceEqDiff]; rfl) ?_
      exact hK5 _ _ ⟨_, by omega, i + 1, by omega, rfl, by rw [sumN, bud_none hnn]; rfl, rfl⟩
  · skip
    refine V_exitk [5] rfl (by simp only [proj, lk, reduceIte, Nat.reduceEqDiff]; rfl) ?_
    refine hK3 _ _ ?_; clear hK3
    refine V_sr T.mix (by kernel_rfl) (fun K19 hK19 => ?_)
    refine S_mv rfl ?_
    refine S_as rfl ?_
    refine S_nil (hK19 _ _ (V_keep [4] (by simp only [proj, lk, reduceIte, Nat.reduceEqDiff]; rfl) ?_)); clear hK19
    refine V_ret ?_
    refine hR _ _ (ret1 rfl rfl ?_)
    have hi52 : i = 52 := by omega
    subst hi52
    exact ⟨rfl, rfl⟩
set_option maxHeartbeats 1600000 in
theorem end_spec (h : Heap) (M Y : Nat) (mm : MC) (cl : Nat → Option (List Int)) (G F : Nat → Prop) (s : TS) (mv : MV h M Y mm cl G F s) (conf : Int) (c0 left : Nat) (hc0 : c0 ≤ s.L.length) (hlf : left + s.c ≤ s.L.length) :
    FC Tryz.prog 99 (#[.pointer (some ⟨M, 0, none⟩), .int .i64 conf, .int .i64 (c0 : Int), .int .i64 (left : Int)] : Array Value) h fun rv h' => rv = .tuple #[] ∧ ∃ (mz : MC) (F' : Nat → Prop), MV h' M Y mz cl G F' ⟨s.L, s.k, s.L.length - left⟩ ∧ mz.seen = sumN (bud cl mm.due (lits s.L) c0 s.L.length) 52 ∧ (∀ j, j < 52 → ∀ cc, cl j = some cc → ((0 ≤ conf ∧ mm.due j = true) ∨ slk cc (lits s.L) < 2) → mz.due j = true) ∧ Ext (fun b => b = M ∨ F b) h h' ∧ (∀ b, F' b → F b ∨ h.size ≤ b) := by
  have hB := mv.b
  have hE := Ext.refl (fun x => x = M) h
  have hl12 := mv.t.ok.len
  have hll := lits_len s.L
  have hcon := con_lits mv.t.ok
  refine FC_of [(0, .pointer (some ⟨M, 0, none⟩)), (1, .int .i64 conf), (2, .int .i64 (c0 : Int)), (3, .int .i64 (left : Int))] Tryz.func99 rfl Tryz.ntmps99 (by simp) rfl (fun R hR => ?_)
  refine V_sr T.mix (by kernel_rfl) (fun K1 hK1 => ?_)
  refine S_mv rfl ?_
  refine S_mv rfl ?_
  refine S_mv rfl ?_
  refine S_call T.hb123 rfl ?_
  refine FC.mono (budget_spec h M Y mm cl G F s mv c0 hc0) ?_
  rintro v' h' ⟨rfl, rfl⟩
  refine S_nc rfl ?_
  first | refine S_fa0 T.f91_4 rfl ?_ | refine S_fa T.f91_4 rfl ?_
  refine S_st T.sz3 rfl rfl rfl rfl (by simp (disch := omega) only [mwok hB]) ?_
  generalize hh : putH _ _ _ = h0
  have hBh0 : MB h0 M Y { mm with seen := sumN (bud cl mm.due (lits s.L) c0 s.L.length) 52 } := by rw [← hh]; exact msSeen hB (sumN (bud cl mm.due (lits s.L) c0 s.L.length) 52)
  have hEh0 : Ext (fun x => x = M) h h0 := by rw [← hh]; exact Ext.put _ _ rfl
  clear hh
  replace hE := hE.trans hEh0
  clear hB
  have hB := hBh0
  refine S_nil (hK1 _ _ (V_keep [0, 1, 3] (by simp only [proj, lk, reduceIte, Nat.reduceEqDiff]; rfl) ?_)); clear hK1
  refine V_sr T.mix (by kernel_rfl) (fun K2 hK2 => ?_)
  refine S_mv rfl ?_
  refine S_call T.hb96 rfl ?_
  have mv0 : MV h0 M Y { mm with seen := sumN (bud cl mm.due (lits s.L) c0 s.L.length) 52 } cl G F s := mv.set hB ((mv.r.ext hE (fun b hb e => mv.nM.1 (e ▸ hb))).due _ _) hE
  refine FC.mono (mon_spec h0 M Y _ cl G F s mv0) ?_
  rintro v' h1 ⟨oa, oc, rfl, hon, hE1⟩
  have hI1 : IL h1 oa oc (lits s.L) := own0 hon
  have mv1 := mv0.ext hE1 (fun f => f) (fun _ _ f => f) (fun _ _ f => f)
  clear hB
  have hB := mv1.b
  replace hE := hE.trans (hE1.mono fun _ f => f.elim)
  have hob : ∀ b, blkA oa = some b → b ≠ M := fun b e z => by have h9 := (OwnR.blk2 hon e).1; have h8 := mv0.b.lt; omega
  refine S_as rfl ?_
  refine S_nil (hK2 _ _ (V_keep [0, 1, 3, 8] (by simp only [proj, lk, reduceIte, Nat.reduceEqDiff]; rfl) ?_)); clear hK2
  refine V_seq (fun K3 hK3 => ?_)
  refine V_sr T.mix (by kernel_rfl) (fun K4 hK4 => ?_)
  refine S_as rfl ?_
  refine S_nil (hK4 _ _ (V_keep [0, 1, 3, 8, 9] (by simp only [proj, lk, reduceIte, Nat.reduceEqDiff]; rfl) ?_)); clear hK4
  refine V_block ?_
  refine V_loop (fun m l h' => ∃ (i : Nat) (hk : Heap) (dk : Nat → Bool), (i ≤ 52) ∧ (MB hk M Y { mm with seen := sumN (bud cl mm.due (lits s.L) c0 s.L.length) 52, due := dk }) ∧ (∀ j, j < i → ∀ cc, cl j = some cc → ((0 ≤ conf ∧ mm.due j = true) ∨ slk cc (lits s.L) < 2) → dk j = true) ∧ (∀ j, i ≤ j → dk j = mm.due j) ∧ (Ext (fun x => x = M) h hk) ∧ (Ext (fun x => x = M) h1 hk) ∧ m = 52 - i ∧ l = [(0, .pointer (some ⟨M, 0, none⟩)), (1, .int .i64 conf), (3, .int .i64 (left : Int)), (8, .slice oa (lits s.L).length oc), (9, .int .i64 (i : Int))] ∧ hk = h') _ ⟨0, h1, mm.due, by omega, hB, fun j hj => by omega, fun j _ => rfl, hE, Ext.refl _ _, rfl, rfl, rfl⟩ ?_
  rintro m l h' ⟨i, hk, dk, hi, hBk, hdk, hdk2, hEk, hE1k, rfl, rfl, rfl⟩ K5 hK5
  clear hB hE
  have hB := hBk
  have hE := hEk
  refine V_seq (fun K6 hK6 => ?_)
  refine V_sr T.mix (by kernel_rfl) (fun K7 hK7 => ?_)
  refine S_mv rfl ?_
  refine S_bin rfl rfl rfl ?_
  refine S_nil (hK7 _ _ (V_keep [0, 1, 3, 8, 9, 19] (by simp only [proj, lk, reduceIte, Nat.reduceEqDiff]; rfl) ?_)); clear hK7
  refine V_condp rfl (fun c174 => ?_) (fun c174 => ?_)
  · skip
    refine V_skipk [0, 1, 3, 8, 9] (by simp only [proj, lk, reduceIte, Nat.reduceEqDiff]; rfl) ?_
    refine hK6 _ _ ?_; clear hK6
    refine V_seq (fun K8 hK8 => ?_)
    refine V_block ?_
    refine V_sr T.mix (by kernel_rfl) (fun K9 hK9 => ?_)
    refine S_mv rfl ?_
    refine S_mv rfl ?_
    refine S_nc rfl ?_
    first | refine S_fa0 T.f91_1 rfl ?_ | refine S_fa T.f91_1 rfl ?_
    first | refine S_ixan T.ar88 rfl rfl (by omega) ?_ | refine S_ixa1 T.ar88 rfl rfl (by omega) (by omega) ?_
    refine S_ldK T.ag4 rfl (fun K' hK' => ?_)
    simp (disch := omega) only [mlT hB, mlUsed hB, mlCl hB, mlDue hB, mlSeen hB, oP_some, Nat.add_zero]
    refine hK' _ ?_; clear hK' K'
    refine S_nil (hK9 _ _ (V_keep [0, 1, 3, 8, 9, 27] (by simp only [proj, lk, reduceIte, Nat.reduceEqDiff]; rfl) ?_)); clear hK9
    refine V_condb rfl (fun c175 => ?_) (fun c175 => ?_)
    · skip
      obtain ⟨cc, hcl⟩ : ∃ cc, cl i = some cc := Option.isSome_iff_exists.1 (by rw [← mv.r.u i (by omega)]; simpa using c175)
      obtain ⟨hnr, hcn, hIc⟩ := mv.r.c i (by omega) cc hcl
      have hcl12 := hnr.len
      refine V_seqJ (fun l h' => ∃ (h5 : Heap) (d5 : Nat → Bool), (MB h5 M Y { mm with seen := sumN (bud cl mm.due (lits s.L) c0 s.L.length) 52, due := d5 }) ∧ (∀ j, j ≠ i → d5 j = dk j) ∧ (0 ≤ conf → mm.due i = true → d5 i = true) ∧ (Ext (fun x => x = M) h h5) ∧ (Ext (fun x => x = M) h1 h5) ∧ l = [(0, .pointer (some ⟨M, 0, none⟩)), (1, .int .i64 conf), (3, .int .i64 (left : Int)), (8, .slice oa (lits s.L).length oc), (9, .int .i64 (i : Int))] ∧ h5 = h') ?_ ?_
      · skip
        refine V_sr T.mix (by kernel_rfl) (fun K11 hK11 => ?_)
        refine S_mv rfl ?_
        refine S_bin rfl rfl rfl ?_
        refine S_nil (hK11 _ _ (V_keep [0, 1, 3, 8, 9, 29] (by simp only [proj, lk, reduceIte, Nat.reduceEqDiff]; rfl) ?_)); clear hK11
        refine V_condp rfl (fun c176 => ?_) (fun c176 => ?_)
        · skip
          refine V_reg T.mix (by kernel_rfl) ?_
          refine S_mv rfl ?_
          refine S_mv rfl ?_
          refine S_nc rfl ?_
          first | refine S_fa0 T.f91_3 rfl ?_ | refine S_fa T.f91_3 rfl ?_
          first | refine S_ixan T.ar88 rfl rfl (by omega) ?_ | refine S_ixa1 T.ar88 rfl rfl (by omega) (by omega) ?_
          refine S_st T.sz4 rfl rfl rfl rfl (by simp (disch := omega) only [mwok hB]) ?_
          generalize hh : putH _ _ _ = hk1
          have hBhk1 : MB hk1 M Y { mm with seen := sumN (bud cl mm.due (lits s.L) c0 s.L.length) 52, due := upB dk i false } := by rw [← hh]; exact msDue hB i false (by omega)
          have hEhk1 : Ext (fun x => x = M) hk hk1 := by rw [← hh]; exact Ext.put _ _ rfl
          clear hh
          replace hE := hE.trans hEhk1
          clear hB
          have hB := hBhk1
          refine S_nilk [0, 1, 3, 8, 9] (by simp only [proj, lk, reduceIte, Nat.reduceEqDiff]; rfl) ?_
          exact ⟨hk1, _, hB, fun j e => by simp only [upB, if_neg e], fun e => by omega, hE, hE1k.trans hEhk1, rfl, rfl⟩
        · skip
          refine V_skipk [0, 1, 3, 8, 9] (by simp only [proj, lk, reduceIte, Nat.reduceEqDiff]; rfl) ?_
          exact ⟨hk, dk, hB, fun j e => rfl, fun _ e => by rw [hdk2 i (Nat.le_refl _)]; exact e, hE, hE1k, rfl, rfl⟩
      rintro l h' ⟨h5, d5, hB5, hd5, hd5i, hE5, hE15, rfl, rfl⟩
      clear hB hE
      have hB := hB5
      have hE := hE5
      refine V_sr T.mix (by kernel_rfl) (fun K12 hK12 => ?_)
      refine S_mv rfl ?_
      refine S_mv rfl ?_
      refine S_nc rfl ?_
      first | refine S_fa0 T.f91_2 rfl ?_ | refine S_fa T.f91_2 rfl ?_
      first | refine S_ixan T.ar89 rfl rfl (by omega) ?_ | refine S_ixa1 T.ar89 rfl rfl (by omega) (by omega) ?_
      refine S_ldK T.ag39 rfl (fun K' hK' => ?_)
      simp (disch := omega) only [mlCl hB, oP_some, Nat.add_zero]
      refine hK' _ ?_; clear hK' K'
      rw [hcn]
      refine S_mv rfl ?_
      refine S_call T.hb124 rfl ?_
      refine FC.mono (slack_spec h5 (mm.ca i) cc.length cc (hIc.ext hE5 (fun b e z => mv.nM.1 (z ▸ mv.r.g i (by omega) b e))) hnr oa oc (lits s.L) (hI1.ext hE15 (fun b e => hob b e)) (by omega) hcon) ?_
      rintro v' h' ⟨rfl, rfl⟩
      refine S_bin rfl rfl rfl ?_
      refine S_nil (hK12 _ _ (V_keep [0, 1, 3, 8, 9, 43] (by simp only [proj, lk, reduceIte, Nat.reduceEqDiff]; rfl) ?_)); clear hK12
      refine V_condp rfl (fun c179 => ?_) (fun c179 => ?_)
      · skip
        refine V_reg T.mix (by kernel_rfl) ?_
        refine S_mv rfl ?_
        refine S_mv rfl ?_
        refine S_nc rfl ?_
        first | refine S_fa0 T.f91_3 rfl ?_ | refine S_fa T.f91_3 rfl ?_
        first | refine S_ixan T.ar88 rfl rfl (by omega) ?_ | refine S_ixa1 T.ar88 rfl rfl (by omega) (by omega) ?_
        refine S_st T.sz4 rfl rfl rfl rfl (by simp (disch := omega) only [mwok hB]) ?_
        generalize hh : putH _ _ _ = h6
        have hBh6 : MB h6 M Y { mm with seen := sumN (bud cl mm.due (lits s.L) c0 s.L.length) 52, due := upB d5 i true } := by rw [← hh]; exact msDue hB i true (by omega)
        have hEh6 : Ext (fun x => x = M) h5 h6 := by rw [← hh]; exact Ext.put _ _ rfl
        clear hh
        replace hE := hE.trans hEh6
        clear hB
        have hB := hBh6
        refine S_nilk [0, 1, 3, 8, 9] (by simp only [proj, lk, reduceIte, Nat.reduceEqDiff]; rfl) ?_
        refine hK8 _ _ ?_; clear hK8
        refine V_reg T.mix (by kernel_rfl) ?_
        refine S_mv rfl ?_
        first | refine S_add rfl rfl (by omega) (by omega) ?_ | refine S_bin rfl rfl rfl ?_
        refine S_as rfl ?_
        refine S_nilk [0, 1, 3, 8, 9] (by simp only [proj, lk, reduceIte, Nat.reduceEqDiff]; rfl) ?_
        exact hK5 _ _ ⟨_, by omega, i + 1, h6, upB d5 i true, by omega, hB, fun j hj c2 e1 e2 => by by_cases e : j = i; (simp only [upB, if_pos e]); (simp only [upB, if_neg e]; rw [hd5 j e]; exact hdk j (by omega) c2 e1 e2), fun j hj => by simp only [upB, if_neg (show ¬ j = i by omega)]; rw [hd5 j (by omega)]; exact hdk2 j (by omega), hE, hE15.trans hEh6, rfl, rfl, rfl⟩
      · skip
        refine V_skipk [0, 1, 3, 8, 9] (by simp only [proj, lk, reduceIte, Nat.reduceEqDiff]; rfl) ?_
        refine hK8 _ _ ?_; clear hK8
        refine V_reg T.mix (by kernel_rfl) ?_
        refine S_mv rfl ?_
        first | refine S_add rfl rfl (by omega) (by omega) ?_ | refine S_bin rfl rfl rfl ?_
        refine S_as rfl ?_
        refine S_nilk [0, 1, 3, 8, 9] (by simp only [proj, lk, reduceIte, Nat.reduceEqDiff]; rfl) ?_
        exact hK5 _ _ ⟨_, by omega, i + 1, h5, d5, by omega, hB, fun j hj c2 e1 e2 => by by_cases e : j = i; (subst e; rw [hcl] at e1; cases e1; rcases e2 with q | q; (exact hd5i q.1 q.2); (omega)); (rw [hd5 j e]; exact hdk j (by omega) c2 e1 e2), fun j hj => by rw [hd5 j (by omega)]; exact hdk2 j (by omega), hE, hE15, rfl, rfl, rfl⟩
    · skip
      have hnn : cl i = none := by cases e : cl i with
        | none => rfl
        | some cc => have h9 := mv.r.u i (by omega); rw [e, c175] at h9; cases h9
      refine V_skipk [0, 1, 3, 8, 9] (by simp only [proj, lk, reduceIte, Nat.reduceEqDiff]; rfl) ?_
      refine hK8 _ _ ?_; clear hK8
      refine V_reg T.mix (by kernel_rfl) ?_
      refine S_mv rfl ?_
      first | refine S_add rfl rfl (by omega) (by omega) ?_ | refine S_bin rfl rfl rfl ?_
      refine S_as rfl ?_
      refine S_nilk [0, 1, 3, 8, 9] (by simp only [proj, lk, reduceIte, Nat.reduceEqDiff]; rfl) ?_
      exact hK5 _ _ ⟨_, by omega, i + 1, hk, dk, by omega, hB, fun j hj c2 e1 e2 => by by_cases e : j = i; (subst e; rw [hnn] at e1; cases e1); (exact hdk j (by omega) c2 e1 e2), fun j hj => hdk2 j (by omega), hE, hE1k, rfl, rfl, rfl⟩
  · skip
    have hi52 : i = 52 := by omega
    subst hi52
    have mvk : MV hk M Y { mm with seen := sumN (bud cl mm.due (lits s.L) c0 s.L.length) 52, due := dk } cl G F s := mv.set hB ((mv.r.ext hE (fun b hb e => mv.nM.1 (e ▸ hb))).due _ _) hE
    refine V_exitk [0, 3] rfl (by simp only [proj, lk, reduceIte, Nat.reduceEqDiff]; rfl) ?_
    refine hK3 _ _ ?_; clear hK3
    refine V_block ?_
    refine V_loop (fun m l h' => ∃ (cu : Nat) (hq : Heap) (Fq : Nat → Prop), (s.c ≤ cu) ∧ (cu + left ≤ s.L.length) ∧ (MV hq M Y { mm with seen := sumN (bud cl mm.due (lits s.L) c0 s.L.length) 52, due := dk } cl G Fq ⟨s.L, s.k, cu⟩) ∧ (Ext (fun b => b = M ∨ F b) h hq) ∧ (∀ b, Fq b → F b ∨ h.size ≤ b) ∧ m = s.L.length - cu ∧ l = [(0, .pointer (some ⟨M, 0, none⟩)), (3, .int .i64 (left : Int))] ∧ hq = h') _ ⟨s.c, hk, F, by omega, by omega, mvk, hE.mono fun _ e => .inl e, fun b e => .inl e, rfl, rfl, rfl⟩ ?_
    rintro m l h' ⟨cu, hq, Fq, hcu1, hcu2, mvq, hEq, hFq, rfl, rfl, rfl⟩ K13 hK13
    clear hB
    have hB := mvq.b
    refine V_seq (fun K14 hK14 => ?_)
    refine V_sr T.mix (by kernel_rfl) (fun K15 hK15 => ?_)
    refine S_mv rfl ?_
    refine S_nc rfl ?_
    first | refine S_fa0 T.f91_0 rfl ?_ | refine S_fa T.f91_0 rfl ?_
    refine S_ldK T.ag34 rfl (fun K' hK' => ?_)
    simp (disch := omega) only [mlT hB, mlUsed hB, mlCl hB, mlDue hB, mlSeen hB, oP_some, Nat.add_zero]
    refine hK' _ ?_; clear hK' K'
    refine S_call T.hb51 rfl ?_
    refine FC.mono (mpending_spec hq Y Fq _ mvq.t) ?_
    rintro v' h' ⟨rfl, rfl⟩
    refine S_mv rfl ?_
    refine S_bin rfl rfl rfl ?_
    refine S_nil (hK15 _ _ (V_keep [0, 3, 55] (by simp only [proj, lk, reduceIte, Nat.reduceEqDiff]; rfl) ?_)); clear hK15
    refine V_condp rfl (fun c184 => ?_) (fun c184 => ?_)
    · skip
      refine V_skipk [0, 3] (by simp only [proj, lk, reduceIte, Nat.reduceEqDiff]; rfl) ?_
      refine hK14 _ _ ?_; clear hK14
      refine V_block ?_
      refine V_reg T.mix (by kernel_rfl) ?_
      refine S_mv rfl ?_
      refine S_nc rfl ?_
      first | refine S_fa0 T.f91_0 rfl ?_ | refine S_fa T.f91_0 rfl ?_
      refine S_ldK T.ag34 rfl (fun K' hK' => ?_)
      simp (disch := omega) only [mlT hB, mlUsed hB, mlCl hB, mlDue hB, mlSeen hB, oP_some, Nat.add_zero]
      refine hK' _ ?_; clear hK' K'
      refine S_call T.hb125 rfl ?_
      refine FC.mono (mtake_spec hq Y Fq _ mvq.t) ?_
      rintro v' h7 ⟨rfl, F7, hms7, hx7⟩
      have mv7 := mvq.trl hms7 hx7
      refine S_nilk [0, 3] (by simp only [proj, lk, reduceIte, Nat.reduceEqDiff]; rfl) ?_
      exact hK13 _ _ ⟨_, by omega, cu + 1, h7, F7, by omega, by omega, by have h9 := mv7; unfold takeS at h9; rw [if_pos (by simp only []; omega)] at h9; exact h9, hEq.step hx7.1 (fun b hb e => by rcases hFq b e with q | q; (exact .inr q); (omega)), fun b e => by rcases hx7.2 b e with q | q; (exact hFq b q); (have h9 := hEq.1; exact .inr (by omega)), rfl, rfl, rfl⟩
    · skip
      refine V_exitk [] rfl (by simp only [proj, lk, reduceIte, Nat.reduceEqDiff]; rfl) ?_
      -- end
      refine hR _ _ (ret0 rfl ?_)
      have hcue : cu = s.L.length - left := by omega
      subst hcue
      exact ⟨rfl, _, Fq, mvq, rfl, fun j hj c2 e1 e2 => hdk j hj c2 e1 e2, hEq, hFq⟩
set_option maxHeartbeats 400000 in
theorem imply_spec (h : Heap) (M Y : Nat) (mm : MC) (cl : Nat → Option (List Int)) (G F : Nat → Prop) (s : TS) (mv : MV h M Y mm cl G F s) (x : Int) (id : Nat) (hid : id < 52) (cc : List Int) (hcl : cl id = some cc) (hm : x ∈ cc) (h1x : x ∉ lits s.L) (h2x : -x ∉ lits s.L) (h3x : ∀ y ∈ cc, y ≠ x → -y ∈ lits s.L) :
    FC Tryz.prog 66 (#[.pointer (some ⟨M, 0, none⟩), .int .i64 x, .int .i64 (id : Int)] : Array Value) h fun rv h' => rv = .int .i64 0 ∧ ∃ F', MV h' M Y mm cl G F' (asgS s x id) ∧ Ext F h h' ∧ (∀ b, F' b → F b ∨ h.size ≤ b) := by
  have hB := mv.b
  have hE := Ext.refl (fun x => x = M) h
  have hl12 := mv.t.ok.len
  have hll := lits_len s.L
  have hcon := con_lits mv.t.ok
  obtain ⟨hnr, hcn, hIc0⟩ := mv.r.c id hid cc hcl
  refine FC_of [(0, .pointer (some ⟨M, 0, none⟩)), (1, .int .i64 x), (2, .int .i64 (id : Int))] Tryz.func66 rfl Tryz.ntmps66 (by simp) rfl (fun R hR => ?_)
  refine V_sr T.mix (by kernel_rfl) (fun K1 hK1 => ?_)
  refine S_as rfl ?_
  refine S_nil (hK1 _ _ (V_keep [0, 1, 2] (by simp only [proj, lk, reduceIte, Nat.reduceEqDiff]; rfl) ?_)); clear hK1
  refine V_seq (fun K2 hK2 => ?_)
  refine V_sr T.mix (by kernel_rfl) (fun K3 hK3 => ?_)
  refine S_mv rfl ?_
  refine S_mv rfl ?_
  refine S_call T.hb89 rfl ?_
  refine FC.mono (mwlive_spec h M Y _ cl G F s mv ((id : Int))) ?_
  rintro v' h' ⟨rfl, rfl⟩
  have hlv : (liveC cl (id : Int)).isSome = true := by rw [liveC_nat hid, hcl]; rfl
  refine S_notb rfl ?_
  refine S_nil (hK3 _ _ (V_keep [0, 1, 2, 13] (by simp only [proj, lk, reduceIte, Nat.reduceEqDiff]; rfl) ?_)); clear hK3
  refine V_condb rfl (fun c234 => ?_) (fun c234 => ?_)
  · skip
    exfalso; rw [hlv] at c234; cases c234
  · skip
    refine V_skipk [0, 1, 2] (by simp only [proj, lk, reduceIte, Nat.reduceEqDiff]; rfl) ?_
    refine hK2 _ _ ?_; clear hK2
    refine V_sr T.mix (by kernel_rfl) (fun K4 hK4 => ?_)
    refine S_mv rfl ?_
    refine S_call T.hb96 rfl ?_
    refine FC.mono (mon_spec h M Y mm cl G F s mv) ?_
    rintro v' h1 ⟨oa, oc, rfl, hon, hE1⟩
    have hI1 : IL h1 oa oc (lits s.L) := own0 hon
    have mv1 := mv.ext hE1 (fun f => f) (fun _ _ f => f) (fun _ _ f => f)
    clear hB
    have hB := mv1.b
    refine S_as rfl ?_
    refine S_nil (hK4 _ _ (V_keep [0, 1, 2, 7] (by simp only [proj, lk, reduceIte, Nat.reduceEqDiff]; rfl) ?_)); clear hK4
    refine V_sr T.mix (by kernel_rfl) (fun K5 hK5 => ?_)
    refine S_mv rfl ?_
    refine S_mv rfl ?_
    refine S_nc rfl ?_
    first | refine S_fa0 T.f91_2 rfl ?_ | refine S_fa T.f91_2 rfl ?_
    first | refine S_ixan T.ar89 rfl rfl (by omega) ?_ | refine S_ixa1 T.ar89 rfl rfl (by omega) (by omega) ?_
    refine S_ldK T.ag39 rfl (fun K' hK' => ?_)
    simp (disch := omega) only [mlCl hB, oP_some, Nat.add_zero]
    refine hK' _ ?_; clear hK' K'
    rw [hcn]
    refine S_mv rfl ?_
    refine S_call T.hb97 rfl ?_
    obtain ⟨_, _, hIc⟩ := mv1.r.c id hid cc hcl
    refine FC.mono (state_spec h1 (mm.ca id) cc.length cc hIc hnr oa oc (lits s.L) (hI1) (by omega) hcon) ?_
    rintro v' h' ⟨sv, uv, rfl, hst, rfl⟩
    obtain ⟨hs0, hux⟩ := hst.unit hcon hm h1x h2x h3x
    refine S_mv rfl ?_
    refine S_ex rfl rfl ?_
    refine S_ex rfl rfl ?_
    refine S_as rfl ?_
    refine S_as rfl ?_
    refine S_nil (hK5 _ _ (V_keep [0, 1, 2, 8, 9] (by simp only [proj, lk, reduceIte, Nat.reduceEqDiff]; rfl) ?_)); clear hK5
    refine V_seq (fun K6 hK6 => ?_)
    refine V_sr T.mix (by kernel_rfl) (fun K7 hK7 => ?_)
    refine S_mv rfl ?_
    refine S_bin rfl rfl rfl ?_
    refine S_mv rfl ?_
    refine S_dec (fun g239 => ?_) (fun g239 => ?_)
    · skip
      exfalso; exact g239 hs0
    · skip
      refine S_gt rfl ?_
      refine S_mv rfl ?_
      refine S_gt rfl ?_
      refine S_mv rfl ?_
      refine S_gt rfl ?_
      refine S_bin rfl rfl rfl ?_
      refine S_pf rfl rfl ?_
      refine S_nil (hK7 _ _ (V_keep [0, 1, 2, 33] (by simp only [proj, lk, reduceIte, Nat.reduceEqDiff]; rfl) ?_)); clear hK7
      refine V_condp rfl (fun c239 => ?_) (fun c239 => ?_)
      · skip
        exfalso; exact c239 hux
      · skip
        refine V_skipk [0, 1, 2] (by simp only [proj, lk, reduceIte, Nat.reduceEqDiff]; rfl) ?_
        refine hK6 _ _ ?_; clear hK6
        refine V_sr T.mix (by kernel_rfl) (fun K8 hK8 => ?_)
        refine S_mv rfl ?_
        refine S_nc rfl ?_
        first | refine S_fa0 T.f91_0 rfl ?_ | refine S_fa T.f91_0 rfl ?_
        refine S_ldK T.ag34 rfl (fun K' hK' => ?_)
        simp (disch := omega) only [mlT hB, mlUsed hB, mlCl hB, mlDue hB, mlSeen hB, oP_some, Nat.add_zero]
        refine hK' _ ?_; clear hK' K'
        refine S_mv rfl ?_
        refine S_mv rfl ?_
        refine S_call T.hb83 rfl ?_
        refine FC.mono (massign_spec h1 Y F s mv1.t x (id : Int)) ?_
        rintro v' h2 ⟨rfl, F2, hms2, hx2⟩
        refine S_as rfl ?_
        refine S_nil (hK8 _ _ (V_keep [6] (by simp only [proj, lk, reduceIte, Nat.reduceEqDiff]; rfl) ?_)); clear hK8
        refine V_ret ?_
        refine hR _ _ (ret1 rfl rfl ?_)
        have h0 : valO s x = 0 := by rcases vO3 (s := s) (hnr.1 x hm) with q | q | q; (exact absurd q.2 h1x); (exact absurd q.2 h2x); (exact q.1)
        have hao := asg_one mv.t.ok hid hcl hm (hnr.1 x hm) h0 h3x
        exact ⟨by rw [hao.1]; rfl, F2, mv1.trl hms2 hx2, (hE1.mono fun _ f => f.elim).trans hx2.1, fun b e => by rcases hx2.2 b e with q | q; (exact .inl q); (have h9 := hE1.1; exact .inr (by omega))⟩
set_option maxHeartbeats 400000 in
theorem ends_spec (h : Heap) (M Y : Nat) (mm : MC) (cl : Nat → Option (List Int)) (G F : Nat → Prop) (s : TS) (mv : MV h M Y mm cl G F s) (conf : Int) (c0 left : Nat) (hc0 : c0 ≤ s.c) (hlf : left + s.c ≤ s.L.length) (hres : (conf = -1 ∧ left = 0 ∧ ∀ j, j < 52 → ∀ cc, cl j = some cc → Done (· ∈ lits s.L) cc) ∨ ∃ id : Nat, id < 52 ∧ conf = id ∧ AF cl id (lits s.L)) :
    FC Tryz.prog 67 (#[.pointer (some ⟨M, 0, none⟩), .int .i64 conf, .int .i64 (c0 : Int), .int .i64 (left : Int)] : Array Value) h fun rv h' => rv = .bool true ∧ ∃ (mz : MC) (F' : Nat → Prop), MV h' M Y mz cl G F' ⟨s.L, s.k, s.L.length - left⟩ ∧ mz.seen = sumN (bud cl mm.due (lits s.L) c0 s.L.length) 52 ∧ (∀ j, j < 52 → ∀ cc, cl j = some cc → ((0 ≤ conf ∧ mm.due j = true) ∨ slk cc (lits s.L) < 2) → mz.due j = true) ∧ Ext (fun b => b = M ∨ F b) h h' ∧ (∀ b, F' b → F b ∨ h.size ≤ b) := by
  have hB := mv.b
  have hE := Ext.refl (fun x => x = M) h
  have hl12 := mv.t.ok.len
  have hll := lits_len s.L
  have hcon := con_lits mv.t.ok
  have hcL := mv.t.ok.c
  refine FC_of [(0, .pointer (some ⟨M, 0, none⟩)), (1, .int .i64 conf), (2, .int .i64 (c0 : Int)), (3, .int .i64 (left : Int))] Tryz.func67 rfl Tryz.ntmps67 (by simp) rfl (fun R hR => ?_)
  refine V_sr T.mix (by kernel_rfl) (fun K1 hK1 => ?_)
  refine S_as rfl ?_
  refine S_nil (hK1 _ _ (V_keep [0, 1, 2, 3] (by simp only [proj, lk, reduceIte, Nat.reduceEqDiff]; rfl) ?_)); clear hK1
  refine V_seq (fun K2 hK2 => ?_)
  refine V_sr T.mix (by kernel_rfl) (fun K3 hK3 => ?_)
  refine S_mv rfl ?_
  refine S_bin rfl rfl rfl ?_
  refine S_mv rfl ?_
  refine S_dec (fun g247 => ?_) (fun g247 => ?_)
  · skip
    exfalso; omega
  · skip
    refine S_gt rfl ?_
    refine S_mv rfl ?_
    refine S_gt rfl ?_
    refine S_mv rfl ?_
    refine S_gt rfl ?_
    refine S_nc rfl ?_
    refine S_gt rfl ?_
    first | refine S_fa0 T.f91_0 rfl ?_ | refine S_fa T.f91_0 rfl ?_
    refine S_gt rfl ?_
    refine S_ldK T.ag34 rfl (fun K' hK' => ?_)
    simp (disch := omega) only [mlT hB, mlUsed hB, mlCl hB, mlDue hB, mlSeen hB, oP_some, Nat.add_zero]
    refine hK' _ ?_; clear hK' K'
    refine S_gt rfl ?_
    refine S_call T.hb50 rfl ?_
    refine FC.mono (mlen_spec h Y F s mv.t) ?_
    rintro v' h' ⟨rfl, rfl⟩
    refine S_gt rfl ?_
    refine S_mv rfl ?_
    refine S_gt rfl ?_
    first | refine S_sub rfl rfl (by omega) (by omega) ?_ | refine S_bin rfl rfl rfl ?_
    refine S_gt rfl ?_
    refine S_bin rfl rfl rfl ?_
    refine S_pf rfl rfl ?_
    refine S_nil (hK3 _ _ (V_keep [0, 1, 2, 3, 25] (by simp only [proj, lk, reduceIte, Nat.reduceEqDiff]; rfl) ?_)); clear hK3
    refine V_condp rfl (fun c247 => ?_) (fun c247 => ?_)
    · skip
      exfalso; omega
    · skip
      refine V_skipk [0, 1, 2, 3] (by simp only [proj, lk, reduceIte, Nat.reduceEqDiff]; rfl) ?_
      refine hK2 _ _ ?_; clear hK2
      refine V_seqJ (fun l h' => ∃ (h9 : Heap), (Ext (fun _ => False) h h9) ∧ l = [(0, .pointer (some ⟨M, 0, none⟩)), (1, .int .i64 conf), (2, .int .i64 (c0 : Int)), (3, .int .i64 (left : Int))] ∧ h9 = h') ?_ ?_
      · skip
        refine V_sr T.mix (by kernel_rfl) (fun K5 hK5 => ?_)
        refine S_mv rfl ?_
        refine S_bin rfl rfl rfl ?_
        refine S_nil (hK5 _ _ (V_keep [0, 1, 2, 3, 27] (by simp only [proj, lk, reduceIte, Nat.reduceEqDiff]; rfl) ?_)); clear hK5
        refine V_condp rfl (fun c250 => ?_) (fun c250 => ?_)
        · skip
          refine V_seq (fun K6 hK6 => ?_)
          refine V_sr T.mix (by kernel_rfl) (fun K7 hK7 => ?_)
          refine S_mv rfl ?_
          refine S_bin rfl rfl rfl ?_
          refine S_nil (hK7 _ _ (V_keep [0, 1, 2, 3, 29] (by simp only [proj, lk, reduceIte, Nat.reduceEqDiff]; rfl) ?_)); clear hK7
          refine V_condp rfl (fun c251 => ?_) (fun c251 => ?_)
          · skip
            exfalso; rcases hres with q | ⟨q, _, e, _⟩; (omega); (omega)
          · skip
            refine V_skipk [0, 1, 2, 3] (by simp only [proj, lk, reduceIte, Nat.reduceEqDiff]; rfl) ?_
            refine hK6 _ _ ?_; clear hK6
            refine V_sr T.mix (by kernel_rfl) (fun K8 hK8 => ?_)
            refine S_mv rfl ?_
            refine S_call T.hb98 rfl ?_
            obtain ⟨_, hl0, hD⟩ := hres.resolve_right (fun ⟨q, _, e, _⟩ => by omega)
            refine FC.mono (ripe_spec h M Y mm cl G F s mv hD) ?_
            rintro v' h1 ⟨rfl, hE1⟩
            refine S_as rfl ?_
            refine S_nil (hK8 _ _ (V_keep [0, 1, 2, 3, 9] (by simp only [proj, lk, reduceIte, Nat.reduceEqDiff]; rfl) ?_)); clear hK8
            refine V_sr T.mix (by kernel_rfl) (fun K9 hK9 => ?_)
            refine S_mv rfl ?_
            refine S_lenl T.el39 rfl ?_
            refine S_bin rfl rfl rfl ?_
            refine S_nil (hK9 _ _ (V_keep [0, 1, 2, 3, 34] (by simp only [proj, lk, reduceIte, Nat.reduceEqDiff]; rfl) ?_)); clear hK9
            refine V_condp rfl (fun c255 => ?_) (fun c255 => ?_)
            · skip
              exfalso; exact c255 rfl
            · skip
              refine V_skipk [0, 1, 2, 3] (by simp only [proj, lk, reduceIte, Nat.reduceEqDiff]; rfl) ?_
              exact ⟨h1, hE1, rfl, rfl⟩
        · skip
          refine V_seq (fun K10 hK10 => ?_)
          refine V_sr T.mix (by kernel_rfl) (fun K11 hK11 => ?_)
          refine S_mv rfl ?_
          refine S_mv rfl ?_
          refine S_call T.hb89 rfl ?_
          obtain ⟨id, hid, rfl, cc, hcl, haf⟩ := hres.resolve_left (fun q => c250 q.1)
          refine FC.mono (mwlive_spec h M Y _ cl G F s mv ((id : Int))) ?_
          rintro v' h' ⟨rfl, rfl⟩
          have hlv : (liveC cl (id : Int)).isSome = true := by rw [liveC_nat hid, hcl]; rfl
          obtain ⟨hnr, hcn, hIc0⟩ := mv.r.c id hid cc hcl
          refine S_notb rfl ?_
          refine S_nil (hK11 _ _ (V_keep [0, 1, 2, 3, 38] (by simp only [proj, lk, reduceIte, Nat.reduceEqDiff]; rfl) ?_)); clear hK11
          refine V_condb rfl (fun c259 => ?_) (fun c259 => ?_)
          · skip
            exfalso; rw [hlv] at c259; cases c259
          · skip
            refine V_skipk [0, 1, 2, 3] (by simp only [proj, lk, reduceIte, Nat.reduceEqDiff]; rfl) ?_
            refine hK10 _ _ ?_; clear hK10
            refine V_sr T.mix (by kernel_rfl) (fun K12 hK12 => ?_)
            refine S_mv rfl ?_
            refine S_call T.hb96 rfl ?_
            refine FC.mono (mon_spec h M Y mm cl G F s mv) ?_
            rintro v' h1 ⟨oa, oc, rfl, hon, hE1⟩
            have hI1 : IL h1 oa oc (lits s.L) := own0 hon
            have mv1 := mv.ext hE1 (fun f => f) (fun _ _ f => f) (fun _ _ f => f)
            clear hB
            have hB := mv1.b
            refine S_as rfl ?_
            refine S_nil (hK12 _ _ (V_keep [0, 1, 2, 3, 10] (by simp only [proj, lk, reduceIte, Nat.reduceEqDiff]; rfl) ?_)); clear hK12
            refine V_sr T.mix (by kernel_rfl) (fun K13 hK13 => ?_)
            refine S_mv rfl ?_
            refine S_mv rfl ?_
            refine S_nc rfl ?_
            first | refine S_fa0 T.f91_2 rfl ?_ | refine S_fa T.f91_2 rfl ?_
            first | refine S_ixan T.ar89 rfl rfl (by omega) ?_ | refine S_ixa1 T.ar89 rfl rfl (by omega) (by omega) ?_
            refine S_ldK T.ag39 rfl (fun K' hK' => ?_)
            simp (disch := omega) only [mlCl hB, oP_some, Nat.add_zero]
            refine hK' _ ?_; clear hK' K'
            rw [hcn]
            refine S_mv rfl ?_
            refine S_call T.hb97 rfl ?_
            obtain ⟨_, _, hIc⟩ := mv1.r.c id hid cc hcl
            refine FC.mono (state_spec h1 (mm.ca id) cc.length cc hIc hnr oa oc (lits s.L) (hI1) (by omega) hcon) ?_
            rintro v' h' ⟨sv, uv, rfl, hst, rfl⟩
            obtain ⟨hs0, hux⟩ := hst.bad hcon haf
            refine S_mv rfl ?_
            refine S_ex rfl rfl ?_
            refine S_ex rfl rfl ?_
            refine S_as rfl ?_
            refine S_as rfl ?_
            refine S_nil (hK13 _ _ (V_keep [0, 1, 2, 3, 11] (by simp only [proj, lk, reduceIte, Nat.reduceEqDiff]; rfl) ?_)); clear hK13
            refine V_sr T.mix (by kernel_rfl) (fun K14 hK14 => ?_)
            refine S_mv rfl ?_
            refine S_bin rfl rfl rfl ?_
            refine S_nil (hK14 _ _ (V_keep [0, 1, 2, 3, 53] (by simp only [proj, lk, reduceIte, Nat.reduceEqDiff]; rfl) ?_)); clear hK14
            refine V_condp rfl (fun c264 => ?_) (fun c264 => ?_)
            · skip
              exfalso; exact c264 hs0
            · skip
              refine V_skipk [0, 1, 2, 3] (by simp only [proj, lk, reduceIte, Nat.reduceEqDiff]; rfl) ?_
              exact ⟨h1, hE1, rfl, rfl⟩
      rintro l h' ⟨h9, hE9, rfl, rfl⟩
      refine V_sr T.mix (by kernel_rfl) (fun K15 hK15 => ?_)
      refine S_mv rfl ?_
      refine S_mv rfl ?_
      refine S_mv rfl ?_
      refine S_mv rfl ?_
      refine S_call T.hb99 rfl ?_
      refine FC.mono (end_spec h9 M Y mm cl G F s (mv.ext hE9 (fun f => f) (fun _ _ f => f) (fun _ _ f => f)) conf c0 left (by omega) hlf) ?_
      rintro v' h10 ⟨rfl, mz, F', k1, k2, k3, k4, k5⟩
      refine S_nil (hK15 _ _ (V_keep [] (by simp only [proj, lk, reduceIte, Nat.reduceEqDiff]; rfl) ?_)); clear hK15
      refine V_sr T.mix (by kernel_rfl) (fun K16 hK16 => ?_)
      refine S_as rfl ?_
      refine S_nil (hK16 _ _ (V_keep [8] (by simp only [proj, lk, reduceIte, Nat.reduceEqDiff]; rfl) ?_)); clear hK16
      refine V_ret ?_
      refine hR _ _ (ret1 rfl rfl ?_)
      exact ⟨rfl, mz, F', k1, k2, k3, (hE9.mono fun _ f => f.elim).trans k4, fun b e => by rcases k5 b e with q | q; (exact .inl q); (have h8 := hE9.1; exact .inr (by omega))⟩
end Go.Proofs.Qxb6500400aGreat
