import Derived.Test.Qxb6500400aGreatYi
set_option linter.unusedVariables false
set_option linter.unusedSimpArgs false
namespace Go.Proofs.Qxb6500400aGreat
open Go.Eng Go.Trl Go.Chk Go.Wat
theorem holds_snoc {c : List Int} {i m : Nat} (hi : i < c.length) (h : ∀ x ∈ c.take i, ¬ tru m x) (h2 : ¬ tru m (c.getD i 0)) : ∀ x ∈ c.take (i + 1), ¬ tru m x := fun x hx => by
  rcases (mem_take_snoc hi).1 hx with q | q
  · exact h x q
  · rw [q]; exact h2
theorem sat_snoc {cs : List (List Int)} {i m : Nat} (hi : i < cs.length) (h : sat (cs.take i) m) (h2 : ∃ x ∈ cs.getD i [], tru m x) : sat (cs.take (i + 1)) m := fun c hc => by
  rcases (mem_rtake hi).1 hc with q | q
  · exact h c q
  · rw [q]; exact h2
theorem tru_bit {m : Nat} {x : Int} : tru m x ↔ (m / 2 ^ (x.natAbs - 1) % 2 = 1 ↔ 0 < x) := by
  unfold tru
  have e : m.testBit (x.natAbs - 1) = decide (m / 2 ^ (x.natAbs - 1) % 2 = 1) := by rw [Nat.testBit_eq_decide_div_mod_eq]
  rw [e]
  split <;> simp [*]
set_option maxHeartbeats 400000 in
theorem true_spec (h : Heap) (x : Int) (hx : gd x) (m : Nat) (hm : m < 4096) :
    FC Tryz.prog 140 (#[.int .i64 x, .int .i64 (m : Int)] : Array Value) h fun rv h' => ∃ g : Bool, rv = .bool g ∧ (g = true ↔ tru m x) ∧ h = h' := by
  unfold gd at hx
  have hdv := Nat.div_le_self m (2 ^ (x.natAbs - 1))
  refine FC_of [(0, .int .i64 x), (1, .int .i64 (m : Int))] Tryz.func140 rfl Tryz.ntmps140 (by simp) rfl (fun R hR => ?_)
  refine V_sr T.mix (by kernel_rfl) (fun K1 hK1 => ?_)
  refine S_as rfl ?_
  refine S_nil (hK1 _ _ (V_keep [0, 1] (by simp only [proj, lk, reduceIte, Nat.reduceEqDiff]; rfl) ?_)); clear hK1
  refine V_sr T.mix (by kernel_rfl) (fun K2 hK2 => ?_)
  refine S_mv rfl ?_
  refine S_call T.hb65 rfl ?_
  refine FC.mono (var_spec h x (by omega) (by omega)) ?_
  rintro v' h' ⟨rfl, rfl⟩
  refine S_as rfl ?_
  refine S_nil (hK2 _ _ (V_keep [0, 1, 5] (by simp only [proj, lk, reduceIte, Nat.reduceEqDiff]; rfl) ?_)); clear hK2
  refine V_sr T.mix (by kernel_rfl) (fun K3 hK3 => ?_)
  refine S_mv rfl ?_
  refine S_mv rfl ?_
  first | refine S_sub rfl rfl (by omega) (by omega) ?_ | refine S_bin rfl rfl rfl ?_
  first | refine S_cvn T.us3 T.in111 rfl rfl (by first | omega | (simp only [IntKind.bits]; omega)) ?_ | refine S_cvu T.us3 T.in111 rfl (by omega) (by omega) ?_ | refine S_cv T.us3 T.in111 rfl ?_
  refine S_nshr m (x.natAbs - 1) _ rfl rfl rfl (by omega) rfl (show x.natAbs - 1 ≤ 64 by omega) ?_
  refine S_nand (m / 2 ^ (x.natAbs - 1)) 1 _ rfl rfl rfl rfl rfl (Nat.lt_of_le_of_lt hdv (Nat.lt_of_lt_of_le hm (by decide))) (by decide) ?_
  rw [Nat.and_one_is_mod]
  refine S_bin rfl rfl rfl ?_
  refine S_as rfl ?_
  refine S_nil (hK3 _ _ (V_keep [0, 6] (by simp only [proj, lk, reduceIte, Nat.reduceEqDiff]; rfl) ?_)); clear hK3
  refine V_sr T.mix (by kernel_rfl) (fun K4 hK4 => ?_)
  refine S_mv rfl ?_
  refine S_mv rfl ?_
  refine S_bin rfl rfl rfl ?_
  refine S_bin rfl rfl (by simp only [binV, T.kd4]; rfl) ?_
  refine S_as rfl ?_
  refine S_nil (hK4 _ _ (V_keep [4] (by simp only [proj, lk, reduceIte, Nat.reduceEqDiff]; rfl) ?_)); clear hK4
  refine V_ret ?_
  refine hR _ _ (ret1 rfl rfl ?_)
  exact ⟨_, rfl, by rw [tru_bit, decide_eq_true_iff, decide_eq_decide, show (((m / 2 ^ (x.natAbs - 1) % 2 : Nat) : Int) = 1) = (m / 2 ^ (x.natAbs - 1) % 2 = 1) from propext ⟨fun e => by omega, fun e => by omega⟩], rfl⟩
set_option maxHeartbeats 400000 in
theorem tholds_spec (h : Heap) (ac : Option Addr) (cc : Nat) (c : List Int) (hc : IL h ac cc c) (hn : Nrm c) (ms : Nat) (hm : ms < 4096) :
    FC Tryz.prog 134 (#[.slice ac c.length cc, .int .i64 (ms : Int)] : Array Value) h fun rv h' => ∃ g : Bool, rv = .bool g ∧ (g = true ↔ ∃ x ∈ c, tru ms x) ∧ h = h' := by
  have hcl := hn.len
  refine FC_of [(0, .slice ac c.length cc), (1, .int .i64 (ms : Int))] Tryz.func134 rfl Tryz.ntmps134 (by simp) rfl (fun R hR => ?_)
  refine V_sr T.mix (by kernel_rfl) (fun K1 hK1 => ?_)
  refine S_as rfl ?_
  refine S_nil (hK1 _ _ (V_keep [0, 1] (by simp only [proj, lk, reduceIte, Nat.reduceEqDiff]; rfl) ?_)); clear hK1
  refine V_seq (fun K2 hK2 => ?_)
  refine V_sr T.mix (by kernel_rfl) (fun K3 hK3 => ?_)
  refine S_as rfl ?_
  refine S_nil (hK3 _ _ (V_keep [0, 1, 5] (by simp only [proj, lk, reduceIte, Nat.reduceEqDiff]; rfl) ?_)); clear hK3
  refine V_block ?_
  refine V_loop (fun m l h' => ∃ (i : Nat), (i ≤ c.length) ∧ (∀ x ∈ c.take i, ¬ tru ms x) ∧ m = c.length - i ∧ l = [(0, .slice ac c.length cc), (1, .int .i64 (ms : Int)), (5, .int .i64 (i : Int))] ∧ h = h') _ ⟨0, by omega, by simp, rfl, rfl, rfl⟩ ?_
  rintro m l h' ⟨i, hi, hno, rfl, rfl, rfl⟩ K4 hK4
  refine V_seq (fun K5 hK5 => ?_)
  refine V_sr T.mix (by kernel_rfl) (fun K6 hK6 => ?_)
  refine S_mv rfl ?_
  refine S_mv rfl ?_
  refine S_lenl T.el39 rfl ?_
  refine S_bin rfl rfl rfl ?_
  refine S_nil (hK6 _ _ (V_keep [0, 1, 5, 9] (by simp only [proj, lk, reduceIte, Nat.reduceEqDiff]; rfl) ?_)); clear hK6
  refine V_condp rfl (fun c37 => ?_) (fun c37 => ?_)
  · skip
    obtain ⟨bb, rfl, _, _, _⟩ := hc.get (by omega)
    refine V_skipk [0, 1, 5] (by simp only [proj, lk, reduceIte, Nat.reduceEqDiff]; rfl) ?_
    refine hK5 _ _ ?_; clear hK5
    refine V_seq (fun K7 hK7 => ?_)
    refine V_block ?_
    refine V_sr T.mix (by kernel_rfl) (fun K8 hK8 => ?_)
    refine S_mv rfl ?_
    refine S_mv rfl ?_
    first | refine S_ixn T.el39 rfl rfl (by omega) ?_ | refine S_ix1 T.el39 rfl rfl (by omega) (by omega) ?_ | refine S_ix T.el39 rfl rfl (by omega) (by omega) ?_
    refine S_ldK T.ag3 rfl (fun K' hK' => ?_)
    simp (disch := omega) only [hc.at, oP_some, Nat.add_zero]
    refine hK' _ ?_; clear hK' K'
    refine S_mv rfl ?_
    refine S_call T.hb140 rfl ?_
    refine FC.mono (true_spec h (c.getD i 0) (gd_getD hn.1 (by omega)) ms hm) ?_
    rintro v' h' ⟨g, rfl, hg, rfl⟩
    refine S_nil (hK8 _ _ (V_keep [0, 1, 5, 17] (by simp only [proj, lk, reduceIte, Nat.reduceEqDiff]; rfl) ?_)); clear hK8
    refine V_condb rfl (fun c38 => ?_) (fun c38 => ?_)
    · skip
      refine V_sr T.mix (by kernel_rfl) (fun K9 hK9 => ?_)
      refine S_as rfl ?_
      refine S_nil (hK9 _ _ (V_keep [4] (by simp only [proj, lk, reduceIte, Nat.reduceEqDiff]; rfl) ?_)); clear hK9
      refine V_ret ?_
      refine hR _ _ (ret1 rfl rfl ?_)
      exact ⟨true, rfl, ⟨fun _ => ⟨_, mem_at (show i < c.length by omega), hg.1 c38⟩, fun _ => rfl⟩, rfl⟩
    · skip
      refine V_skipk [0, 1, 5] (by simp only [proj, lk, reduceIte, Nat.reduceEqDiff]; rfl) ?_
      refine hK7 _ _ ?_; clear hK7
      refine V_reg T.mix (by kernel_rfl) ?_
      refine S_mv rfl ?_
      first | refine S_add rfl rfl (by omega) (by omega) ?_ | refine S_bin rfl rfl rfl ?_
      refine S_as rfl ?_
      refine S_nilk [0, 1, 5] (by simp only [proj, lk, reduceIte, Nat.reduceEqDiff]; rfl) ?_
      exact hK4 _ _ ⟨_, by omega, i + 1, by omega, holds_snoc (by omega) hno (fun e => by rw [hg.2 e] at c38; cases c38), rfl, rfl, rfl⟩
  · skip
    refine V_exitk [] rfl (by simp only [proj, lk, reduceIte, Nat.reduceEqDiff]; rfl) ?_
    refine hK2 _ _ ?_; clear hK2
    refine V_sr T.mix (by kernel_rfl) (fun K10 hK10 => ?_)
    refine S_as rfl ?_
    refine S_nil (hK10 _ _ (V_keep [4] (by simp only [proj, lk, reduceIte, Nat.reduceEqDiff]; rfl) ?_)); clear hK10
    refine V_ret ?_
    refine hR _ _ (ret1 rfl rfl ?_)
    have hie : i = c.length := by omega
    rw [hie, List.take_length] at hno
    exact ⟨false, rfl, ⟨fun e => (by cases e), fun ⟨x, h1, h2⟩ => absurd h2 (hno x h1)⟩, rfl⟩
set_option maxHeartbeats 400000 in
theorem allhold_spec (h : Heap) (la : Option Addr) (lc lo hi_ : Nat) (cs : List (List Int)) (hlv : LV lo hi_ h la lc cs) (hcs : ∀ c ∈ cs, Nrm c) (hll : cs.length ≤ 1099511627776) (ms : Nat) (hm : ms < 4096) :
    FC Tryz.prog 133 (#[.slice la cs.length lc, .int .i64 (ms : Int)] : Array Value) h fun rv h' => ∃ g : Bool, rv = .bool g ∧ (g = true ↔ sat cs ms) ∧ h = h' := by
  refine FC_of [(0, .slice la cs.length lc), (1, .int .i64 (ms : Int))] Tryz.func133 rfl Tryz.ntmps133 (by simp) rfl (fun R hR => ?_)
  refine V_sr T.mix (by kernel_rfl) (fun K1 hK1 => ?_)
  refine S_as rfl ?_
  refine S_nil (hK1 _ _ (V_keep [0, 1] (by simp only [proj, lk, reduceIte, Nat.reduceEqDiff]; rfl) ?_)); clear hK1
  refine V_seq (fun K2 hK2 => ?_)
  refine V_sr T.mix (by kernel_rfl) (fun K3 hK3 => ?_)
  refine S_as rfl ?_
  refine S_nil (hK3 _ _ (V_keep [0, 1, 5] (by simp only [proj, lk, reduceIte, Nat.reduceEqDiff]; rfl) ?_)); clear hK3
  refine V_block ?_
  refine V_loop (fun m l h' => ∃ (i : Nat), (i ≤ cs.length) ∧ (sat (cs.take i) ms) ∧ m = cs.length - i ∧ l = [(0, .slice la cs.length lc), (1, .int .i64 (ms : Int)), (5, .int .i64 (i : Int))] ∧ h = h') _ ⟨0, by omega, by intro c hc; simp at hc, rfl, rfl, rfl⟩ ?_
  rintro m l h' ⟨i, hi, hno, rfl, rfl, rfl⟩ K4 hK4
  refine V_seq (fun K5 hK5 => ?_)
  refine V_sr T.mix (by kernel_rfl) (fun K6 hK6 => ?_)
  refine S_mv rfl ?_
  refine S_mv rfl ?_
  refine S_lenl T.el40 rfl ?_
  refine S_bin rfl rfl rfl ?_
  refine S_nil (hK6 _ _ (V_keep [0, 1, 5, 9] (by simp only [proj, lk, reduceIte, Nat.reduceEqDiff]; rfl) ?_)); clear hK6
  refine V_condp rfl (fun c47 => ?_) (fun c47 => ?_)
  · skip
    obtain ⟨bb, rfl, hbb1, hbb2, hgt⟩ := (hlv).get (by omega)
    obtain ⟨ai, ci, hcell, hIc, hbi⟩ := hgt i (by omega)
    refine V_skipk [0, 1, 5] (by simp only [proj, lk, reduceIte, Nat.reduceEqDiff]; rfl) ?_
    refine hK5 _ _ ?_; clear hK5
    refine V_seq (fun K7 hK7 => ?_)
    refine V_block ?_
    refine V_sr T.mix (by kernel_rfl) (fun K8 hK8 => ?_)
    refine S_mv rfl ?_
    refine S_mv rfl ?_
    first | refine S_ixn T.el40 rfl rfl (by omega) ?_ | refine S_ix1 T.el40 rfl rfl (by omega) (by omega) ?_ | refine S_ix T.el40 rfl rfl (by omega) (by omega) ?_
    refine S_ldK T.ag39 rfl (fun K' hK' => ?_)
    simp (disch := omega) only [hcell, oP_some, Nat.add_zero]
    refine hK' _ ?_; clear hK' K'
    refine S_mv rfl ?_
    refine S_call T.hb134 rfl ?_
    refine FC.mono (tholds_spec h ai ci (cs.getD i []) hIc (hcs _ (getD_mem (by omega))) ms hm) ?_
    rintro v' h' ⟨g, rfl, hg, rfl⟩
    refine S_notb rfl ?_
    refine S_nil (hK8 _ _ (V_keep [0, 1, 5, 18] (by simp only [proj, lk, reduceIte, Nat.reduceEqDiff]; rfl) ?_)); clear hK8
    refine V_condb rfl (fun c48 => ?_) (fun c48 => ?_)
    · skip
      refine V_sr T.mix (by kernel_rfl) (fun K9 hK9 => ?_)
      refine S_as rfl ?_
      refine S_nil (hK9 _ _ (V_keep [4] (by simp only [proj, lk, reduceIte, Nat.reduceEqDiff]; rfl) ?_)); clear hK9
      refine V_ret ?_
      refine hR _ _ (ret1 rfl rfl ?_)
      exact ⟨false, rfl, ⟨fun e => (by cases e), fun e => by rw [hg.2 (e _ (getD_mem (show i < cs.length by omega)))] at c48; cases c48⟩, rfl⟩
    · skip
      refine V_skipk [0, 1, 5] (by simp only [proj, lk, reduceIte, Nat.reduceEqDiff]; rfl) ?_
      refine hK7 _ _ ?_; clear hK7
      refine V_reg T.mix (by kernel_rfl) ?_
      refine S_mv rfl ?_
      first | refine S_add rfl rfl (by omega) (by omega) ?_ | refine S_bin rfl rfl rfl ?_
      refine S_as rfl ?_
      refine S_nilk [0, 1, 5] (by simp only [proj, lk, reduceIte, Nat.reduceEqDiff]; rfl) ?_
      exact hK4 _ _ ⟨_, by omega, i + 1, by omega, sat_snoc (by omega) hno (hg.1 (by simpa using c48)), rfl, rfl, rfl⟩
  · skip
    refine V_exitk [] rfl (by simp only [proj, lk, reduceIte, Nat.reduceEqDiff]; rfl) ?_
    refine hK2 _ _ ?_; clear hK2
    refine V_sr T.mix (by kernel_rfl) (fun K10 hK10 => ?_)
    refine S_as rfl ?_
    refine S_nil (hK10 _ _ (V_keep [4] (by simp only [proj, lk, reduceIte, Nat.reduceEqDiff]; rfl) ?_)); clear hK10
    refine V_ret ?_
    refine hR _ _ (ret1 rfl rfl ?_)
    have hie : i = cs.length := by omega
    rw [hie, List.take_length] at hno
    exact ⟨true, rfl, ⟨fun _ => hno, fun _ => rfl⟩, rfl⟩
set_option maxHeartbeats 400000 in
theorem mrup_spec (h : Heap) (la : Option Addr) (lc lo hi_ : Nat) (cs : List (List Int)) (hlv : LV lo hi_ h la lc cs) (hcs : ∀ c ∈ cs, Nrm c) (hll : cs.length ≤ 1099511627776) (ac : Option Addr) (cc : Nat) (c : List Int) (hc : IL h ac cc c) (hn : Nrm c) :
    FC Tryz.prog 118 (#[.slice la cs.length lc, .slice ac c.length cc] : Array Value) h fun rv h' => ∃ g : Bool, rv = .bool g ∧ (g = true ↔ ¬ Fix cs (deny c)) ∧ Ext (fun _ => False) h h' := by
  have hcl := hn.len
  refine FC_of [(0, .slice la cs.length lc), (1, .slice ac c.length cc)] Tryz.func118 rfl Tryz.ntmps118 (by simp) rfl (fun R hR => ?_)
  refine V_sr T.mix (by kernel_rfl) (fun K1 hK1 => ?_)
  refine S_as rfl ?_
  refine S_nil (hK1 _ _ (V_keep [0, 1] (by simp only [proj, lk, reduceIte, Nat.reduceEqDiff]; rfl) ?_)); clear hK1
  refine V_sr T.mix (by kernel_rfl) (fun K2 hK2 => ?_)
  refine S_as rfl ?_
  refine S_nil (hK2 _ _ (V_keep [0, 1, 5] (by simp only [proj, lk, reduceIte, Nat.reduceEqDiff]; rfl) ?_)); clear hK2
  refine V_seq (fun K3 hK3 => ?_)
  refine V_sr T.mix (by kernel_rfl) (fun K4 hK4 => ?_)
  refine S_as rfl ?_
  refine S_nil (hK4 _ _ (V_keep [0, 1, 5, 6] (by simp only [proj, lk, reduceIte, Nat.reduceEqDiff]; rfl) ?_)); clear hK4
  refine V_block ?_
  refine V_loop (fun m l h' => ∃ (i : Nat) (hk : Heap) (oa : Option Addr) (oc : Nat) (on : List Int), (i ≤ c.length) ∧ (on = (c.take i).map (fun x => -x)) ∧ (OwnR h.size hk oa on.length oc (ints on) 3 1) ∧ (Ext (fun _ => False) h hk) ∧ m = c.length - i ∧ l = [(0, .slice la cs.length lc), (1, .slice ac c.length cc), (5, .slice oa on.length oc), (6, .int .i64 (i : Int))] ∧ hk = h') _ ⟨0, h, none, 0, [], by omega, by simp, OwnR.nil _ _ _ _, Ext.refl _ _, rfl, rfl, rfl⟩ ?_
  rintro m l h' ⟨i, hk, oa, oc, on, hi, hon, hoo, hE, rfl, rfl, rfl⟩ K5 hK5
  have hs2 := hE.1
  have hc2 := hc.ext hE (fun _ _ f => f)
  have hol : on.length ≤ i := by rw [hon]; simp; omega
  refine V_seq (fun K6 hK6 => ?_)
  refine V_sr T.mix (by kernel_rfl) (fun K7 hK7 => ?_)
  refine S_mv rfl ?_
  refine S_mv rfl ?_
  refine S_lenl T.el39 rfl ?_
  refine S_bin rfl rfl rfl ?_
  refine S_nil (hK7 _ _ (V_keep [0, 1, 5, 6, 12] (by simp only [proj, lk, reduceIte, Nat.reduceEqDiff]; rfl) ?_)); clear hK7
  refine V_condp rfl (fun c139 => ?_) (fun c139 => ?_)
  · skip
    obtain ⟨bb, rfl, _, _, _⟩ := hc2.get (by omega)
    have hgd := gd_getD hn.1 (show i < c.length by omega)
    unfold gd at hgd
    refine V_skipk [0, 1, 5, 6] (by simp only [proj, lk, reduceIte, Nat.reduceEqDiff]; rfl) ?_
    refine hK6 _ _ ?_; clear hK6
    refine V_seq (fun K8 hK8 => ?_)
    refine V_block ?_
    refine V_reg T.mix (by kernel_rfl) ?_
    refine S_mv rfl ?_
    refine S_mv rfl ?_
    refine S_mv rfl ?_
    first | refine S_ixn T.el39 rfl rfl (by omega) ?_ | refine S_ix1 T.el39 rfl rfl (by omega) (by omega) ?_ | refine S_ix T.el39 rfl rfl (by omega) (by omega) ?_
    refine S_ldK T.ag3 rfl (fun K' hK' => ?_)
    simp (disch := omega) only [hc2.at, oP_some, Nat.add_zero]
    refine hK' _ ?_; clear hK' K'
    first | refine S_neg rfl (by omega) (by omega) ?_ | refine S_un rfl rfl ?_
    refine S_bs T.ei39 rfl (by decide) (by decide) (T.bs39_1_0 _) ?_
    refine S_appx (lo := h.size) T.ei39 T.ni39 T.us39 rfl rfl rfl (OwnR.ext hoo (Ext.push (fun _ => False) _ _) (fun _ _ f => f)) (by simp; omega) (cellsH_new _ _ _) rfl (by omega) (by decide) (by decide) rfl (fun a4 c4 h4 ho4 hE4x hb4x => ?_)
    have hE4 : Ext (fun z => blkA oa = some z) hk h4 := (Ext.push _ _ _).trans hE4x
    have hb4 := new_blk2 (h := hk) hb4x (by simp)
    have hoo4 : OwnR h.size h4 a4 (on ++ [-(c.getD i 0)]).length c4 (ints (on ++ [-(c.getD i 0)])) 3 1 := by rw [ints_snoc, List.length_append]; exact ho4
    refine S_as rfl ?_
    refine S_nilk [0, 1, 5, 6] (by simp only [proj, lk, reduceIte, Nat.reduceEqDiff]; rfl) ?_
    refine hK8 _ _ ?_; clear hK8
    refine V_reg T.mix (by kernel_rfl) ?_
    refine S_mv rfl ?_
    first | refine S_add rfl rfl (by omega) (by omega) ?_ | refine S_bin rfl rfl rfl ?_
    refine S_as rfl ?_
    refine S_nilk [0, 1, 5, 6] (by simp only [proj, lk, reduceIte, Nat.reduceEqDiff]; rfl) ?_
    exact hK5 _ _ ⟨_, by omega, i + 1, h4, a4, c4, on ++ [-(c.getD i 0)], by omega, (by rw [getD_snoc _ _ (by omega), List.map_append, ← hon]; rfl), hoo4, hE.step hE4 (fun z hz e => by have h9 := OwnR.blk2 hoo e; omega), rfl, by simp, rfl⟩
  · skip
    have hie : i = c.length := by omega
    rw [hie, List.take_length] at hon
    have hmo : ∀ x, x ∈ on ↔ deny c x := fun x => by rw [hon]; unfold deny; rw [List.mem_map]; exact ⟨fun ⟨y, h1, h2⟩ => by rw [← h2]; simpa using h1, fun e => ⟨-x, e, by omega⟩⟩
    have hdn : (fun x => x ∈ on) = deny c := funext fun x => propext (hmo x)
    refine V_exitk [0, 5] rfl (by simp only [proj, lk, reduceIte, Nat.reduceEqDiff]; rfl) ?_
    refine hK3 _ _ ?_; clear hK3
    refine V_sr T.mix (by kernel_rfl) (fun K9 hK9 => ?_)
    refine S_mv rfl ?_
    refine S_mv rfl ?_
    refine S_call T.hb135 rfl ?_
    refine FC.mono (closure_spec hk la lc lo hi_ cs (hlv.ext hE (fun z _ _ f => f)) hcs hll oa oc on (own0 hoo) (by omega) (fun x hx => by have h9 := hn.1 _ ((hmo x).1 hx); unfold gd at h9 ⊢; omega) (fun x hx hx2 => by have h8 := (hmo x).1 hx; have h9 := (hmo _).1 hx2; unfold deny at h8 h9; have h7 := hn.1 _ h8; unfold gd at h7; have h6 := hn.inj h8 h9 (by omega); omega) (by rw [hon]; exact List.pairwise_map.2 (Go.Eng.pw_of (fun hne e => hne (by omega)) hn.nodup))) ?_
    rintro v' h2 ⟨xa, xc, out, g, rfl, _, _, hg, _, hE2⟩
    refine S_mv rfl ?_
    refine S_ex rfl rfl ?_
    refine S_ex rfl rfl ?_
    refine S_as rfl ?_
    refine S_as rfl ?_
    refine S_nil (hK9 _ _ (V_keep [8] (by simp only [proj, lk, reduceIte, Nat.reduceEqDiff]; rfl) ?_)); clear hK9
    refine V_sr T.mix (by kernel_rfl) (fun K10 hK10 => ?_)
    refine S_mv rfl ?_
    refine S_as rfl ?_
    refine S_nil (hK10 _ _ (V_keep [4] (by simp only [proj, lk, reduceIte, Nat.reduceEqDiff]; rfl) ?_)); clear hK10
    refine V_ret ?_
    refine hR _ _ (ret1 rfl rfl ?_)
    exact ⟨g, rfl, by rw [← hdn]; exact hg, hE.trans hE2⟩
set_option maxHeartbeats 400000 in
theorem follows_spec (h : Heap) (la : Option Addr) (lc lo hi_ : Nat) (cs : List (List Int)) (hlv : LV lo hi_ h la lc cs) (hcs : ∀ c ∈ cs, Nrm c) (hll : cs.length ≤ 1099511627776) (ac : Option Addr) (cc : Nat) (c : List Int) (hc : IL h ac cc c) (hn : Nrm c) (hf : ∀ ms, ms < 4096 → sat cs ms → ∃ x ∈ c, tru ms x) :
    FC Tryz.prog 117 (#[.slice la cs.length lc, .slice ac c.length cc] : Array Value) h fun rv h' => rv = .bool true ∧ h = h' := by
  refine FC_of [(0, .slice la cs.length lc), (1, .slice ac c.length cc)] Tryz.func117 rfl Tryz.ntmps117 (by simp) rfl (fun R hR => ?_)
  refine V_sr T.mix (by kernel_rfl) (fun K1 hK1 => ?_)
  refine S_as rfl ?_
  refine S_nil (hK1 _ _ (V_keep [0, 1] (by simp only [proj, lk, reduceIte, Nat.reduceEqDiff]; rfl) ?_)); clear hK1
  refine V_seq (fun K2 hK2 => ?_)
  refine V_sr T.mix (by kernel_rfl) (fun K3 hK3 => ?_)
  refine S_as rfl ?_
  refine S_nil (hK3 _ _ (V_keep [0, 1, 5] (by simp only [proj, lk, reduceIte, Nat.reduceEqDiff]; rfl) ?_)); clear hK3
  refine V_block ?_
  refine V_loop (fun m l h' => ∃ (k : Nat), (k ≤ 4096) ∧ m = 4096 - k ∧ l = [(0, .slice la cs.length lc), (1, .slice ac c.length cc), (5, .int .i64 (k : Int))] ∧ h = h') _ ⟨0, by omega, rfl, rfl, rfl⟩ ?_
  rintro m l h' ⟨k, hk, rfl, rfl, rfl⟩ K4 hK4
  refine V_seq (fun K5 hK5 => ?_)
  refine V_sr T.mix (by kernel_rfl) (fun K6 hK6 => ?_)
  refine S_mv rfl ?_
  refine S_bin rfl rfl rfl ?_
  refine S_nil (hK6 _ _ (V_keep [0, 1, 5, 7] (by simp only [proj, lk, reduceIte, Nat.reduceEqDiff]; rfl) ?_)); clear hK6
  refine V_condp rfl (fun c67 => ?_) (fun c67 => ?_)
  · skip
    refine V_skipk [0, 1, 5] (by simp only [proj, lk, reduceIte, Nat.reduceEqDiff]; rfl) ?_
    refine hK5 _ _ ?_; clear hK5
    refine V_seq (fun K7 hK7 => ?_)
    refine V_block ?_
    refine V_sr T.mix (by kernel_rfl) (fun K8 hK8 => ?_)
    refine S_mv rfl ?_
    refine S_mv rfl ?_
    refine S_call T.hb133 rfl ?_
    refine FC.mono (allhold_spec h la lc lo hi_ cs hlv hcs hll k (by omega)) ?_
    rintro v' h' ⟨g, rfl, hg, rfl⟩
    refine S_nil (hK8 _ _ (V_keep [0, 1, 5, 12] (by simp only [proj, lk, reduceIte, Nat.reduceEqDiff]; rfl) ?_)); clear hK8
    refine V_condb rfl (fun c68 => ?_) (fun c68 => ?_)
    · skip
      refine V_sr T.mix (by kernel_rfl) (fun K9 hK9 => ?_)
      refine S_mv rfl ?_
      refine S_mv rfl ?_
      refine S_call T.hb134 rfl ?_
      refine FC.mono (tholds_spec h ac cc c hc hn k (by omega)) ?_
      rintro v' h' ⟨g2, rfl, hg2, rfl⟩
      refine S_notb rfl ?_
      refine S_nil (hK9 _ _ (V_keep [0, 1, 5, 16] (by simp only [proj, lk, reduceIte, Nat.reduceEqDiff]; rfl) ?_)); clear hK9
      refine V_condb rfl (fun c69 => ?_) (fun c69 => ?_)
      · skip
        have hg3 : g2 = true := hg2.2 (hf k (by omega) (hg.1 c68))
        exfalso; rw [hg3] at c69; cases c69
      · skip
        refine V_skipk [0, 1, 5] (by simp only [proj, lk, reduceIte, Nat.reduceEqDiff]; rfl) ?_
        refine hK7 _ _ ?_; clear hK7
        refine V_reg T.mix (by kernel_rfl) ?_
        refine S_mv rfl ?_
        first | refine S_add rfl rfl (by omega) (by omega) ?_ | refine S_bin rfl rfl rfl ?_
        refine S_as rfl ?_
        refine S_nilk [0, 1, 5] (by simp only [proj, lk, reduceIte, Nat.reduceEqDiff]; rfl) ?_
        exact hK4 _ _ ⟨_, by omega, k + 1, by omega, rfl, rfl, rfl⟩
    · skip
      refine V_skipk [0, 1, 5] (by simp only [proj, lk, reduceIte, Nat.reduceEqDiff]; rfl) ?_
      refine hK7 _ _ ?_; clear hK7
      refine V_reg T.mix (by kernel_rfl) ?_
      refine S_mv rfl ?_
      first | refine S_add rfl rfl (by omega) (by omega) ?_ | refine S_bin rfl rfl rfl ?_
      refine S_as rfl ?_
      refine S_nilk [0, 1, 5] (by simp only [proj, lk, reduceIte, Nat.reduceEqDiff]; rfl) ?_
      exact hK4 _ _ ⟨_, by omega, k + 1, by omega, rfl, rfl, rfl⟩
  · skip
    refine V_exitk [] rfl (by simp only [proj, lk, reduceIte, Nat.reduceEqDiff]; rfl) ?_
    refine hK2 _ _ ?_; clear hK2
    refine V_sr T.mix (by kernel_rfl) (fun K10 hK10 => ?_)
    refine S_as rfl ?_
    refine S_nil (hK10 _ _ (V_keep [4] (by simp only [proj, lk, reduceIte, Nat.reduceEqDiff]; rfl) ?_)); clear hK10
    refine V_ret ?_
    refine hR _ _ (ret1 rfl rfl ?_)
    exact ⟨rfl, rfl⟩
end Go.Proofs.Qxb6500400aGreat
