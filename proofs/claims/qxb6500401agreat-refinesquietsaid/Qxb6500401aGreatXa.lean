import Derived.Test.Qxb6500401aGreatSa
set_option linter.unusedVariables false
set_option linter.unusedSimpArgs false
namespace Go.Proofs.Qxb6500401aGreat
open Go.Eng Go.Trl Go.Chk Go.Wat

def lkL (W : WC) (id : Nat) (c0 c1 : Nat) : Nat → Nat := upN (upN W.list c0 (W.list c0 ||| 2 ^ id)) c1 (upN W.list c0 (W.list c0 ||| 2 ^ id) c1 ||| 2 ^ id)
def ulL (W : WC) (id : Nat) (c0 c1 : Nat) : Nat → Nat := upN (upN W.list c0 (wo (W.list c0) (2 ^ id))) c1 (wo (upN W.list c0 (wo (W.list c0) (2 ^ id)) c1) (2 ^ id))
theorem lk_bit (W : WC) (id c0 c1 q i : Nat) : (lkL W id c0 c1 q).testBit i = ((W.list q).testBit i || (decide (i = id) && (decide (c0 = q) || decide (c1 = q)))) := by
  unfold lkL upN
  by_cases e1 : q = c1
  · subst e1; rw [if_pos rfl, or_bit]
    by_cases e2 : q = c0
    · subst e2; rw [if_pos rfl, or_bit]; by_cases e3 : i = id <;> simp [e3, Ne.symm, eq_comm]
    · rw [if_neg e2]; by_cases e3 : i = id <;> simp [e3, Ne.symm, eq_comm]
  · rw [if_neg e1]
    by_cases e2 : q = c0
    · subst e2; rw [if_pos rfl, or_bit]; by_cases e3 : i = id <;> simp [e3, Ne.symm, eq_comm]
    · rw [if_neg e2]; simp [Ne.symm e1, Ne.symm e2]
theorem ul_bit (W : WC) (id c0 c1 q i : Nat) : (ulL W id c0 c1 q).testBit i = ((W.list q).testBit i && !(decide (i = id) && (decide (c0 = q) || decide (c1 = q)))) := by
  unfold ulL upN
  by_cases e1 : q = c1
  · subst e1; rw [if_pos rfl, wo_bit2]
    by_cases e2 : q = c0
    · subst e2; rw [if_pos rfl, wo_bit2]; by_cases e3 : i = id <;> simp [e3, Ne.symm, eq_comm]
    · rw [if_neg e2]; by_cases e3 : i = id <;> simp [e3, Ne.symm, eq_comm]
  · rw [if_neg e1]
    by_cases e2 : q = c0
    · subst e2; rw [if_pos rfl, wo_bit2]; by_cases e3 : i = id <;> simp [e3, Ne.symm, eq_comm]
    · rw [if_neg e2]; simp [Ne.symm e1, Ne.symm e2]
set_option maxHeartbeats 400000 in
theorem code_spec (h : Heap) (lt : Int) (hg : gd lt) :
    FC Tryz.prog 139 (#[.int .i64 lt] : Array Value) h fun rv h' => rv = .int .i64 ((cdn lt : Nat) : Int) ∧ h = h' := by
  unfold gd at hg
  refine FC_of [(0, .int .i64 lt)] Tryz.func139 rfl Tryz.ntmps139 (by simp) rfl (fun R hR => ?_)
  refine V_sr T.mix (by kernel_rfl) (fun K1 hK1 => ?_)
  refine S_as rfl ?_
  refine S_nil (hK1 _ _ (V_keep [0] (by simp only [proj, lk, reduceIte, Nat.reduceEqDiff]; rfl) ?_)); clear hK1
  refine V_seq (fun K2 hK2 => ?_)
  refine V_sr T.mix (by kernel_rfl) (fun K3 hK3 => ?_)
  refine S_mv rfl ?_
  refine S_bin rfl rfl rfl ?_
  refine S_nil (hK3 _ _ (V_keep [0, 4] (by simp only [proj, lk, reduceIte, Nat.reduceEqDiff]; rfl) ?_)); clear hK3
  refine V_condp rfl (fun c39 => ?_) (fun c39 => ?_)
  · skip
    refine V_sr T.mix (by kernel_rfl) (fun K4 hK4 => ?_)
    refine S_mv rfl ?_
    first | refine S_mul rfl rfl (by omega) (by omega) ?_ | refine S_bin rfl rfl rfl ?_
    refine S_as rfl ?_
    refine S_nil (hK4 _ _ (V_keep [2] (by simp only [proj, lk, reduceIte, Nat.reduceEqDiff]; rfl) ?_)); clear hK4
    refine V_ret ?_
    refine hR _ _ (ret1 rfl rfl ?_)
    exact ⟨by unfold cdn; rw [if_pos (by omega)]; congr 1; omega, rfl⟩
  · skip
    refine V_skipk [0] (by simp only [proj, lk, reduceIte, Nat.reduceEqDiff]; rfl) ?_
    refine hK2 _ _ ?_; clear hK2
    refine V_sr T.mix (by kernel_rfl) (fun K5 hK5 => ?_)
    refine S_mv rfl ?_
    first | refine S_mul rfl rfl (by omega) (by omega) ?_ | refine S_bin rfl rfl rfl ?_
    first | refine S_sub rfl rfl (by omega) (by omega) ?_ | refine S_bin rfl rfl rfl ?_
    refine S_as rfl ?_
    refine S_nil (hK5 _ _ (V_keep [2] (by simp only [proj, lk, reduceIte, Nat.reduceEqDiff]; rfl) ?_)); clear hK5
    refine V_ret ?_
    refine hR _ _ (ret1 rfl rfl ?_)
    exact ⟨by unfold cdn; rw [if_neg (by omega)]; congr 1; omega, rfl⟩
set_option maxHeartbeats 400000 in
theorem bit_spec (h : Heap) (id : Nat) (hid : id < 52) :
    FC Tryz.prog 118 (#[.int .i64 (id : Int)] : Array Value) h fun rv h' => rv = .int .u64 ((2 ^ id : Nat) : Int) ∧ h = h' := by
  refine FC_of [(0, .int .i64 (id : Int))] Tryz.func118 rfl Tryz.ntmps118 (by simp) rfl (fun R hR => ?_)
  refine V_sr T.mix (by kernel_rfl) (fun K1 hK1 => ?_)
  refine S_as rfl ?_
  refine S_nil (hK1 _ _ (V_keep [0] (by simp only [proj, lk, reduceIte, Nat.reduceEqDiff]; rfl) ?_)); clear hK1
  refine V_sr T.mix (by kernel_rfl) (fun K2 hK2 => ?_)
  refine S_mv rfl ?_
  first | refine S_cvn T.us3 T.in57 rfl rfl (by first | omega | (simp only [IntKind.bits]; omega)) ?_ | refine S_cvu T.us3 T.in57 rfl (by omega) (by omega) ?_ | refine S_cv T.us3 T.in57 rfl ?_
  refine S_nshl 1 id (2 ^ id) rfl rfl rfl rfl (Nat.one_mul _) (show id ≤ 64 by omega) (t52 (p52 hid)) ?_
  refine S_as rfl ?_
  refine S_nil (hK2 _ _ (V_keep [2] (by simp only [proj, lk, reduceIte, Nat.reduceEqDiff]; rfl) ?_)); clear hK2
  refine V_ret ?_
  refine hR _ _ (ret1 rfl rfl ?_)
  exact ⟨rfl, rfl⟩
set_option maxHeartbeats 400000 in
theorem has_spec (h : Heap) (st id : Nat) (hst : st < 4503599627370496) (hid : id < 52) :
    FC Tryz.prog 46 (#[.int .u64 (st : Int), .int .i64 (id : Int)] : Array Value) h fun rv h' => ∃ g : Bool, rv = .bool g ∧ g = st.testBit id ∧ h = h' := by
  have hdv := Nat.div_le_self st (2 ^ id)
  refine FC_of [(0, .int .u64 (st : Int)), (1, .int .i64 (id : Int))] Tryz.func46 rfl Tryz.ntmps46 (by simp) rfl (fun R hR => ?_)
  refine V_sr T.mix (by kernel_rfl) (fun K1 hK1 => ?_)
  refine S_as rfl ?_
  refine S_nil (hK1 _ _ (V_keep [0, 1] (by simp only [proj, lk, reduceIte, Nat.reduceEqDiff]; rfl) ?_)); clear hK1
  refine V_sr T.mix (by kernel_rfl) (fun K2 hK2 => ?_)
  refine S_mv rfl ?_
  refine S_mv rfl ?_
  first | refine S_cvn T.us3 T.in57 rfl rfl (by first | omega | (simp only [IntKind.bits]; omega)) ?_ | refine S_cvu T.us3 T.in57 rfl (by omega) (by omega) ?_ | refine S_cv T.us3 T.in57 rfl ?_
  refine S_nshr st id _ rfl rfl rfl rfl rfl (show id ≤ 64 by omega) ?_
  refine S_nand (st / 2 ^ id) 1 _ rfl rfl rfl rfl rfl (t52 (Nat.lt_of_le_of_lt hdv hst)) (by decide) ?_
  rw [Nat.and_one_is_mod]
  refine S_bin rfl rfl rfl ?_
  refine S_as rfl ?_
  refine S_nil (hK2 _ _ (V_keep [4] (by simp only [proj, lk, reduceIte, Nat.reduceEqDiff]; rfl) ?_)); clear hK2
  refine V_ret ?_
  refine hR _ _ (ret1 rfl rfl ?_)
  exact ⟨_, rfl, by rw [Nat.testBit_eq_decide_div_mod_eq]; exact decide_eq_decide.2 ⟨fun e => by omega, fun e => by omega⟩, rfl⟩
set_option maxHeartbeats 400000 in
theorem wlive_spec (h : Heap) (C X : Nat) (W : WC) (hB : WB h C X W) (hu : W.used < 4503599627370496) (id : Int) :
    FC Tryz.prog 26 (#[.pointer (some ⟨C, 0, none⟩), .int .i64 id] : Array Value) h fun rv h' => ∃ g : Bool, rv = .bool g ∧ (g = true ↔ ∃ n : Nat, id = n ∧ n < 52 ∧ W.used.testBit n = true) ∧ h = h' := by
  refine FC_of [(0, .pointer (some ⟨C, 0, none⟩)), (1, .int .i64 id)] Tryz.func26 rfl Tryz.ntmps26 (by simp) rfl (fun R hR => ?_)
  refine V_sr T.mix (by kernel_rfl) (fun K1 hK1 => ?_)
  refine S_as rfl ?_
  refine S_nil (hK1 _ _ (V_keep [0, 1] (by simp only [proj, lk, reduceIte, Nat.reduceEqDiff]; rfl) ?_)); clear hK1
  refine V_seq (fun K2 hK2 => ?_)
  refine V_sr T.mix (by kernel_rfl) (fun K3 hK3 => ?_)
  refine S_mv rfl ?_
  refine S_bin rfl rfl rfl ?_
  refine S_mv rfl ?_
  refine S_dec (fun g53 => ?_) (fun g53 => ?_)
  · skip
    refine S_gf rfl ?_
    refine S_gf rfl ?_
    refine S_pt rfl rfl ?_
    refine S_nil (hK3 _ _ (V_keep [0, 1, 10] (by simp only [proj, lk, reduceIte, Nat.reduceEqDiff]; rfl) ?_)); clear hK3
    refine V_condt rfl ?_
    refine V_sr T.mix (by kernel_rfl) (fun K4 hK4 => ?_)
    refine S_as rfl ?_
    refine S_nil (hK4 _ _ (V_keep [4] (by simp only [proj, lk, reduceIte, Nat.reduceEqDiff]; rfl) ?_)); clear hK4
    refine V_ret ?_
    refine hR _ _ (ret1 rfl rfl ?_)
    exact ⟨false, rfl, ⟨fun e => (by cases e), fun ⟨n, e, e2, _⟩ => by omega⟩, rfl⟩
  · skip
    refine S_gt rfl ?_
    refine S_mv rfl ?_
    refine S_gt rfl ?_
    refine S_bin rfl rfl rfl ?_
    refine S_pf rfl rfl ?_
    refine S_nil (hK3 _ _ (V_keep [0, 1, 10] (by simp only [proj, lk, reduceIte, Nat.reduceEqDiff]; rfl) ?_)); clear hK3
    refine V_condp rfl (fun c53 => ?_) (fun c53 => ?_)
    · skip
      refine V_sr T.mix (by kernel_rfl) (fun K5 hK5 => ?_)
      refine S_as rfl ?_
      refine S_nil (hK5 _ _ (V_keep [4] (by simp only [proj, lk, reduceIte, Nat.reduceEqDiff]; rfl) ?_)); clear hK5
      refine V_ret ?_
      refine hR _ _ (ret1 rfl rfl ?_)
      exact ⟨false, rfl, ⟨fun e => (by cases e), fun ⟨n, e, e2, _⟩ => by omega⟩, rfl⟩
    · skip
      obtain ⟨n, rfl⟩ : ∃ n : Nat, id = n := ⟨id.toNat, by omega⟩
      refine V_skipk [0, 1] (by simp only [proj, lk, reduceIte, Nat.reduceEqDiff]; rfl) ?_
      refine hK2 _ _ ?_; clear hK2
      refine V_sr T.mix (by kernel_rfl) (fun K6 hK6 => ?_)
      refine S_mv rfl ?_
      refine S_nc rfl ?_
      first | refine S_fa0 T.f78_3 rfl ?_ | refine S_fa T.f78_3 rfl ?_
      refine S_ldK T.ag75 rfl (fun K' hK' => ?_)
      simp (disch := omega) only [wlT hB, wlLit hB, wlSize hB, wlUsed hB, wlFresh hB, wlWeak hB, wlList hB, wlVis hB, oP_some, Nat.add_zero]
      refine hK' _ ?_; clear hK' K'
      refine S_mv rfl ?_
      refine S_call T.hb46 rfl ?_
      refine FC.mono (has_spec h (W.used) (n) (hu) (by omega)) ?_
      rintro v' h' ⟨g, rfl, hg, rfl⟩
      refine S_as rfl ?_
      refine S_nil (hK6 _ _ (V_keep [4] (by simp only [proj, lk, reduceIte, Nat.reduceEqDiff]; rfl) ?_)); clear hK6
      refine V_ret ?_
      refine hR _ _ (ret1 rfl rfl ?_)
      exact ⟨g, rfl, ⟨fun e => ⟨n, rfl, by omega, by rw [← hg]; exact e⟩, fun ⟨k, e1, e2, e3⟩ => by rw [hg, show n = k by omega]; exact e3⟩, rfl⟩
set_option maxHeartbeats 400000 in
theorem room_spec (h : Heap) (C X : Nat) (W : WC) (hB : WB h C X W) (hu : W.used < 4503599627370496) (le : Bool) :
    FC Tryz.prog 117 (#[.pointer (some ⟨C, 0, none⟩), .bool (decide (le = true))] : Array Value) h fun rv h' => ∃ r : Int, rv = .int .i64 r ∧ h = h' ∧ ((∃ n : Nat, r = n ∧ (if le then 40 else 0) ≤ n ∧ n < (if le then 52 else 40) ∧ W.used.testBit n = false ∧ ∀ j, (if le then 40 else 0) ≤ j → j < n → W.used.testBit j = true) ∨ (r = -1 ∧ ∀ j, (if le then 40 else 0) ≤ j → j < (if le then 52 else 40) → W.used.testBit j = true)) := by
  refine FC_of [(0, .pointer (some ⟨C, 0, none⟩)), (1, .bool (decide (le = true)))] Tryz.func117 rfl Tryz.ntmps117 (by simp) rfl (fun R hR => ?_)
  refine V_sr T.mix (by kernel_rfl) (fun K1 hK1 => ?_)
  refine S_as rfl ?_
  refine S_nil (hK1 _ _ (V_keep [0, 1] (by simp only [proj, lk, reduceIte, Nat.reduceEqDiff]; rfl) ?_)); clear hK1
  refine V_sr T.mix (by kernel_rfl) (fun K2 hK2 => ?_)
  refine S_as rfl ?_
  refine S_nil (hK2 _ _ (V_keep [0, 1, 5] (by simp only [proj, lk, reduceIte, Nat.reduceEqDiff]; rfl) ?_)); clear hK2
  refine V_sr T.mix (by kernel_rfl) (fun K3 hK3 => ?_)
  refine S_as rfl ?_
  refine S_nil (hK3 _ _ (V_keep [0, 1, 5, 6] (by simp only [proj, lk, reduceIte, Nat.reduceEqDiff]; rfl) ?_)); clear hK3
  refine V_seqJ (fun l h' => ∃ (lo hi_ : Nat), (lo = if le then 40 else 0) ∧ (hi_ = if le then 52 else 40) ∧ (lo ≤ hi_ ∧ hi_ ≤ 52) ∧ l = [(0, .pointer (some ⟨C, 0, none⟩)), (5, .int .i64 (lo : Int)), (6, .int .i64 (hi_ : Int))] ∧ h = h') ?_ ?_
  · skip
    refine V_sr T.mix (by kernel_rfl) (fun K5 hK5 => ?_)
    refine S_mv rfl ?_
    refine S_nil (hK5 _ _ (V_keep [0, 5, 6, 8] (by simp only [proj, lk, reduceIte, Nat.reduceEqDiff]; rfl) ?_)); clear hK5
    refine V_condp rfl (fun c77 => ?_) (fun c77 => ?_)
    · skip
      refine V_sr T.mix (by kernel_rfl) (fun K6 hK6 => ?_)
      refine S_as rfl ?_
      refine S_nil (hK6 _ _ (V_keep [0, 5] (by simp only [proj, lk, reduceIte, Nat.reduceEqDiff]; rfl) ?_)); clear hK6
      refine V_reg T.mix (by kernel_rfl) ?_
      refine S_as rfl ?_
      refine S_nilk [0, 5, 6] (by simp only [proj, lk, reduceIte, Nat.reduceEqDiff]; rfl) ?_
      exact ⟨40, 52, by rw [if_pos c77], by rw [if_pos c77], by omega, rfl, rfl⟩
    · skip
      refine V_skipk [0, 5, 6] (by simp only [proj, lk, reduceIte, Nat.reduceEqDiff]; rfl) ?_
      exact ⟨0, 40, by rw [if_neg c77], by rw [if_neg c77], by omega, rfl, rfl⟩
  rintro l h' ⟨lo, hi_, hlo, hhi, hb, rfl, rfl⟩
  rw [← hlo, ← hhi] at hR
  refine V_seq (fun K7 hK7 => ?_)
  refine V_sr T.mix (by kernel_rfl) (fun K8 hK8 => ?_)
  refine S_mv rfl ?_
  refine S_as rfl ?_
  refine S_nil (hK8 _ _ (V_keep [0, 6, 7] (by simp only [proj, lk, reduceIte, Nat.reduceEqDiff]; rfl) ?_)); clear hK8
  refine V_block ?_
  refine V_loop (fun m l h' => ∃ (i : Nat), (lo ≤ i) ∧ (i ≤ hi_) ∧ (∀ j, lo ≤ j → j < i → W.used.testBit j = true) ∧ m = hi_ - i ∧ l = [(0, .pointer (some ⟨C, 0, none⟩)), (6, .int .i64 (hi_ : Int)), (7, .int .i64 (i : Int))] ∧ h = h') _ ⟨lo, by omega, by omega, fun j h1 h2 => by omega, rfl, rfl, rfl⟩ ?_
  rintro m l h' ⟨i, hi1, hi2, hn, rfl, rfl, rfl⟩ K9 hK9
  refine V_seq (fun K10 hK10 => ?_)
  refine V_sr T.mix (by kernel_rfl) (fun K11 hK11 => ?_)
  refine S_mv rfl ?_
  refine S_mv rfl ?_
  refine S_bin rfl rfl rfl ?_
  refine S_nil (hK11 _ _ (V_keep [0, 6, 7, 12] (by simp only [proj, lk, reduceIte, Nat.reduceEqDiff]; rfl) ?_)); clear hK11
  refine V_condp rfl (fun c81 => ?_) (fun c81 => ?_)
  · skip
    refine V_skipk [0, 6, 7] (by simp only [proj, lk, reduceIte, Nat.reduceEqDiff]; rfl) ?_
    refine hK10 _ _ ?_; clear hK10
    refine V_seq (fun K12 hK12 => ?_)
    refine V_block ?_
    refine V_sr T.mix (by kernel_rfl) (fun K13 hK13 => ?_)
    refine S_mv rfl ?_
    refine S_nc rfl ?_
    first | refine S_fa0 T.f78_3 rfl ?_ | refine S_fa T.f78_3 rfl ?_
    refine S_ldK T.ag75 rfl (fun K' hK' => ?_)
    simp (disch := omega) only [wlT hB, wlLit hB, wlSize hB, wlUsed hB, wlFresh hB, wlWeak hB, wlList hB, wlVis hB, oP_some, Nat.add_zero]
    refine hK' _ ?_; clear hK' K'
    refine S_mv rfl ?_
    refine S_call T.hb46 rfl ?_
    refine FC.mono (has_spec h (W.used) (i) (hu) (by omega)) ?_
    rintro v' h' ⟨g, rfl, hg, rfl⟩
    refine S_notb rfl ?_
    refine S_nil (hK13 _ _ (V_keep [0, 6, 7, 21] (by simp only [proj, lk, reduceIte, Nat.reduceEqDiff]; rfl) ?_)); clear hK13
    refine V_condb rfl (fun c82 => ?_) (fun c82 => ?_)
    · skip
      refine V_sr T.mix (by kernel_rfl) (fun K14 hK14 => ?_)
      refine S_mv rfl ?_
      refine S_as rfl ?_
      refine S_nil (hK14 _ _ (V_keep [4] (by simp only [proj, lk, reduceIte, Nat.reduceEqDiff]; rfl) ?_)); clear hK14
      refine V_ret ?_
      refine hR _ _ (ret1 rfl rfl ?_)
      exact ⟨_, rfl, rfl, .inl ⟨i, rfl, hi1, by omega, by rw [← hg]; simpa using c82, hn⟩⟩
    · skip
      refine V_skipk [0, 6, 7] (by simp only [proj, lk, reduceIte, Nat.reduceEqDiff]; rfl) ?_
      refine hK12 _ _ ?_; clear hK12
      refine V_reg T.mix (by kernel_rfl) ?_
      refine S_mv rfl ?_
      first | refine S_add rfl rfl (by omega) (by omega) ?_ | refine S_bin rfl rfl rfl ?_
      refine S_as rfl ?_
      refine S_nilk [0, 6, 7] (by simp only [proj, lk, reduceIte, Nat.reduceEqDiff]; rfl) ?_
      exact hK9 _ _ ⟨_, by omega, i + 1, by omega, by omega, fun j h1 h2 => by by_cases e : j = i; (rw [e, ← hg]; simpa using c82); (exact hn j h1 (by omega)), rfl, rfl, rfl⟩
  · skip
    refine V_exitk [] rfl (by simp only [proj, lk, reduceIte, Nat.reduceEqDiff]; rfl) ?_
    refine hK7 _ _ ?_; clear hK7
    refine V_sr T.mix (by kernel_rfl) (fun K15 hK15 => ?_)
    refine S_as rfl ?_
    refine S_nil (hK15 _ _ (V_keep [4] (by simp only [proj, lk, reduceIte, Nat.reduceEqDiff]; rfl) ?_)); clear hK15
    refine V_ret ?_
    refine hR _ _ (ret1 rfl rfl ?_)
    exact ⟨_, rfl, rfl, .inr ⟨rfl, fun j h1 h2 => hn j h1 (by omega)⟩⟩
set_option maxHeartbeats 400000 in
theorem link_spec (h : Heap) (C X : Nat) (W : WC) (hB : WB h C X W) (id : Nat) (hid : id < 52) (h0 : gd (W.lits (id * 12))) (h1g : gd (W.lits (id * 12 + 1))) (hl : ∀ q, q < 26 → W.list q < 4503599627370496) :
    FC Tryz.prog 137 (#[.pointer (some ⟨C, 0, none⟩), .int .i64 (id : Int)] : Array Value) h fun rv h' => rv = .tuple #[] ∧ WB h' C X { W with list := lkL W id (cdn (W.lits (id * 12))) (cdn (W.lits (id * 12 + 1))) } ∧ Ext (fun x => x = C) h h' := by
  have hE := Ext.refl (fun x => x = C) h
  have hc0 := cdn_lt h0
  have hc1 := cdn_lt h1g
  have hl0 := hl _ hc0
  have hl1 : ∀ q, q < 26 → upN W.list (cdn (W.lits (id * 12))) (W.list (cdn (W.lits (id * 12))) ||| 2 ^ id) q < 4503599627370496 := fun q hq => by unfold upN; split; (exact or52 hl0 (p52 hid)); (exact hl q hq)
  have hl1 := hl1 _ hc1
  generalize hc0e : cdn (W.lits (id * 12)) = c0 at *
  generalize hc1e : cdn (W.lits (id * 12 + 1)) = c1 at *
  refine FC_of [(0, .pointer (some ⟨C, 0, none⟩)), (1, .int .i64 (id : Int))] Tryz.func137 rfl Tryz.ntmps137 (by simp) rfl (fun R hR => ?_)
  refine V_sr T.mix (by kernel_rfl) (fun K1 hK1 => ?_)
  refine S_mv rfl ?_
  first | refine S_mul rfl rfl (by omega) (by omega) ?_ | refine S_bin rfl rfl rfl ?_
  refine S_as rfl ?_
  refine S_nil (hK1 _ _ (V_keep [0, 1, 4] (by simp only [proj, lk, reduceIte, Nat.reduceEqDiff]; rfl) ?_)); clear hK1
  refine V_sr T.mix (by kernel_rfl) (fun K2 hK2 => ?_)
  refine S_mv rfl ?_
  refine S_call T.hb118 rfl ?_
  refine FC.mono (bit_spec h id hid) ?_
  rintro v' h' ⟨rfl, rfl⟩
  refine S_as rfl ?_
  refine S_nil (hK2 _ _ (V_keep [0, 4, 5] (by simp only [proj, lk, reduceIte, Nat.reduceEqDiff]; rfl) ?_)); clear hK2
  refine V_sr T.mix (by kernel_rfl) (fun K3 hK3 => ?_)
  refine S_mv rfl ?_
  refine S_mv rfl ?_
  refine S_nc rfl ?_
  first | refine S_fa0 T.f78_1 rfl ?_ | refine S_fa T.f78_1 rfl ?_
  first | refine S_ixan T.ar73 rfl rfl (by omega) ?_ | refine S_ixa1 T.ar73 rfl rfl (by omega) (by omega) ?_
  refine S_ldK T.ag3 rfl (fun K' hK' => ?_)
  simp (disch := omega) only [wlT hB, wlLit hB, wlSize hB, wlUsed hB, wlFresh hB, wlWeak hB, wlList hB, wlVis hB, oP_some, Nat.add_zero]
  refine hK' _ ?_; clear hK' K'
  refine S_call T.hb139 rfl ?_
  refine FC.mono (code_spec h (W.lits (id * 12)) h0) ?_
  rintro v' h' ⟨rfl, rfl⟩
  rw [hc0e]
  refine S_as rfl ?_
  refine S_nil (hK3 _ _ (V_keep [0, 4, 5, 6] (by simp only [proj, lk, reduceIte, Nat.reduceEqDiff]; rfl) ?_)); clear hK3
  refine V_sr T.mix (by kernel_rfl) (fun K4 hK4 => ?_)
  refine S_mv rfl ?_
  refine S_mv rfl ?_
  refine S_nc rfl ?_
  first | refine S_fa0 T.f78_6 rfl ?_ | refine S_fa T.f78_6 rfl ?_
  first | refine S_ixan T.ar76 rfl rfl (by omega) ?_ | refine S_ixa1 T.ar76 rfl rfl (by omega) (by omega) ?_
  refine S_ldK T.ag75 rfl (fun K' hK' => ?_)
  simp (disch := omega) only [wlT hB, wlLit hB, wlSize hB, wlUsed hB, wlFresh hB, wlWeak hB, wlList hB, wlVis hB, oP_some, Nat.add_zero]
  refine hK' _ ?_; clear hK' K'
  refine S_mv rfl ?_
  refine S_nor (W.list c0) (2 ^ id) _ rfl rfl rfl rfl rfl (t52 hl0) (t52 (p52 hid)) ?_
  refine S_nc rfl ?_
  first | refine S_fa0 T.f78_6 rfl ?_ | refine S_fa T.f78_6 rfl ?_
  first | refine S_ixan T.ar76 rfl rfl (by omega) ?_ | refine S_ixa1 T.ar76 rfl rfl (by omega) (by omega) ?_
  refine S_st T.sz75 rfl rfl rfl rfl (by simp (disch := omega) only [wok hB]) ?_
  generalize hh : putH _ _ _ = h1
  have hBh1 : WB h1 C X { W with list := upN W.list c0 (W.list c0 ||| 2 ^ id) } := by rw [← hh]; exact wsList hB c0 (W.list c0 ||| 2 ^ id) hc0
  have hEh1 : Ext (fun x => x = C) h h1 := by rw [← hh]; exact Ext.put _ _ rfl
  clear hh
  replace hE := hE.trans hEh1
  clear hB
  have hB := hBh1
  refine S_nil (hK4 _ _ (V_keep [0, 4, 5] (by simp only [proj, lk, reduceIte, Nat.reduceEqDiff]; rfl) ?_)); clear hK4
  refine V_sr T.mix (by kernel_rfl) (fun K5 hK5 => ?_)
  refine S_mv rfl ?_
  refine S_mv rfl ?_
  first | refine S_add rfl rfl (by omega) (by omega) ?_ | refine S_bin rfl rfl rfl ?_
  refine S_nc rfl ?_
  first | refine S_fa0 T.f78_1 rfl ?_ | refine S_fa T.f78_1 rfl ?_
  first | refine S_ixan T.ar73 rfl rfl (by omega) ?_ | refine S_ixa1 T.ar73 rfl rfl (by omega) (by omega) ?_
  refine S_ldK T.ag3 rfl (fun K' hK' => ?_)
  simp (disch := omega) only [wlT hB, wlLit hB, wlSize hB, wlUsed hB, wlFresh hB, wlWeak hB, wlList hB, wlVis hB, oP_some, Nat.add_zero]
  refine hK' _ ?_; clear hK' K'
  refine S_call T.hb139 rfl ?_
  refine FC.mono (code_spec h1 (W.lits (id * 12 + 1)) h1g) ?_
  rintro v' h' ⟨rfl, rfl⟩
  rw [hc1e]
  refine S_as rfl ?_
  refine S_nil (hK5 _ _ (V_keep [0, 5, 7] (by simp only [proj, lk, reduceIte, Nat.reduceEqDiff]; rfl) ?_)); clear hK5
  refine V_reg T.mix (by kernel_rfl) ?_
  refine S_mv rfl ?_
  refine S_mv rfl ?_
  refine S_nc rfl ?_
  first | refine S_fa0 T.f78_6 rfl ?_ | refine S_fa T.f78_6 rfl ?_
  first | refine S_ixan T.ar76 rfl rfl (by omega) ?_ | refine S_ixa1 T.ar76 rfl rfl (by omega) (by omega) ?_
  refine S_ldK T.ag75 rfl (fun K' hK' => ?_)
  simp (disch := omega) only [wlT hB, wlLit hB, wlSize hB, wlUsed hB, wlFresh hB, wlWeak hB, wlList hB, wlVis hB, oP_some, Nat.add_zero]
  refine hK' _ ?_; clear hK' K'
  refine S_mv rfl ?_
  refine S_nor (upN W.list c0 (W.list c0 ||| 2 ^ id) c1) (2 ^ id) _ rfl rfl rfl rfl rfl (t52 hl1) (t52 (p52 hid)) ?_
  refine S_nc rfl ?_
  first | refine S_fa0 T.f78_6 rfl ?_ | refine S_fa T.f78_6 rfl ?_
  first | refine S_ixan T.ar76 rfl rfl (by omega) ?_ | refine S_ixa1 T.ar76 rfl rfl (by omega) (by omega) ?_
  refine S_st T.sz75 rfl rfl rfl rfl (by simp (disch := omega) only [wok hB]) ?_
  generalize hh : putH _ _ _ = h2
  have hBh2 : WB h2 C X { W with list := lkL W id c0 c1 } := by rw [← hh]; exact wsList hB c1 (upN W.list c0 (W.list c0 ||| 2 ^ id) c1 ||| 2 ^ id) hc1
  have hEh2 : Ext (fun x => x = C) h1 h2 := by rw [← hh]; exact Ext.put _ _ rfl
  clear hh
  replace hE := hE.trans hEh2
  clear hB
  have hB := hBh2
  refine S_nilk [] (by simp only [proj, lk, reduceIte, Nat.reduceEqDiff]; rfl) ?_
  -- end
  refine hR _ _ (ret0 rfl ?_)
  exact ⟨rfl, hB, hE⟩
set_option maxHeartbeats 400000 in
theorem unlink_spec (h : Heap) (C X : Nat) (W : WC) (hB : WB h C X W) (id : Nat) (hid : id < 52) (h0 : gd (W.lits (id * 12))) (h1g : gd (W.lits (id * 12 + 1))) (hl : ∀ q, q < 26 → W.list q < 4503599627370496) :
    FC Tryz.prog 145 (#[.pointer (some ⟨C, 0, none⟩), .int .i64 (id : Int)] : Array Value) h fun rv h' => rv = .tuple #[] ∧ WB h' C X { W with list := ulL W id (cdn (W.lits (id * 12))) (cdn (W.lits (id * 12 + 1))) } ∧ Ext (fun x => x = C) h h' := by
  have hE := Ext.refl (fun x => x = C) h
  have hc0 := cdn_lt h0
  have hc1 := cdn_lt h1g
  have hl0 := hl _ hc0
  have hl1 : ∀ q, q < 26 → upN W.list (cdn (W.lits (id * 12))) (wo (W.list (cdn (W.lits (id * 12)))) (2 ^ id)) q < 4503599627370496 := fun q hq => by unfold upN; split; (exact wo52 hl0); (exact hl q hq)
  have hl1 := hl1 _ hc1
  generalize hc0e : cdn (W.lits (id * 12)) = c0 at *
  generalize hc1e : cdn (W.lits (id * 12 + 1)) = c1 at *
  refine FC_of [(0, .pointer (some ⟨C, 0, none⟩)), (1, .int .i64 (id : Int))] Tryz.func145 rfl Tryz.ntmps145 (by simp) rfl (fun R hR => ?_)
  refine V_sr T.mix (by kernel_rfl) (fun K1 hK1 => ?_)
  refine S_mv rfl ?_
  first | refine S_mul rfl rfl (by omega) (by omega) ?_ | refine S_bin rfl rfl rfl ?_
  refine S_as rfl ?_
  refine S_nil (hK1 _ _ (V_keep [0, 1, 4] (by simp only [proj, lk, reduceIte, Nat.reduceEqDiff]; rfl) ?_)); clear hK1
  refine V_sr T.mix (by kernel_rfl) (fun K2 hK2 => ?_)
  refine S_mv rfl ?_
  refine S_call T.hb118 rfl ?_
  refine FC.mono (bit_spec h id hid) ?_
  rintro v' h' ⟨rfl, rfl⟩
  refine S_as rfl ?_
  refine S_nil (hK2 _ _ (V_keep [0, 4, 5] (by simp only [proj, lk, reduceIte, Nat.reduceEqDiff]; rfl) ?_)); clear hK2
  refine V_sr T.mix (by kernel_rfl) (fun K3 hK3 => ?_)
  refine S_mv rfl ?_
  refine S_mv rfl ?_
  refine S_nc rfl ?_
  first | refine S_fa0 T.f78_1 rfl ?_ | refine S_fa T.f78_1 rfl ?_
  first | refine S_ixan T.ar73 rfl rfl (by omega) ?_ | refine S_ixa1 T.ar73 rfl rfl (by omega) (by omega) ?_
  refine S_ldK T.ag3 rfl (fun K' hK' => ?_)
  simp (disch := omega) only [wlT hB, wlLit hB, wlSize hB, wlUsed hB, wlFresh hB, wlWeak hB, wlList hB, wlVis hB, oP_some, Nat.add_zero]
  refine hK' _ ?_; clear hK' K'
  refine S_call T.hb139 rfl ?_
  refine FC.mono (code_spec h (W.lits (id * 12)) h0) ?_
  rintro v' h' ⟨rfl, rfl⟩
  rw [hc0e]
  refine S_as rfl ?_
  refine S_nil (hK3 _ _ (V_keep [0, 4, 5, 6] (by simp only [proj, lk, reduceIte, Nat.reduceEqDiff]; rfl) ?_)); clear hK3
  refine V_sr T.mix (by kernel_rfl) (fun K4 hK4 => ?_)
  refine S_mv rfl ?_
  refine S_mv rfl ?_
  refine S_nc rfl ?_
  first | refine S_fa0 T.f78_6 rfl ?_ | refine S_fa T.f78_6 rfl ?_
  first | refine S_ixan T.ar76 rfl rfl (by omega) ?_ | refine S_ixa1 T.ar76 rfl rfl (by omega) (by omega) ?_
  refine S_ldK T.ag75 rfl (fun K' hK' => ?_)
  simp (disch := omega) only [wlT hB, wlLit hB, wlSize hB, wlUsed hB, wlFresh hB, wlWeak hB, wlList hB, wlVis hB, oP_some, Nat.add_zero]
  refine hK' _ ?_; clear hK' K'
  refine S_mv rfl ?_
  refine S_nandn (W.list c0) (2 ^ id) rfl rfl rfl rfl rfl (b52 hl0) (b52 (p52 hid)) ?_
  refine S_nc rfl ?_
  first | refine S_fa0 T.f78_6 rfl ?_ | refine S_fa T.f78_6 rfl ?_
  first | refine S_ixan T.ar76 rfl rfl (by omega) ?_ | refine S_ixa1 T.ar76 rfl rfl (by omega) (by omega) ?_
  refine S_st T.sz75 rfl rfl rfl rfl (by simp (disch := omega) only [wok hB]) ?_
  generalize hh : putH _ _ _ = h1
  have hBh1 : WB h1 C X { W with list := upN W.list c0 (wo (W.list c0) (2 ^ id)) } := by rw [← hh]; exact wsList hB c0 (wo (W.list c0) (2 ^ id)) hc0
  have hEh1 : Ext (fun x => x = C) h h1 := by rw [← hh]; exact Ext.put _ _ rfl
  clear hh
  replace hE := hE.trans hEh1
  clear hB
  have hB := hBh1
  refine S_nil (hK4 _ _ (V_keep [0, 4, 5] (by simp only [proj, lk, reduceIte, Nat.reduceEqDiff]; rfl) ?_)); clear hK4
  refine V_sr T.mix (by kernel_rfl) (fun K5 hK5 => ?_)
  refine S_mv rfl ?_
  refine S_mv rfl ?_
  first | refine S_add rfl rfl (by omega) (by omega) ?_ | refine S_bin rfl rfl rfl ?_
  refine S_nc rfl ?_
  first | refine S_fa0 T.f78_1 rfl ?_ | refine S_fa T.f78_1 rfl ?_
  first | refine S_ixan T.ar73 rfl rfl (by omega) ?_ | refine S_ixa1 T.ar73 rfl rfl (by omega) (by omega) ?_
  refine S_ldK T.ag3 rfl (fun K' hK' => ?_)
  simp (disch := omega) only [wlT hB, wlLit hB, wlSize hB, wlUsed hB, wlFresh hB, wlWeak hB, wlList hB, wlVis hB, oP_some, Nat.add_zero]
  refine hK' _ ?_; clear hK' K'
  refine S_call T.hb139 rfl ?_
  refine FC.mono (code_spec h1 (W.lits (id * 12 + 1)) h1g) ?_
  rintro v' h' ⟨rfl, rfl⟩
  rw [hc1e]
  refine S_as rfl ?_
  refine S_nil (hK5 _ _ (V_keep [0, 5, 7] (by simp only [proj, lk, reduceIte, Nat.reduceEqDiff]; rfl) ?_)); clear hK5
  refine V_reg T.mix (by kernel_rfl) ?_
  refine S_mv rfl ?_
  refine S_mv rfl ?_
  refine S_nc rfl ?_
  first | refine S_fa0 T.f78_6 rfl ?_ | refine S_fa T.f78_6 rfl ?_
  first | refine S_ixan T.ar76 rfl rfl (by omega) ?_ | refine S_ixa1 T.ar76 rfl rfl (by omega) (by omega) ?_
  refine S_ldK T.ag75 rfl (fun K' hK' => ?_)
  simp (disch := omega) only [wlT hB, wlLit hB, wlSize hB, wlUsed hB, wlFresh hB, wlWeak hB, wlList hB, wlVis hB, oP_some, Nat.add_zero]
  refine hK' _ ?_; clear hK' K'
  refine S_mv rfl ?_
  refine S_nandn (upN W.list c0 (wo (W.list c0) (2 ^ id)) c1) (2 ^ id) rfl rfl rfl rfl rfl (b52 hl1) (b52 (p52 hid)) ?_
  refine S_nc rfl ?_
  first | refine S_fa0 T.f78_6 rfl ?_ | refine S_fa T.f78_6 rfl ?_
  first | refine S_ixan T.ar76 rfl rfl (by omega) ?_ | refine S_ixa1 T.ar76 rfl rfl (by omega) (by omega) ?_
  refine S_st T.sz75 rfl rfl rfl rfl (by simp (disch := omega) only [wok hB]) ?_
  generalize hh : putH _ _ _ = h2
  have hBh2 : WB h2 C X { W with list := ulL W id c0 c1 } := by rw [← hh]; exact wsList hB c1 (wo (upN W.list c0 (wo (W.list c0) (2 ^ id)) c1) (2 ^ id)) hc1
  have hEh2 : Ext (fun x => x = C) h1 h2 := by rw [← hh]; exact Ext.put _ _ rfl
  clear hh
  replace hE := hE.trans hEh2
  clear hB
  have hB := hBh2
  refine S_nilk [] (by simp only [proj, lk, reduceIte, Nat.reduceEqDiff]; rfl) ?_
  -- end
  refine hR _ _ (ret0 rfl ?_)
  exact ⟨rfl, hB, hE⟩
set_option maxHeartbeats 400000 in
theorem wvisits_spec (h : Heap) (C X : Nat) (W : WC) (hB : WB h C X W) :
    FC Tryz.prog 50 (#[.pointer (some ⟨C, 0, none⟩)] : Array Value) h fun rv h' => rv = .int .i64 (W.vis : Int) ∧ h = h' := by
  refine FC_of [(0, .pointer (some ⟨C, 0, none⟩))] Tryz.func50 rfl Tryz.ntmps50 (by simp) rfl (fun R hR => ?_)
  refine V_sr T.mix (by kernel_rfl) (fun K1 hK1 => ?_)
  refine S_as rfl ?_
  refine S_nil (hK1 _ _ (V_keep [0] (by simp only [proj, lk, reduceIte, Nat.reduceEqDiff]; rfl) ?_)); clear hK1
  refine V_sr T.mix (by kernel_rfl) (fun K2 hK2 => ?_)
  refine S_mv rfl ?_
  refine S_nc rfl ?_
  first | refine S_fa0 T.f78_7 rfl ?_ | refine S_fa T.f78_7 rfl ?_
  refine S_ldK T.ag3 rfl (fun K' hK' => ?_)
  simp (disch := omega) only [wlT hB, wlLit hB, wlSize hB, wlUsed hB, wlFresh hB, wlWeak hB, wlList hB, wlVis hB, oP_some, Nat.add_zero]
  refine hK' _ ?_; clear hK' K'
  refine S_as rfl ?_
  refine S_nil (hK2 _ _ (V_keep [2] (by simp only [proj, lk, reduceIte, Nat.reduceEqDiff]; rfl) ?_)); clear hK2
  refine V_ret ?_
  refine hR _ _ (ret1 rfl rfl ?_)
  exact ⟨rfl, rfl⟩
set_option maxHeartbeats 1600000 in
set_option maxRecDepth 100000 in
theorem wnew_spec (h : Heap) (X : Nat) :
    FC Tryz.prog 22 (#[.pointer (some ⟨X, 0, none⟩)] : Array Value) h fun v h' => v = .pointer (some ⟨h.size, 0, none⟩) ∧ WB h' h.size X ⟨fun _ => 0, fun _ => 0, 0, 0, 0, fun _ => 0, 0⟩ ∧ Ext (fun _ => False) h h' := by
  refine FC_of [(0, .pointer (some ⟨X, 0, none⟩))] Tryz.func22 rfl Tryz.ntmps22 (by simp) rfl (fun R hR => ?_)
  refine V_sr T.mix (by kernel_rfl) (fun K1 hK1 => ?_)
  refine S_as rfl ?_
  refine S_nil (hK1 _ _ (V_keep [0] (by simp only [proj, lk, reduceIte, Nat.reduceEqDiff]; rfl) ?_)); clear hK1
  refine V_sr T.mix (by kernel_rfl) (fun K2 hK2 => ?_)
  refine S_mv rfl ?_
  refine S_bld rfl (T.bld78_0 _) ?_
  refine S_boxA rfl ?_
  refine S_as rfl ?_
  refine S_nil (hK2 _ _ (V_keep [2] (by simp only [proj, lk, reduceIte, Nat.reduceEqDiff]; rfl) ?_)); clear hK2
  refine V_ret ?_
  refine hR _ _ (ret1 rfl rfl ?_)
  exact ⟨rfl, (B.new _ _ _).cong (by kernel_rfl), Ext.push _ _ _⟩
set_option maxHeartbeats 400000 in
theorem wreset_spec (h : Heap) (C X : Nat) (W : WC) (hB : WB h C X W) :
    FC Tryz.prog 89 (#[.pointer (some ⟨C, 0, none⟩)] : Array Value) h fun rv h' => rv = .tuple #[] ∧ (∃ W' : WC, WB h' C X W' ∧ W'.used = 0 ∧ W'.fresh = 0 ∧ W'.weak = 0 ∧ W'.vis = 0 ∧ (∀ q, q < 26 → W'.list q = 0) ∧ ∀ i, i < 52 → W'.size i = 0) ∧ Ext (fun x => x = C) h h' := by
  have hE := Ext.refl (fun x => x = C) h
  refine FC_of [(0, .pointer (some ⟨C, 0, none⟩))] Tryz.func89 rfl Tryz.ntmps89 (by simp) rfl (fun R hR => ?_)
  refine V_sr T.mix (by kernel_rfl) (fun K1 hK1 => ?_)
  refine S_mv rfl ?_
  refine S_nc rfl ?_
  first | refine S_fa0 T.f78_3 rfl ?_ | refine S_fa T.f78_3 rfl ?_
  refine S_st T.sz75 rfl rfl rfl rfl (by simp (disch := omega) only [wok hB]) ?_
  generalize hh : putH _ _ _ = h1
  have hBh1 : WB h1 C X { W with used := 0 } := by rw [← hh]; exact wsUsed hB 0
  have hEh1 : Ext (fun x => x = C) h h1 := by rw [← hh]; exact Ext.put _ _ rfl
  clear hh
  replace hE := hE.trans hEh1
  clear hB
  have hB := hBh1
  refine S_nil (hK1 _ _ (V_keep [0] (by simp only [proj, lk, reduceIte, Nat.reduceEqDiff]; rfl) ?_)); clear hK1
  refine V_sr T.mix (by kernel_rfl) (fun K2 hK2 => ?_)
  refine S_mv rfl ?_
  refine S_nc rfl ?_
  first | refine S_fa0 T.f78_4 rfl ?_ | refine S_fa T.f78_4 rfl ?_
  refine S_st T.sz75 rfl rfl rfl rfl (by simp (disch := omega) only [wok hB]) ?_
  generalize hh : putH _ _ _ = h2
  have hBh2 : WB h2 C X { W with used := 0, fresh := 0 } := by rw [← hh]; exact wsFresh hB 0
  have hEh2 : Ext (fun x => x = C) h1 h2 := by rw [← hh]; exact Ext.put _ _ rfl
  clear hh
  replace hE := hE.trans hEh2
  clear hB
  have hB := hBh2
  refine S_nil (hK2 _ _ (V_keep [0] (by simp only [proj, lk, reduceIte, Nat.reduceEqDiff]; rfl) ?_)); clear hK2
  refine V_sr T.mix (by kernel_rfl) (fun K3 hK3 => ?_)
  refine S_mv rfl ?_
  refine S_nc rfl ?_
  first | refine S_fa0 T.f78_5 rfl ?_ | refine S_fa T.f78_5 rfl ?_
  refine S_st T.sz75 rfl rfl rfl rfl (by simp (disch := omega) only [wok hB]) ?_
  generalize hh : putH _ _ _ = h3
  have hBh3 : WB h3 C X { W with used := 0, fresh := 0, weak := 0 } := by rw [← hh]; exact wsWeak hB 0
  have hEh3 : Ext (fun x => x = C) h2 h3 := by rw [← hh]; exact Ext.put _ _ rfl
  clear hh
  replace hE := hE.trans hEh3
  clear hB
  have hB := hBh3
  refine S_nil (hK3 _ _ (V_keep [0] (by simp only [proj, lk, reduceIte, Nat.reduceEqDiff]; rfl) ?_)); clear hK3
  refine V_sr T.mix (by kernel_rfl) (fun K4 hK4 => ?_)
  refine S_mv rfl ?_
  refine S_nc rfl ?_
  first | refine S_fa0 T.f78_7 rfl ?_ | refine S_fa T.f78_7 rfl ?_
  refine S_st T.sz3 rfl rfl rfl rfl (by simp (disch := omega) only [wok hB]) ?_
  generalize hh : putH _ _ _ = h4
  have hBh4 : WB h4 C X { W with used := 0, fresh := 0, weak := 0, vis := 0 } := by rw [← hh]; exact wsVis hB 0
  have hEh4 : Ext (fun x => x = C) h3 h4 := by rw [← hh]; exact Ext.put _ _ rfl
  clear hh
  replace hE := hE.trans hEh4
  clear hB
  have hB := hBh4
  refine S_nil (hK4 _ _ (V_keep [0] (by simp only [proj, lk, reduceIte, Nat.reduceEqDiff]; rfl) ?_)); clear hK4
  refine V_seq (fun K5 hK5 => ?_)
  refine V_sr T.mix (by kernel_rfl) (fun K6 hK6 => ?_)
  refine S_as rfl ?_
  refine S_nil (hK6 _ _ (V_keep [0, 2] (by simp only [proj, lk, reduceIte, Nat.reduceEqDiff]; rfl) ?_)); clear hK6
  refine V_block ?_
  refine V_loop (fun m l h' => ∃ (i : Nat) (hk : Heap) (Wk : WC), (i ≤ 26) ∧ (WB hk C X Wk) ∧ (Wk.used = 0 ∧ Wk.fresh = 0 ∧ Wk.weak = 0 ∧ Wk.vis = 0) ∧ (∀ q, q < i → Wk.list q = 0) ∧ (Ext (fun x => x = C) h hk) ∧ m = 26 - i ∧ l = [(0, .pointer (some ⟨C, 0, none⟩)), (2, .int .i64 (i : Int))] ∧ hk = h') _ ⟨0, h4, _, by omega, hB, ⟨rfl, rfl, rfl, rfl⟩, fun q hq => by omega, hE, rfl, rfl, rfl⟩ ?_
  rintro m l h' ⟨i, hk, Wk, hi, hBk, hz, hli, hEk, rfl, rfl, rfl⟩ K7 hK7
  clear hB hE
  have hB := hBk
  have hE := hEk
  refine V_seq (fun K8 hK8 => ?_)
  refine V_sr T.mix (by kernel_rfl) (fun K9 hK9 => ?_)
  refine S_mv rfl ?_
  refine S_bin rfl rfl rfl ?_
  refine S_nil (hK9 _ _ (V_keep [0, 2, 17] (by simp only [proj, lk, reduceIte, Nat.reduceEqDiff]; rfl) ?_)); clear hK9
  refine V_condp rfl (fun c65 => ?_) (fun c65 => ?_)
  · skip
    refine V_skipk [0, 2] (by simp only [proj, lk, reduceIte, Nat.reduceEqDiff]; rfl) ?_
    refine hK8 _ _ ?_; clear hK8
    refine V_seq (fun K10 hK10 => ?_)
    refine V_block ?_
    refine V_reg T.mix (by kernel_rfl) ?_
    refine S_mv rfl ?_
    refine S_mv rfl ?_
    refine S_nc rfl ?_
    first | refine S_fa0 T.f78_6 rfl ?_ | refine S_fa T.f78_6 rfl ?_
    first | refine S_ixan T.ar76 rfl rfl (by omega) ?_ | refine S_ixa1 T.ar76 rfl rfl (by omega) (by omega) ?_
    refine S_st T.sz75 rfl rfl rfl rfl (by simp (disch := omega) only [wok hB]) ?_
    generalize hh : putH _ _ _ = hk1
    have hBhk1 : WB hk1 C X { Wk with list := upN Wk.list i 0 } := by rw [← hh]; exact wsList hB i 0 (by omega)
    have hEhk1 : Ext (fun x => x = C) hk hk1 := by rw [← hh]; exact Ext.put _ _ rfl
    clear hh
    replace hE := hE.trans hEhk1
    clear hB
    have hB := hBhk1
    refine S_nilk [0, 2] (by simp only [proj, lk, reduceIte, Nat.reduceEqDiff]; rfl) ?_
    refine hK10 _ _ ?_; clear hK10
    refine V_reg T.mix (by kernel_rfl) ?_
    refine S_mv rfl ?_
    first | refine S_add rfl rfl (by omega) (by omega) ?_ | refine S_bin rfl rfl rfl ?_
    refine S_as rfl ?_
    refine S_nilk [0, 2] (by simp only [proj, lk, reduceIte, Nat.reduceEqDiff]; rfl) ?_
    exact hK7 _ _ ⟨_, by omega, i + 1, hk1, _, by omega, hB, hz, fun q hq => by simp only [upN]; by_cases e : q = i; (rw [if_pos e]); (rw [if_neg e]; exact hli q (by omega)), hE, rfl, rfl, rfl⟩
  · skip
    refine V_exitk [0] rfl (by simp only [proj, lk, reduceIte, Nat.reduceEqDiff]; rfl) ?_
    refine hK5 _ _ ?_; clear hK5
    refine V_sr T.mix (by kernel_rfl) (fun K11 hK11 => ?_)
    refine S_as rfl ?_
    refine S_nil (hK11 _ _ (V_keep [0, 3] (by simp only [proj, lk, reduceIte, Nat.reduceEqDiff]; rfl) ?_)); clear hK11
    refine V_block ?_
    refine V_loop (fun m l h' => ∃ (j : Nat) (hq : Heap) (Wq : WC), (j ≤ 52) ∧ (WB hq C X Wq) ∧ (Wq.used = 0 ∧ Wq.fresh = 0 ∧ Wq.weak = 0 ∧ Wq.vis = 0) ∧ (∀ q, q < 26 → Wq.list q = 0) ∧ (∀ q, q < j → Wq.size q = 0) ∧ (Ext (fun x => x = C) h hq) ∧ m = 52 - j ∧ l = [(0, .pointer (some ⟨C, 0, none⟩)), (3, .int .i64 (j : Int))] ∧ hq = h') _ ⟨0, hk, Wk, by omega, hB, hz, fun q hq => hli q (by omega), fun q hq => by omega, hE, rfl, rfl, rfl⟩ ?_
    rintro m l h' ⟨j, hq, Wq, hj, hBq, hzq, hlq, hsq, hEq, rfl, rfl, rfl⟩ K12 hK12
    clear hB hE
    have hB := hBq
    have hE := hEq
    refine V_seq (fun K13 hK13 => ?_)
    refine V_sr T.mix (by kernel_rfl) (fun K14 hK14 => ?_)
    refine S_mv rfl ?_
    refine S_bin rfl rfl rfl ?_
    refine S_nil (hK14 _ _ (V_keep [0, 3, 26] (by simp only [proj, lk, reduceIte, Nat.reduceEqDiff]; rfl) ?_)); clear hK14
    refine V_condp rfl (fun c68 => ?_) (fun c68 => ?_)
    · skip
      refine V_skipk [0, 3] (by simp only [proj, lk, reduceIte, Nat.reduceEqDiff]; rfl) ?_
      refine hK13 _ _ ?_; clear hK13
      refine V_seq (fun K15 hK15 => ?_)
      refine V_block ?_
      refine V_reg T.mix (by kernel_rfl) ?_
      refine S_mv rfl ?_
      refine S_mv rfl ?_
      refine S_nc rfl ?_
      first | refine S_fa0 T.f78_2 rfl ?_ | refine S_fa T.f78_2 rfl ?_
      first | refine S_ixan T.ar74 rfl rfl (by omega) ?_ | refine S_ixa1 T.ar74 rfl rfl (by omega) (by omega) ?_
      refine S_st T.sz3 rfl rfl rfl rfl (by simp (disch := omega) only [wok hB]) ?_
      generalize hh : putH _ _ _ = hq1
      have hBhq1 : WB hq1 C X { Wq with size := upN Wq.size j 0 } := by rw [← hh]; exact wsSize hB j 0 (by omega)
      have hEhq1 : Ext (fun x => x = C) hq hq1 := by rw [← hh]; exact Ext.put _ _ rfl
      clear hh
      replace hE := hE.trans hEhq1
      clear hB
      have hB := hBhq1
      refine S_nilk [0, 3] (by simp only [proj, lk, reduceIte, Nat.reduceEqDiff]; rfl) ?_
      refine hK15 _ _ ?_; clear hK15
      refine V_reg T.mix (by kernel_rfl) ?_
      refine S_mv rfl ?_
      first | refine S_add rfl rfl (by omega) (by omega) ?_ | refine S_bin rfl rfl rfl ?_
      refine S_as rfl ?_
      refine S_nilk [0, 3] (by simp only [proj, lk, reduceIte, Nat.reduceEqDiff]; rfl) ?_
      exact hK12 _ _ ⟨_, by omega, j + 1, hq1, _, by omega, hB, hzq, hlq, fun q hq => by simp only [upN]; by_cases e : q = j; (rw [if_pos e]); (rw [if_neg e]; exact hsq q (by omega)), hE, rfl, rfl, rfl⟩
    · skip
      refine V_exitk [] rfl (by simp only [proj, lk, reduceIte, Nat.reduceEqDiff]; rfl) ?_
      -- end
      refine hR _ _ (ret0 rfl ?_)
      exact ⟨rfl, ⟨Wq, hB, hzq.1, hzq.2.1, hzq.2.2.1, hzq.2.2.2, hlq, fun i hi => hsq i (by omega)⟩, hE⟩
end Go.Proofs.Qxb6500401aGreat
