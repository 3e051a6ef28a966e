import Derived.Test.Qxb6500404aGreatXd
set_option linter.unusedVariables false
set_option linter.unusedSimpArgs false
namespace Go.Proofs.Qxb6500404aGreat.HufW
open Go.Eng Go.Huf

/-- a list as a block of its own -/
def BL (h : Heap) (b : Nat) (xs : List Int) : Prop := B h b (arr xs.length fun j => .int .i64 (xs.getD j 0)) 3
theorem BL.il {h : Heap} {b N : Nat} {f : Nat → Nat} (hb : BL h b (il N f)) : B h b (ia N f) 3 := hb.cong (by rw [il_len]; exact arr_ext fun j hj => by rw [il_at hj])
theorem BL.IL {h : Heap} {b : Nat} {xs : List Int} (hb : BL h b xs) : IL h (some ⟨b, 0, none⟩) xs.length xs := IL.new hb
theorem cf_pos {cl : List Int} {i : Nat} : 0 < cf cl i ↔ 0 < cl.getD i 0 := by unfold cf; omega
/-- the answer of the least as a number -/
def LS (w hh : Nat → Nat) (no : Int) (i : Nat) (b : Int) : Prop := (b = -1 ∧ least i w hh no = none) ∨ ∃ n : Nat, b = n ∧ n < i ∧ least i w hh no = some n
theorem LS.z (w hh : Nat → Nat) (no : Int) : LS w hh no 0 (-1) := .inl ⟨rfl, rfl⟩
theorem LS.rng {w hh : Nat → Nat} {no : Int} {i : Nat} {b : Int} (h : LS w hh no i b) : b < 0 ∨ (0 ≤ b ∧ b < i) := by
  rcases h with ⟨h1, _⟩ | ⟨n, h1, h2, _⟩ <;> omega
theorem LS.step {w hh : Nat → Nat} {no : Int} {i : Nat} {b : Int} (h : LS w hh no i b) : LS w hh no (i + 1) (if (0 < w i ∧ (i : Int) ≠ no) ∧ (b < 0 ∨ w i * 1024 + hh i < w b.toNat * 1024 + hh b.toNat) then (i : Int) else b) := by
  rcases h with ⟨h1, h2⟩ | ⟨n, h1, h2, h3⟩
  · subst h1
    unfold least at h2
    by_cases e : 0 < w i ∧ (i : Int) ≠ no
    · rw [if_pos ⟨e, .inl (by omega)⟩]
      exact .inr ⟨i, rfl, by omega, by unfold least; rw [lst, h2]; simp only []; rw [if_pos (decide_eq_true e)]⟩
    · rw [if_neg (fun z => e z.1)]
      exact .inl ⟨rfl, by unfold least; rw [lst, h2]; simp only []; rw [if_neg (by rw [decide_eq_false e]; decide)]⟩
  · subst h1
    unfold least at h3
    rw [Int.toNat_natCast]
    by_cases e : (0 < w i ∧ (i : Int) ≠ no) ∧ w i * 1024 + hh i < w n * 1024 + hh n
    · rw [if_pos ⟨e.1, .inr e.2⟩]
      exact .inr ⟨i, rfl, by omega, by unfold least; rw [lst, h3]; simp only []; rw [if_pos ⟨decide_eq_true e.1, e.2⟩]⟩
    · rw [if_neg (fun z => e ⟨z.1, by have := z.2; omega⟩)]
      exact .inr ⟨n, rfl, by omega, by unfold least; rw [lst, h3]; simp only []; rw [if_neg (fun z => e ⟨of_decide_eq_true z.1, z.2⟩)]⟩
theorem LS.some {w hh : Nat → Nat} {no : Int} {N n : Nat} {b : Int} (h : LS w hh no N b) (e : least N w hh no = some n) : b = n := by
  rcases h with ⟨_, h2⟩ | ⟨k, h1, _, h3⟩
  · rw [e] at h2; cases h2
  · rw [e] at h3; cases h3; exact h1
theorem liv_il (N : Nat) (c : Nat → Nat) : liv (cf (il N c)) (il N c).length = liv c N := by
  rw [il_len]
  refine ct_congr fun i hi => ?_
  rw [cf_pos, il_at hi]; omega
theorem cf_il {N : Nat} {c : Nat → Nat} {i : Nat} (h : i < N) : cf (il N c) i = c i := by unfold cf; rw [il_at h]; rfl
theorem sm_jw {N : Nat} {w : Nat → Nat} {a b : Nat} (ha : a < N) (hb : b < N) (hab : a ≠ b) : Huf.sm (jw w a b) N = Huf.sm w N := by
  have := sm_two (f := jw w a b) (g := w) ha hb hab (fun i _ e1 e2 => jw_o e1 e2)
  rw [jw_a hab, jw_b] at this; omega
theorem ws_sum {N : Nat} : ∀ {r : List (Nat × Nat)} {w : Nat → Nat}, Gr N r w → Huf.sm (ws r w) N = Huf.sm w N
  | [], _, _ => rfl
  | p :: r, w, h => by rw [ws, ws_sum h.2, sm_jw h.1.xa h.1.xb h.1.ne]
theorem sm_bd {N : Nat} {c : Nat → Nat} (hN : N ≤ 265) (hcb : ∀ i, i < N → c i ≤ 1048576) : Huf.sm c N ≤ 300000000 := by
  have h3 : ∀ n, Huf.sm (fun _ => 1048576) n = 1048576 * n := fun n => by
    induction n with
    | zero => rfl
    | succ n ih => rw [Huf.sm, ih]; omega
  have := sm_le (f := c) (g := fun _ => 1048576) hcb
  rw [h3] at this; omega
theorem ws_bd {N : Nat} {c : Nat → Nat} {r : List (Nat × Nat)} (h : Gr N r c) (hN : N ≤ 265) (hcb : ∀ i, i < N → c i ≤ 1048576) {g : Nat} (hg : g < N) : ws r c g ≤ 300000000 := by
  have h1 := sm_at (f := ws r c) hg
  rw [ws_sum h] at h1
  have := sm_bd hN hcb; omega
theorem js_bd {N : Nat} : ∀ {r : List (Nat × Nat)} {w : Nat → Nat} {M : Nat}, Gr N r w → Huf.sm w N ≤ M → js r w ≤ (M + M) * r.length
  | [], _, _, _, _ => Nat.zero_le _
  | p :: r, w, M, h, hs => by
    have h1 := sm_at (f := w) h.1.xa
    have h2 := sm_at (f := w) h.1.xb
    have h3 := js_bd h.2 (M := M) (by rw [sm_jw h.1.xa h.1.xb h.1.ne]; exact hs)
    rw [js, List.length_cons, Nat.mul_add, Nat.mul_one]; omega
theorem itS_bd {N : Nat} {c : Nat → Nat} (hN : N ≤ 265) (hcb : ∀ i, i < N → c i ≤ 1048576) {j : Nat} (hj : j + 1 ≤ liv c N) : (∀ g, (itS N c j).h g ≤ j) ∧ (∀ i, (itS N c j).ln i ≤ j) ∧ ∀ g, g < N → (itS N c j).w g ≤ 300000000 := by
  obtain ⟨r, r1, r2⟩ := itS_HI (U := 265) (Nat.le_refl _) hN hj
  exact ⟨fun g => by have := r2.h g; omega, fun i => by have := r2.le i; omega, fun g hg => by rw [r2.w]; exact ws_bd r2.gr hN hcb hg⟩
theorem itS_liv {N : Nat} {c : Nat → Nat} (hN : N ≤ 265) {j : Nat} (hj : j + 1 ≤ liv c N) : liv c N = liv (itS N c j).w N + j := by
  obtain ⟨r, r1, r2⟩ := itS_HI (U := 265) (Nat.le_refl _) hN hj
  have := r2.liv; omega
set_option maxHeartbeats 400000 in
theorem copyints_spec (h : Heap) (a : Option Addr) (cap : Nat) (xs : List Int) (ho : OL h a cap xs) (hl : xs.length ≤ 1000) :
    FC Tryz.prog 134 (#[.slice a xs.length cap] : Array Value) h fun v h' => v = .slice (some ⟨h.size, 0, none⟩) xs.length xs.length ∧ BL h' h.size xs ∧ h.size < h'.size ∧ Ext (fun _ => False) h h' := by
  refine FC_of [(0, .slice a xs.length cap)] Tryz.func134 rfl Tryz.ntmps134 (by simp) rfl (fun R hR => ?_)
  refine V_sr T.mix (by kernel_rfl) (fun K1 hK1 => ?_)
  refine S_as rfl ?_
  refine S_nil (hK1 _ _ (V_keep [0] (by simp only [proj, lk, reduceIte, Nat.reduceEqDiff]; rfl) ?_)); clear hK1
  refine V_sr T.mix (by kernel_rfl) (fun K2 hK2 => ?_)
  refine S_mv rfl ?_
  refine S_lenl T.el56 rfl ?_
  refine S_mk T.ei56 rfl rfl (by omega) (by omega) (by omega) (by omega) ?_
  simp only [Int.toNat_natCast, Nat.mul_one, mkZ_one]
  generalize hh : Array.push h _ = h1
  have hB1 : B h1 h.size (arr xs.length fun _ => .int .i64 0) 3 := by rw [← hh]; exact B.new _ _ _
  have hE1 : Ext (fun _ => False) h h1 := by rw [← hh]; exact Ext.push _ _ _
  have ho1 := ho.ext hE1 (fun _ _ f => f)
  clear hh
  refine S_as rfl ?_
  refine S_nil (hK2 _ _ (V_keep [0, 3] (by simp only [proj, lk, reduceIte, Nat.reduceEqDiff]; rfl) ?_)); clear hK2
  refine V_sr T.mix (by kernel_rfl) (fun K3 hK3 => ?_)
  refine S_mv rfl ?_
  refine S_mv rfl ?_
  refine S_copyx T.el56 rfl (k := xs.length) (by simp) (OL.cells ho1) hB1 (by rw [ints_len]; omega) (ints_one _) (fun h2 hB2 hE2 hz2 => ?_)
  refine S_nil (hK3 _ _ (V_keep [3] (by simp only [proj, lk, reduceIte, Nat.reduceEqDiff]; rfl) ?_)); clear hK3
  refine V_sr T.mix (by kernel_rfl) (fun K4 hK4 => ?_)
  refine S_mv rfl ?_
  refine S_as rfl ?_
  refine S_nil (hK4 _ _ (V_keep [2] (by simp only [proj, lk, reduceIte, Nat.reduceEqDiff]; rfl) ?_)); clear hK4
  refine V_ret ?_
  refine hR _ _ (ret1 rfl rfl ?_)
  have hB3 : BL h2 h.size xs := hB2.cong (arr_ext fun j hj => by rw [if_pos (by rw [ints_len]; exact hj)]; simp [ints, hj])
  exact ⟨rfl, hB3, hB3.lt, hE1.step hE2 (fun b hb e => by omega)⟩
set_option maxHeartbeats 400000 in
theorem used_spec (h : Heap) (a : Option Addr) (cap : Nat) (xs : List Int) (ho : OL h a cap xs) (hl : xs.length ≤ 1000) :
    FC Tryz.prog 103 (#[.slice a xs.length cap] : Array Value) h fun v h' => v = .int .i64 (liv (cf xs) xs.length : Int) ∧ h = h' := by
  refine FC_of [(0, .slice a xs.length cap)] Tryz.func103 rfl Tryz.ntmps103 (by simp) rfl (fun R hR => ?_)
  refine V_sr T.mix (by kernel_rfl) (fun K1 hK1 => ?_)
  refine S_as rfl ?_
  refine S_nil (hK1 _ _ (V_keep [0] (by simp only [proj, lk, reduceIte, Nat.reduceEqDiff]; rfl) ?_)); clear hK1
  refine V_sr T.mix (by kernel_rfl) (fun K2 hK2 => ?_)
  refine S_as rfl ?_
  refine S_nil (hK2 _ _ (V_keep [0, 3] (by simp only [proj, lk, reduceIte, Nat.reduceEqDiff]; rfl) ?_)); clear hK2
  refine V_seq (fun K3 hK3 => ?_)
  refine V_sr T.mix (by kernel_rfl) (fun K4 hK4 => ?_)
  refine S_as rfl ?_
  refine S_nil (hK4 _ _ (V_keep [0, 3, 4] (by simp only [proj, lk, reduceIte, Nat.reduceEqDiff]; rfl) ?_)); clear hK4
  refine V_block ?_
  refine V_loop (fun m l h' => ∃ (i us : Nat), (i ≤ xs.length) ∧ (us = liv (cf xs) i) ∧ m = xs.length - i ∧ l = [(0, .slice a xs.length cap), (3, .int .i64 (us : Int)), (4, .int .i64 (i : Int))] ∧ h = h') _ ⟨0, 0, Nat.zero_le _, rfl, rfl, rfl, rfl⟩ ?_
  rintro m l h' ⟨i, us, hi, hus, rfl, rfl, rfl⟩ K5 hK5
  have hul := liv_le (cf xs) i
  refine V_seq (fun K6 hK6 => ?_)
  refine V_sr T.mix (by kernel_rfl) (fun K7 hK7 => ?_)
  refine S_mv rfl ?_
  refine S_mv rfl ?_
  refine S_lenl T.el56 rfl ?_
  refine S_bin rfl rfl rfl ?_
  refine S_nil (hK7 _ _ (V_keep [0, 3, 4, 8] (by simp only [proj, lk, reduceIte, Nat.reduceEqDiff]; rfl) ?_)); clear hK7
  refine V_condp rfl (fun c16 => ?_) (fun c16 => ?_)
  · skip
    obtain ⟨ab, ao, habe, _, hat⟩ := ho.get (by omega)
    subst habe
    refine V_skipk [0, 3, 4] (by simp only [proj, lk, reduceIte, Nat.reduceEqDiff]; rfl) ?_
    refine hK6 _ _ ?_; clear hK6
    refine V_seq (fun K8 hK8 => ?_)
    refine V_block ?_
    refine V_sr T.mix (by kernel_rfl) (fun K9 hK9 => ?_)
    refine S_mv rfl ?_
    refine S_mv rfl ?_
    first | refine S_ixn T.el56 rfl rfl (by omega) ?_ | refine S_ix1 T.el56 rfl rfl (by omega) (by omega) ?_ | refine S_ix T.el56 rfl rfl (by omega) (by omega) ?_
    refine S_ldK T.ag3 rfl (fun K' hK' => ?_)
    simp (disch := omega) only [hat, Nat.mul_one, Int.toNat_natCast, oP_some, Nat.add_zero]
    refine hK' _ ?_; clear hK' K'
    refine S_bin rfl rfl rfl ?_
    refine S_nil (hK9 _ _ (V_keep [0, 3, 4, 15] (by simp only [proj, lk, reduceIte, Nat.reduceEqDiff]; rfl) ?_)); clear hK9
    refine V_condp rfl (fun c17 => ?_) (fun c17 => ?_)
    · skip
      refine V_reg T.mix (by kernel_rfl) ?_
      refine S_mv rfl ?_
      refine S_addN (us + 1) rfl rfl (by omega) (by omega) ?_
      refine S_as rfl ?_
      refine S_nilk [0, 3, 4] (by simp only [proj, lk, reduceIte, Nat.reduceEqDiff]; rfl) ?_
      refine hK8 _ _ ?_; clear hK8
      refine V_reg T.mix (by kernel_rfl) ?_
      refine S_mv rfl ?_
      first | refine S_add rfl rfl (by omega) (by omega) ?_ | refine S_bin rfl rfl rfl ?_
      refine S_as rfl ?_
      refine S_nilk [0, 3, 4] (by simp only [proj, lk, reduceIte, Nat.reduceEqDiff]; rfl) ?_
      exact hK5 _ _ ⟨_, by omega, i + 1, us + 1, by omega, by rw [hus, liv_snoc, if_pos (cf_pos.2 (by omega))], rfl, rfl, rfl⟩
    · skip
      refine V_skipk [0, 3, 4] (by simp only [proj, lk, reduceIte, Nat.reduceEqDiff]; rfl) ?_
      refine hK8 _ _ ?_; clear hK8
      refine V_reg T.mix (by kernel_rfl) ?_
      refine S_mv rfl ?_
      first | refine S_add rfl rfl (by omega) (by omega) ?_ | refine S_bin rfl rfl rfl ?_
      refine S_as rfl ?_
      refine S_nilk [0, 3, 4] (by simp only [proj, lk, reduceIte, Nat.reduceEqDiff]; rfl) ?_
      exact hK5 _ _ ⟨_, by omega, i + 1, us, by omega, by rw [hus, liv_snoc, if_neg (fun z => by have h9 := cf_pos.1 z; omega)], rfl, rfl, rfl⟩
  · skip
    refine V_exitk [3] rfl (by simp only [proj, lk, reduceIte, Nat.reduceEqDiff]; rfl) ?_
    refine hK3 _ _ ?_; clear hK3
    refine V_sr T.mix (by kernel_rfl) (fun K10 hK10 => ?_)
    refine S_mv rfl ?_
    refine S_as rfl ?_
    refine S_nil (hK10 _ _ (V_keep [2] (by simp only [proj, lk, reduceIte, Nat.reduceEqDiff]; rfl) ?_)); clear hK10
    refine V_ret ?_
    refine hR _ _ (ret1 rfl rfl ?_)
    exact ⟨by rw [hus, show i = xs.length by omega], rfl⟩
set_option maxHeartbeats 1600000 in
theorem checkplan_spec (h : Heap) (ca : Option Addr) (cap : Nat) (cl : List Int) (hIc : OL h ca cap cl) (lim : Int) :
    FC Tryz.prog 102 (#[.slice ca cl.length cap, .int .i64 lim] : Array Value) h fun v h' => v = .int .i64 ((planE cl lim : Nat) : Int) ∧ h = h' := by
  refine FC_of [(0, .slice ca cl.length cap), (1, .int .i64 lim)] Tryz.func102 rfl Tryz.ntmps102 (by simp) rfl (fun R hR => ?_)
  refine V_sr T.mix (by kernel_rfl) (fun K1 hK1 => ?_)
  refine S_as rfl ?_
  refine S_nil (hK1 _ _ (V_keep [0, 1] (by simp only [proj, lk, reduceIte, Nat.reduceEqDiff]; rfl) ?_)); clear hK1
  refine V_seq (fun K2 hK2 => ?_)
  refine V_sr T.mix (by kernel_rfl) (fun K3 hK3 => ?_)
  refine S_mv rfl ?_
  refine S_lenl T.el56 rfl ?_
  refine S_bin rfl rfl rfl ?_
  refine S_nil (hK3 _ _ (V_keep [0, 1, 8] (by simp only [proj, lk, reduceIte, Nat.reduceEqDiff]; rfl) ?_)); clear hK3
  refine V_condp rfl (fun c46 => ?_) (fun c46 => ?_)
  · skip
    refine V_sr T.mix (by kernel_rfl) (fun K4 hK4 => ?_)
    refine S_as rfl ?_
    refine S_nil (hK4 _ _ (V_keep [4] (by simp only [proj, lk, reduceIte, Nat.reduceEqDiff]; rfl) ?_)); clear hK4
    refine V_ret ?_
    refine hR _ _ (ret1 rfl rfl ?_)
    exact ⟨by rw [planE_1 (by omega)]; rfl, rfl⟩
  · skip
    refine V_skipk [0, 1] (by simp only [proj, lk, reduceIte, Nat.reduceEqDiff]; rfl) ?_
    refine hK2 _ _ ?_; clear hK2
    refine V_seq (fun K5 hK5 => ?_)
    refine V_sr T.mix (by kernel_rfl) (fun K6 hK6 => ?_)
    refine S_mv rfl ?_
    refine S_bin rfl rfl rfl ?_
    refine S_mv rfl ?_
    refine S_dec (fun g49 => ?_) (fun g49 => ?_)
    · skip
      refine S_gf rfl ?_
      refine S_gf rfl ?_
      refine S_pt rfl rfl ?_
      refine S_nil (hK6 _ _ (V_keep [0, 1, 14] (by simp only [proj, lk, reduceIte, Nat.reduceEqDiff]; rfl) ?_)); clear hK6
      refine V_condt rfl ?_
      refine V_sr T.mix (by kernel_rfl) (fun K7 hK7 => ?_)
      refine S_as rfl ?_
      refine S_nil (hK7 _ _ (V_keep [4] (by simp only [proj, lk, reduceIte, Nat.reduceEqDiff]; rfl) ?_)); clear hK7
      refine V_ret ?_
      refine hR _ _ (ret1 rfl rfl ?_)
      exact ⟨by rw [planE_2 (by omega) (by omega)]; rfl, rfl⟩
    · skip
      refine S_gt rfl ?_
      refine S_mv rfl ?_
      refine S_gt rfl ?_
      refine S_bin rfl rfl rfl ?_
      refine S_pf rfl rfl ?_
      refine S_nil (hK6 _ _ (V_keep [0, 1, 14] (by simp only [proj, lk, reduceIte, Nat.reduceEqDiff]; rfl) ?_)); clear hK6
      refine V_condp rfl (fun c49 => ?_) (fun c49 => ?_)
      · skip
        refine V_sr T.mix (by kernel_rfl) (fun K8 hK8 => ?_)
        refine S_as rfl ?_
        refine S_nil (hK8 _ _ (V_keep [4] (by simp only [proj, lk, reduceIte, Nat.reduceEqDiff]; rfl) ?_)); clear hK8
        refine V_ret ?_
        refine hR _ _ (ret1 rfl rfl ?_)
        exact ⟨by rw [planE_2 (by omega) (by omega)]; rfl, rfl⟩
      · skip
        obtain ⟨L, hL⟩ : ∃ L : Nat, lim = L := ⟨lim.toNat, by omega⟩
        subst hL
        have hL1 : 1 ≤ L := by omega
        have hL2 : L ≤ 10 := by omega
        have hp10 := p10 hL2
        have hpp := pp2 L
        refine V_skipk [0, 1] (by simp only [proj, lk, reduceIte, Nat.reduceEqDiff]; rfl) ?_
        refine hK5 _ _ ?_; clear hK5
        refine V_seq (fun K9 hK9 => ?_)
        refine V_sr T.mix (by kernel_rfl) (fun K10 hK10 => ?_)
        refine S_as rfl ?_
        refine S_nil (hK10 _ _ (V_keep [0, 1, 5] (by simp only [proj, lk, reduceIte, Nat.reduceEqDiff]; rfl) ?_)); clear hK10
        refine V_block ?_
        refine V_loop (fun m l h' => ∃ (i : Nat), (i ≤ cl.length) ∧ (∀ j, j < i → 0 ≤ cl.getD j 0 ∧ cl.getD j 0 ≤ 1048576) ∧ m = cl.length - i ∧ l = [(0, .slice ca cl.length cap), (1, .int .i64 (L : Int)), (5, .int .i64 (i : Int))] ∧ h = h') _ ⟨0, Nat.zero_le _, fun j hj => by omega, rfl, rfl, rfl⟩ ?_
        rintro m l h' ⟨i, hi, hokp, rfl, rfl, rfl⟩ K11 hK11
        refine V_seq (fun K12 hK12 => ?_)
        refine V_sr T.mix (by kernel_rfl) (fun K13 hK13 => ?_)
        refine S_mv rfl ?_
        refine S_mv rfl ?_
        refine S_lenl T.el56 rfl ?_
        refine S_bin rfl rfl rfl ?_
        refine S_nil (hK13 _ _ (V_keep [0, 1, 5, 18] (by simp only [proj, lk, reduceIte, Nat.reduceEqDiff]; rfl) ?_)); clear hK13
        refine V_condp rfl (fun c52 => ?_) (fun c52 => ?_)
        · skip
          obtain ⟨ab, ao, habe, _, hat⟩ := hIc.get (by omega)
          subst habe
          refine V_skipk [0, 1, 5] (by simp only [proj, lk, reduceIte, Nat.reduceEqDiff]; rfl) ?_
          refine hK12 _ _ ?_; clear hK12
          refine V_seq (fun K14 hK14 => ?_)
          refine V_block ?_
          refine V_sr T.mix (by kernel_rfl) (fun K15 hK15 => ?_)
          refine S_mv rfl ?_
          refine S_mv rfl ?_
          first | refine S_ixn T.el56 rfl rfl (by omega) ?_ | refine S_ix1 T.el56 rfl rfl (by omega) (by omega) ?_ | refine S_ix T.el56 rfl rfl (by omega) (by omega) ?_
          refine S_ldK T.ag3 rfl (fun K' hK' => ?_)
          simp (disch := omega) only [hat, Nat.mul_one, Int.toNat_natCast, oP_some, Nat.add_zero]
          refine hK' _ ?_; clear hK' K'
          refine S_bin rfl rfl rfl ?_
          refine S_mv rfl ?_
          refine S_dec (fun g53 => ?_) (fun g53 => ?_)
          · skip
            refine S_gf rfl ?_
            refine S_gf rfl ?_
            refine S_gf rfl ?_
            refine S_gf rfl ?_
            refine S_gf rfl ?_
            refine S_pt rfl rfl ?_
            refine S_nil (hK15 _ _ (V_keep [0, 1, 5, 32] (by simp only [proj, lk, reduceIte, Nat.reduceEqDiff]; rfl) ?_)); clear hK15
            refine V_condt rfl ?_
            refine V_sr T.mix (by kernel_rfl) (fun K16 hK16 => ?_)
            refine S_as rfl ?_
            refine S_nil (hK16 _ _ (V_keep [4] (by simp only [proj, lk, reduceIte, Nat.reduceEqDiff]; rfl) ?_)); clear hK16
            refine V_ret ?_
            refine hR _ _ (ret1 rfl rfl ?_)
            exact ⟨by rw [planE_3 (by omega) hL1 hL2 (fun e => by have h9 := e i (by omega); omega)]; rfl, rfl⟩
          · skip
            refine S_gt rfl ?_
            refine S_mv rfl ?_
            refine S_gt rfl ?_
            refine S_mv rfl ?_
            refine S_gt rfl ?_
            first | refine S_ixn T.el56 rfl rfl (by omega) ?_ | refine S_ix1 T.el56 rfl rfl (by omega) (by omega) ?_ | refine S_ix T.el56 rfl rfl (by omega) (by omega) ?_
            refine S_gt rfl ?_
            refine S_ldK T.ag3 rfl (fun K' hK' => ?_)
            simp (disch := omega) only [hat, Nat.mul_one, Int.toNat_natCast, oP_some, Nat.add_zero]
            refine hK' _ ?_; clear hK' K'
            refine S_gt rfl ?_
            refine S_bin rfl rfl rfl ?_
            refine S_pf rfl rfl ?_
            refine S_nil (hK15 _ _ (V_keep [0, 1, 5, 32] (by simp only [proj, lk, reduceIte, Nat.reduceEqDiff]; rfl) ?_)); clear hK15
            refine V_condp rfl (fun c53 => ?_) (fun c53 => ?_)
            · skip
              refine V_sr T.mix (by kernel_rfl) (fun K17 hK17 => ?_)
              refine S_as rfl ?_
              refine S_nil (hK17 _ _ (V_keep [4] (by simp only [proj, lk, reduceIte, Nat.reduceEqDiff]; rfl) ?_)); clear hK17
              refine V_ret ?_
              refine hR _ _ (ret1 rfl rfl ?_)
              exact ⟨by rw [planE_3 (by omega) hL1 hL2 (fun e => by have h9 := e i (by omega); omega)]; rfl, rfl⟩
            · skip
              refine V_skipk [0, 1, 5] (by simp only [proj, lk, reduceIte, Nat.reduceEqDiff]; rfl) ?_
              refine hK14 _ _ ?_; clear hK14
              refine V_reg T.mix (by kernel_rfl) ?_
              refine S_mv rfl ?_
              first | refine S_add rfl rfl (by omega) (by omega) ?_ | refine S_bin rfl rfl rfl ?_
              refine S_as rfl ?_
              refine S_nilk [0, 1, 5] (by simp only [proj, lk, reduceIte, Nat.reduceEqDiff]; rfl) ?_
              exact hK11 _ _ ⟨_, by omega, i + 1, by omega, fun j hj => by by_cases e : j = i; (rw [e]; omega); (exact hokp j (by omega)), rfl, rfl, rfl⟩
        · skip
          have hiN : i = cl.length := by omega
          rw [hiN] at hokp
          have hok : okC cl := hokp
          have hul2 := liv_le (cf cl) cl.length
          refine V_exitk [0, 1] rfl (by simp only [proj, lk, reduceIte, Nat.reduceEqDiff]; rfl) ?_
          refine hK9 _ _ ?_; clear hK9
          refine V_seq (fun K18 hK18 => ?_)
          refine V_sr T.mix (by kernel_rfl) (fun K19 hK19 => ?_)
          refine S_mv rfl ?_
          refine S_call T.hb103 rfl ?_
          refine FC.mono (used_spec h ca cap cl hIc (by omega)) ?_
          rintro v' h' ⟨rfl, rfl⟩
          refine S_mv rfl ?_
          refine S_cvN L T.us3 T.in105 rfl rfl (tu64 (by omega)) ?_
          refine S_nshl 1 L (2 ^ L) rfl rfl rfl rfl (Nat.one_mul _) (show L ≤ 64 by omega) (t64 (by omega)) ?_
          refine S_bin rfl rfl rfl ?_
          refine S_nil (hK19 _ _ (V_keep [38] (by simp only [proj, lk, reduceIte, Nat.reduceEqDiff]; rfl) ?_)); clear hK19
          refine V_condp rfl (fun c57 => ?_) (fun c57 => ?_)
          · skip
            refine V_sr T.mix (by kernel_rfl) (fun K20 hK20 => ?_)
            refine S_as rfl ?_
            refine S_nil (hK20 _ _ (V_keep [4] (by simp only [proj, lk, reduceIte, Nat.reduceEqDiff]; rfl) ?_)); clear hK20
            refine V_ret ?_
            refine hR _ _ (ret1 rfl rfl ?_)
            exact ⟨by rw [planE_4 (by omega) hL1 hL2 hok (by omega)]; rfl, rfl⟩
          · skip
            refine V_skipk [] (by simp only [proj, lk, reduceIte, Nat.reduceEqDiff]; rfl) ?_
            refine hK18 _ _ ?_; clear hK18
            refine V_sr T.mix (by kernel_rfl) (fun K21 hK21 => ?_)
            refine S_as rfl ?_
            refine S_nil (hK21 _ _ (V_keep [4] (by simp only [proj, lk, reduceIte, Nat.reduceEqDiff]; rfl) ?_)); clear hK21
            refine V_ret ?_
            refine hR _ _ (ret1 rfl rfl ?_)
            exact ⟨by rw [planE_0 (by omega) hL1 hL2 hok (by omega)]; rfl, rfl⟩
set_option maxHeartbeats 1600000 in
theorem least_spec (h : Heap) (N : Nat) (w hh : Nat → Nat) (wb hb : Nat) (hN : N ≤ 265) (hw : B h wb (ia N w) 3) (hht : B h hb (ia N hh) 3) (hhl : ∀ i, i < N → hh i < 1024) (no : Int) :
    FC Tryz.prog 135 (#[.slice (some ⟨wb, 0, none⟩) N N, .slice (some ⟨hb, 0, none⟩) N N, .int .i64 no] : Array Value) h fun rv h' => ∃ b : Int, rv = .int .i64 b ∧ LS w hh no N b ∧ h = h' := by
  have awt := ia_at hw
  have aht := ia_at hht
  refine FC_of [(0, .slice (some ⟨wb, 0, none⟩) N N), (1, .slice (some ⟨hb, 0, none⟩) N N), (2, .int .i64 no)] Tryz.func135 rfl Tryz.ntmps135 (by simp) rfl (fun R hR => ?_)
  refine V_sr T.mix (by kernel_rfl) (fun K1 hK1 => ?_)
  refine S_as rfl ?_
  refine S_nil (hK1 _ _ (V_keep [0, 1, 2] (by simp only [proj, lk, reduceIte, Nat.reduceEqDiff]; rfl) ?_)); clear hK1
  refine V_sr T.mix (by kernel_rfl) (fun K2 hK2 => ?_)
  refine S_as rfl ?_
  refine S_nil (hK2 _ _ (V_keep [0, 1, 2, 7] (by simp only [proj, lk, reduceIte, Nat.reduceEqDiff]; rfl) ?_)); clear hK2
  refine V_seq (fun K3 hK3 => ?_)
  refine V_sr T.mix (by kernel_rfl) (fun K4 hK4 => ?_)
  refine S_as rfl ?_
  refine S_nil (hK4 _ _ (V_keep [0, 1, 2, 7, 8] (by simp only [proj, lk, reduceIte, Nat.reduceEqDiff]; rfl) ?_)); clear hK4
  refine V_block ?_
  refine V_loop (fun m l h' => ∃ (i : Nat) (bb : Int), (i ≤ N) ∧ (LS w hh no i bb) ∧ m = N - i ∧ l = [(0, .slice (some ⟨wb, 0, none⟩) N N), (1, .slice (some ⟨hb, 0, none⟩) N N), (2, .int .i64 no), (7, .int .i64 bb), (8, .int .i64 (i : Int))] ∧ h = h') _ ⟨0, -1, Nat.zero_le _, LS.z _ _ _, rfl, rfl, rfl⟩ ?_
  rintro m l h' ⟨i, bb, hi, hls, rfl, rfl, rfl⟩ K5 hK5
  have hrg := hls.rng
  have hst := hls.step
  have hl1 : i < N → hh i < 1024 := fun z => hhl i z
  have hl2 : ¬ bb < 0 → hh bb.toNat < 1024 := fun z => hhl _ (by omega)
  refine V_seq (fun K6 hK6 => ?_)
  refine V_sr T.mix (by kernel_rfl) (fun K7 hK7 => ?_)
  refine S_mv rfl ?_
  refine S_mv rfl ?_
  refine S_lenl T.el56 rfl ?_
  refine S_bin rfl rfl rfl ?_
  refine S_nil (hK7 _ _ (V_keep [0, 1, 2, 7, 8, 12] (by simp only [proj, lk, reduceIte, Nat.reduceEqDiff]; rfl) ?_)); clear hK7
  refine V_condp rfl (fun c66 => ?_) (fun c66 => ?_)
  · skip
    refine V_skipk [0, 1, 2, 7, 8] (by simp only [proj, lk, reduceIte, Nat.reduceEqDiff]; rfl) ?_
    refine hK6 _ _ ?_; clear hK6
    refine V_seq (fun K8 hK8 => ?_)
    refine V_block ?_
    refine V_sr T.mix (by kernel_rfl) (fun K9 hK9 => ?_)
    refine S_cut (K' := fun l h' => ∃ b : Bool, (b = true ↔ (0 < w i ∧ (i : Int) ≠ no)) ∧ l = [(0, .slice (some ⟨wb, 0, none⟩) N N), (1, .slice (some ⟨hb, 0, none⟩) N N), (2, .int .i64 no), (7, .int .i64 bb), (8, .int .i64 (i : Int)), (24, .bool b)] ∧ h = h') ?_ ?_
    · skip
      refine S_mv rfl ?_
      refine S_mv rfl ?_
      first | refine S_ixn T.el56 rfl rfl (by omega) ?_ | refine S_ix1 T.el56 rfl rfl (by omega) (by omega) ?_ | refine S_ix T.el56 rfl rfl (by omega) (by omega) ?_
      refine S_ldK T.ag3 rfl (fun K' hK' => ?_)
      simp (disch := omega) only [awt, aht, oP_some, Nat.add_zero]
      refine hK' _ ?_; clear hK' K'
      refine S_bin rfl rfl rfl ?_
      refine S_mv rfl ?_
      refine S_dec (fun g67 => ?_) (fun g67 => ?_)
      · skip
        refine S_gt rfl ?_
        refine S_mv rfl ?_
        refine S_gt rfl ?_
        refine S_mv rfl ?_
        refine S_gt rfl ?_
        refine S_bin rfl rfl rfl ?_
        refine S_pt rfl rfl ?_
        exact S_nilk [0, 1, 2, 7, 8, 24] (by simp only [proj, lk, reduceIte, Nat.reduceEqDiff]; rfl) ⟨_, (by first | (simp only [decide_eq_true_eq]; omega) | (simp; omega)), rfl, rfl⟩
      · skip
        refine S_gf rfl ?_
        refine S_gf rfl ?_
        refine S_gf rfl ?_
        refine S_pf rfl rfl ?_
        exact S_nilk [0, 1, 2, 7, 8, 24] (by simp only [proj, lk, reduceIte, Nat.reduceEqDiff]; rfl) ⟨_, (by first | (simp only [decide_eq_true_eq]; omega) | (simp; omega)), rfl, rfl⟩
    rintro l h' ⟨b, hb67, rfl, rfl⟩
    refine hK9 _ _ ?_; clear hK9
    refine V_condb rfl (fun c67 => ?_) (fun c67 => ?_)
    · replace c67 := hb67.1 c67
      refine V_sr T.mix (by kernel_rfl) (fun K11 hK11 => ?_)
      refine S_cut (K' := fun l h' => ∃ b : Bool, (b = true ↔ (bb < 0 ∨ w i * 1024 + hh i < w bb.toNat * 1024 + hh bb.toNat)) ∧ l = [(0, .slice (some ⟨wb, 0, none⟩) N N), (1, .slice (some ⟨hb, 0, none⟩) N N), (2, .int .i64 no), (7, .int .i64 bb), (8, .int .i64 (i : Int)), (59, .bool b)] ∧ h = h') ?_ ?_
      · skip
        refine S_mv rfl ?_
        refine S_bin rfl rfl rfl ?_
        refine S_mv rfl ?_
        refine S_dec (fun g68 => ?_) (fun g68 => ?_)
        · skip
          refine S_gf rfl ?_
          refine S_gf rfl ?_
          refine S_gf rfl ?_
          refine S_gf rfl ?_
          refine S_gf rfl ?_
          refine S_gf rfl ?_
          refine S_gf rfl ?_
          refine S_gf rfl ?_
          refine S_gf rfl ?_
          refine S_pt rfl rfl ?_
          refine S_mv rfl ?_
          refine S_gf rfl ?_
          refine S_gf rfl ?_
          refine S_gf rfl ?_
          refine S_gf rfl ?_
          refine S_gf rfl ?_
          refine S_gf rfl ?_
          refine S_gf rfl ?_
          refine S_gf rfl ?_
          refine S_gf rfl ?_
          refine S_gf rfl ?_
          refine S_gf rfl ?_
          refine S_gf rfl ?_
          refine S_gf rfl ?_
          refine S_gf rfl ?_
          refine S_gf rfl ?_
          refine S_gf rfl ?_
          refine S_gf rfl ?_
          refine S_gf rfl ?_
          refine S_gf rfl ?_
          refine S_gf rfl ?_
          refine S_pt rfl rfl ?_
          exact S_nilk [0, 1, 2, 7, 8, 59] (by simp only [proj, lk, reduceIte, Nat.reduceEqDiff]; rfl) ⟨_, (by first | (simp only [decide_eq_true_eq]; omega) | (simp; omega)), rfl, rfl⟩
        · skip
          refine S_gt rfl ?_
          refine S_mv rfl ?_
          refine S_gt rfl ?_
          refine S_mv rfl ?_
          refine S_gt rfl ?_
          first | refine S_ixn T.el56 rfl rfl (by omega) ?_ | refine S_ix1 T.el56 rfl rfl (by omega) (by omega) ?_ | refine S_ix T.el56 rfl rfl (by omega) (by omega) ?_
          refine S_gt rfl ?_
          refine S_ldK T.ag3 rfl (fun K' hK' => ?_)
          simp (disch := omega) only [awt, aht, oP_some, Nat.add_zero]
          refine hK' _ ?_; clear hK' K'
          refine S_gt rfl ?_
          refine S_mv rfl ?_
          refine S_gt rfl ?_
          refine S_mv rfl ?_
          refine S_gt rfl ?_
          first | refine S_ixn T.el56 rfl rfl (by omega) ?_ | refine S_ix1 T.el56 rfl rfl (by omega) (by omega) ?_ | refine S_ix T.el56 rfl rfl (by omega) (by omega) ?_
          refine S_gt rfl ?_
          refine S_ldK T.ag3 rfl (fun K' hK' => ?_)
          simp (disch := omega) only [awt, aht, oP_some, Nat.add_zero]
          refine hK' _ ?_; clear hK' K'
          refine S_gt rfl ?_
          refine S_bin rfl rfl rfl ?_
          refine S_pf rfl rfl ?_
          refine S_mv rfl ?_
          refine S_dec (fun g68a => ?_) (fun g68a => ?_)
          · skip
            refine S_gf rfl ?_
            refine S_gf rfl ?_
            refine S_gf rfl ?_
            refine S_gf rfl ?_
            refine S_gf rfl ?_
            refine S_gf rfl ?_
            refine S_gf rfl ?_
            refine S_gf rfl ?_
            refine S_gf rfl ?_
            refine S_gf rfl ?_
            refine S_gf rfl ?_
            refine S_gf rfl ?_
            refine S_gf rfl ?_
            refine S_gf rfl ?_
            refine S_gf rfl ?_
            refine S_gf rfl ?_
            refine S_gf rfl ?_
            refine S_gf rfl ?_
            refine S_gf rfl ?_
            refine S_gf rfl ?_
            refine S_pt rfl rfl ?_
            exact S_nilk [0, 1, 2, 7, 8, 59] (by simp only [proj, lk, reduceIte, Nat.reduceEqDiff]; rfl) ⟨_, (by first | (simp only [decide_eq_true_eq]; omega) | (simp; omega)), rfl, rfl⟩
          · skip
            refine S_gt rfl ?_
            refine S_mv rfl ?_
            refine S_gt rfl ?_
            refine S_mv rfl ?_
            refine S_gt rfl ?_
            first | refine S_ixn T.el56 rfl rfl (by omega) ?_ | refine S_ix1 T.el56 rfl rfl (by omega) (by omega) ?_ | refine S_ix T.el56 rfl rfl (by omega) (by omega) ?_
            refine S_gt rfl ?_
            refine S_ldK T.ag3 rfl (fun K' hK' => ?_)
            simp (disch := omega) only [awt, aht, oP_some, Nat.add_zero]
            refine hK' _ ?_; clear hK' K'
            refine S_gt rfl ?_
            refine S_mv rfl ?_
            refine S_gt rfl ?_
            refine S_mv rfl ?_
            refine S_gt rfl ?_
            first | refine S_ixn T.el56 rfl rfl (by omega) ?_ | refine S_ix1 T.el56 rfl rfl (by omega) (by omega) ?_ | refine S_ix T.el56 rfl rfl (by omega) (by omega) ?_
            refine S_gt rfl ?_
            refine S_ldK T.ag3 rfl (fun K' hK' => ?_)
            simp (disch := omega) only [awt, aht, oP_some, Nat.add_zero]
            refine hK' _ ?_; clear hK' K'
            refine S_gt rfl ?_
            refine S_bin rfl rfl rfl ?_
            refine S_gt rfl ?_
            refine S_mv rfl ?_
            refine S_dec (fun g68b => ?_) (fun g68b => ?_)
            · skip
              refine S_gt rfl ?_
              refine S_mv rfl ?_
              refine S_gt rfl ?_
              refine S_mv rfl ?_
              refine S_gt rfl ?_
              first | refine S_ixn T.el56 rfl rfl (by omega) ?_ | refine S_ix1 T.el56 rfl rfl (by omega) (by omega) ?_ | refine S_ix T.el56 rfl rfl (by omega) (by omega) ?_
              refine S_gt rfl ?_
              refine S_ldK T.ag3 rfl (fun K' hK' => ?_)
              simp (disch := omega) only [awt, aht, oP_some, Nat.add_zero]
              refine hK' _ ?_; clear hK' K'
              refine S_gt rfl ?_
              refine S_mv rfl ?_
              refine S_gt rfl ?_
              refine S_mv rfl ?_
              refine S_gt rfl ?_
              first | refine S_ixn T.el56 rfl rfl (by omega) ?_ | refine S_ix1 T.el56 rfl rfl (by omega) (by omega) ?_ | refine S_ix T.el56 rfl rfl (by omega) (by omega) ?_
              refine S_gt rfl ?_
              refine S_ldK T.ag3 rfl (fun K' hK' => ?_)
              simp (disch := omega) only [awt, aht, oP_some, Nat.add_zero]
              refine hK' _ ?_; clear hK' K'
              refine S_gt rfl ?_
              refine S_bin rfl rfl rfl ?_
              refine S_gt rfl ?_
              refine S_pt rfl rfl ?_
              refine S_pf rfl rfl ?_
              exact S_nilk [0, 1, 2, 7, 8, 59] (by simp only [proj, lk, reduceIte, Nat.reduceEqDiff]; rfl) ⟨_, (by first | (simp only [decide_eq_true_eq]; omega) | (simp; omega)), rfl, rfl⟩
            · skip
              refine S_gf rfl ?_
              refine S_gf rfl ?_
              refine S_gf rfl ?_
              refine S_gf rfl ?_
              refine S_gf rfl ?_
              refine S_gf rfl ?_
              refine S_gf rfl ?_
              refine S_gf rfl ?_
              refine S_gf rfl ?_
              refine S_gt rfl ?_
              refine S_pf rfl rfl ?_
              refine S_pf rfl rfl ?_
              exact S_nilk [0, 1, 2, 7, 8, 59] (by simp only [proj, lk, reduceIte, Nat.reduceEqDiff]; rfl) ⟨_, (by first | (simp only [decide_eq_true_eq]; omega) | (simp; omega)), rfl, rfl⟩
      rintro l h' ⟨b, hb68, rfl, rfl⟩
      refine hK11 _ _ ?_; clear hK11
      refine V_condb rfl (fun c68 => ?_) (fun c68 => ?_)
      · replace c68 := hb68.1 c68
        refine V_reg T.mix (by kernel_rfl) ?_
        refine S_mv rfl ?_
        refine S_as rfl ?_
        refine S_nilk [0, 1, 2, 7, 8] (by simp only [proj, lk, reduceIte, Nat.reduceEqDiff]; rfl) ?_
        refine hK8 _ _ ?_; clear hK8
        refine V_reg T.mix (by kernel_rfl) ?_
        refine S_mv rfl ?_
        first | refine S_add rfl rfl (by omega) (by omega) ?_ | refine S_bin rfl rfl rfl ?_
        refine S_as rfl ?_
        refine S_nilk [0, 1, 2, 7, 8] (by simp only [proj, lk, reduceIte, Nat.reduceEqDiff]; rfl) ?_
        exact hK5 _ _ ⟨_, by omega, i + 1, i, by omega, by rw [if_pos ⟨c67, c68⟩] at hst; exact hst, rfl, rfl, rfl⟩
      · replace c68 : ¬ _ := fun hp => Bool.false_ne_true (c68.symm.trans (hb68.2 hp))
        refine V_skipk [0, 1, 2, 7, 8] (by simp only [proj, lk, reduceIte, Nat.reduceEqDiff]; rfl) ?_
        refine hK8 _ _ ?_; clear hK8
        refine V_reg T.mix (by kernel_rfl) ?_
        refine S_mv rfl ?_
        first | refine S_add rfl rfl (by omega) (by omega) ?_ | refine S_bin rfl rfl rfl ?_
        refine S_as rfl ?_
        refine S_nilk [0, 1, 2, 7, 8] (by simp only [proj, lk, reduceIte, Nat.reduceEqDiff]; rfl) ?_
        exact hK5 _ _ ⟨_, by omega, i + 1, bb, by omega, by rw [if_neg (fun z => c68 z.2)] at hst; exact hst, rfl, rfl, rfl⟩
    · replace c67 : ¬ _ := fun hp => Bool.false_ne_true (c67.symm.trans (hb67.2 hp))
      refine V_skipk [0, 1, 2, 7, 8] (by simp only [proj, lk, reduceIte, Nat.reduceEqDiff]; rfl) ?_
      refine hK8 _ _ ?_; clear hK8
      refine V_reg T.mix (by kernel_rfl) ?_
      refine S_mv rfl ?_
      first | refine S_add rfl rfl (by omega) (by omega) ?_ | refine S_bin rfl rfl rfl ?_
      refine S_as rfl ?_
      refine S_nilk [0, 1, 2, 7, 8] (by simp only [proj, lk, reduceIte, Nat.reduceEqDiff]; rfl) ?_
      exact hK5 _ _ ⟨_, by omega, i + 1, bb, by omega, by rw [if_neg (fun z => c67 z.1)] at hst; exact hst, rfl, rfl, rfl⟩
  · skip
    refine V_exitk [7] rfl (by simp only [proj, lk, reduceIte, Nat.reduceEqDiff]; rfl) ?_
    refine hK3 _ _ ?_; clear hK3
    refine V_sr T.mix (by kernel_rfl) (fun K13 hK13 => ?_)
    refine S_mv rfl ?_
    refine S_as rfl ?_
    refine S_nil (hK13 _ _ (V_keep [6] (by simp only [proj, lk, reduceIte, Nat.reduceEqDiff]; rfl) ?_)); clear hK13
    refine V_ret ?_
    refine hR _ _ (ret1 rfl rfl ?_)
    exact ⟨bb, rfl, by rw [show N = i by omega]; exact hls, rfl⟩
set_option maxHeartbeats 3200000 in
theorem plain_spec (h : Heap) (N : Nat) (cnt : Nat → Nat) (ab ao cap : Nat) (hN : N ≤ 265) (hIc : OL h (some ⟨ab, ao, none⟩) cap (il N cnt)) (hcb : ∀ i, i < N → cnt i ≤ 1048576) (h2v : 2 ≤ liv cnt N) :
    FC Tryz.prog 104 (#[.slice (some ⟨ab, ao, none⟩) N cap] : Array Value) h fun rv h' => rv = .slice (some ⟨h.size, 0, none⟩) N N ∧ B h' h.size (ia N (pln N cnt)) 3 ∧ Ext (fun _ => False) h h' := by
  have hlN : liv cnt N ≤ N := ct_le _ _
  have habl := hIc.lt rfl
  refine FC_of [(0, .slice (some ⟨ab, ao, none⟩) N cap)] Tryz.func104 rfl Tryz.ntmps104 (by simp) rfl (fun R hR => ?_)
  refine V_sr T.mix (by kernel_rfl) (fun K1 hK1 => ?_)
  refine S_as rfl ?_
  refine S_nil (hK1 _ _ (V_keep [0] (by simp only [proj, lk, reduceIte, Nat.reduceEqDiff]; rfl) ?_)); clear hK1
  refine V_sr T.mix (by kernel_rfl) (fun K2 hK2 => ?_)
  refine S_mv rfl ?_
  refine S_lenl T.el56 rfl ?_
  refine S_mk T.ei56 rfl rfl (by omega) (by omega) (by omega) (by omega) ?_
  simp only [il_len, Int.toNat_natCast, Nat.mul_one, mkZ_one]
  generalize hh : Array.push h _ = h1
  have bl1 : B h1 h.size (ia N (fun _ => 0)) 3 := by rw [← hh]; exact B.new _ _ _
  have hEh1 : Ext (fun _ => False) h h1 := by rw [← hh]; exact Ext.push _ _ _
  have hsh1 : h1.size = h.size + 1 := by rw [← hh]; simp
  clear hh
  refine S_as rfl ?_
  refine S_nil (hK2 _ _ (V_keep [0, 3] (by simp only [proj, lk, reduceIte, Nat.reduceEqDiff]; rfl) ?_)); clear hK2
  refine V_sr T.mix (by kernel_rfl) (fun K3 hK3 => ?_)
  refine S_mv rfl ?_
  refine S_lenl T.el56 rfl ?_
  refine S_mk T.ei56 rfl rfl (by omega) (by omega) (by omega) (by omega) ?_
  simp only [il_len, Int.toNat_natCast, Nat.mul_one, mkZ_one]
  generalize hh : Array.push h1 _ = h2
  have bg2 : B h2 h1.size (ia N (fun _ => 0)) 3 := by rw [← hh]; exact B.new _ _ _
  have hEh2 : Ext (fun _ => False) h1 h2 := by rw [← hh]; exact Ext.push _ _ _
  have hsh2 : h2.size = h1.size + 1 := by rw [← hh]; simp
  clear hh
  have bl2 := bl1.ext hEh2 (fun f => f)
  have hIc2 := (hIc.ext hEh1 (fun _ _ f => f)).ext hEh2 (fun _ _ f => f)
  have hcop := copyints_spec h2 _ _ (il N cnt) hIc2 (by rw [il_len]; omega)
  rw [il_len] at hcop
  refine S_as rfl ?_
  refine S_nil (hK3 _ _ (V_keep [0, 3, 4] (by simp only [proj, lk, reduceIte, Nat.reduceEqDiff]; rfl) ?_)); clear hK3
  refine V_sr T.mix (by kernel_rfl) (fun K4 hK4 => ?_)
  refine S_mv rfl ?_
  refine S_call T.hb134 rfl ?_
  refine FC.mono hcop ?_
  rintro v' h3 ⟨rfl, hBL, hsz3, hE3⟩
  have bw3 := hBL.il
  have hz3 := hE3.1
  refine S_as rfl ?_
  refine S_nil (hK4 _ _ (V_keep [0, 3, 4, 5] (by simp only [proj, lk, reduceIte, Nat.reduceEqDiff]; rfl) ?_)); clear hK4
  refine V_sr T.mix (by kernel_rfl) (fun K5 hK5 => ?_)
  refine S_mv rfl ?_
  refine S_lenl T.el56 rfl ?_
  refine S_mk T.ei56 rfl rfl (by omega) (by omega) (by omega) (by omega) ?_
  simp only [il_len, Int.toNat_natCast, Nat.mul_one, mkZ_one]
  generalize hh : Array.push h3 _ = h4
  have bh4 : B h4 h3.size (ia N (fun _ => 0)) 3 := by rw [← hh]; exact B.new _ _ _
  have hEh4 : Ext (fun _ => False) h3 h4 := by rw [← hh]; exact Ext.push _ _ _
  have hsh4 : h4.size = h3.size + 1 := by rw [← hh]; simp
  clear hh
  have bl4 := (bl2.ext hE3 (fun f => f)).ext hEh4 (fun f => f)
  have bg4 := (bg2.ext hE3 (fun f => f)).ext hEh4 (fun f => f)
  have bw4 := bw3.ext hEh4 (fun f => f)
  have hIc4 := (hIc2.ext hE3 (fun _ _ f => f)).ext hEh4 (fun _ _ f => f)
  refine S_as rfl ?_
  refine S_nil (hK5 _ _ (V_keep [0, 3, 4, 5, 6] (by simp only [proj, lk, reduceIte, Nat.reduceEqDiff]; rfl) ?_)); clear hK5
  refine V_seq (fun K6 hK6 => ?_)
  refine V_sr T.mix (by kernel_rfl) (fun K7 hK7 => ?_)
  refine S_as rfl ?_
  refine S_nil (hK7 _ _ (V_keep [0, 3, 4, 5, 6, 7] (by simp only [proj, lk, reduceIte, Nat.reduceEqDiff]; rfl) ?_)); clear hK7
  refine V_block ?_
  refine V_loop (fun m l h' => ∃ (i : Nat) (hk : Heap) (A : Nat → Nat), (i ≤ N) ∧ (B hk h1.size (ia N A) 3) ∧ (∀ k, k < i → A k = k) ∧ (Ext (fun b => b = h1.size) h4 hk) ∧ m = N - i ∧ l = [(0, .slice (some ⟨ab, ao, none⟩) N cap), (3, .slice (some ⟨h.size, 0, none⟩) N N), (4, .slice (some ⟨h1.size, 0, none⟩) N N), (5, .slice (some ⟨h2.size, 0, none⟩) N N), (6, .slice (some ⟨h3.size, 0, none⟩) N N), (7, .int .i64 (i : Int))] ∧ hk = h') _ ⟨0, h4, fun _ => 0, Nat.zero_le _, bg4, fun k hk => by omega, Ext.refl _ _, rfl, rfl, rfl⟩ ?_
  rintro m l h' ⟨i, hk, A, hi, hA, hA1, hEk, rfl, rfl, rfl⟩ K8 hK8
  have hoo := ia_ok hA
  refine V_seq (fun K9 hK9 => ?_)
  refine V_sr T.mix (by kernel_rfl) (fun K10 hK10 => ?_)
  refine S_mv rfl ?_
  refine S_mv rfl ?_
  refine S_lenl T.el56 rfl ?_
  refine S_bin rfl rfl rfl ?_
  refine S_nil (hK10 _ _ (V_keep [0, 3, 4, 5, 6, 7, 26] (by simp only [proj, lk, reduceIte, Nat.reduceEqDiff]; rfl) ?_)); clear hK10
  refine V_condp rfl (fun c82 => ?_) (fun c82 => ?_)
  · skip
    refine V_skipk [0, 3, 4, 5, 6, 7] (by simp only [proj, lk, reduceIte, Nat.reduceEqDiff]; rfl) ?_
    refine hK9 _ _ ?_; clear hK9
    refine V_seq (fun K11 hK11 => ?_)
    refine V_block ?_
    refine V_reg T.mix (by kernel_rfl) ?_
    refine S_mv rfl ?_
    refine S_mv rfl ?_
    refine S_mv rfl ?_
    first | refine S_ixn T.el56 rfl rfl (by omega) ?_ | refine S_ix1 T.el56 rfl rfl (by omega) (by omega) ?_ | refine S_ix T.el56 rfl rfl (by omega) (by omega) ?_
    refine S_st T.sz3 rfl rfl rfl rfl (by simp (disch := omega) only [hoo]) ?_
    generalize hh : putH _ _ _ = h5
    have hA2 : B h5 h1.size (ia N (ups A (i) (i))) 3 := by rw [← hh]; exact ia_put hA _ _
    have hE5 : Ext (fun b => b = h1.size) hk h5 := by rw [← hh]; exact Ext.put _ _ rfl
    clear hh
    refine S_nilk [0, 3, 4, 5, 6, 7] (by simp only [proj, lk, reduceIte, Nat.reduceEqDiff]; rfl) ?_
    refine hK11 _ _ ?_; clear hK11
    refine V_reg T.mix (by kernel_rfl) ?_
    refine S_mv rfl ?_
    first | refine S_add rfl rfl (by omega) (by omega) ?_ | refine S_bin rfl rfl rfl ?_
    refine S_as rfl ?_
    refine S_nilk [0, 3, 4, 5, 6, 7] (by simp only [proj, lk, reduceIte, Nat.reduceEqDiff]; rfl) ?_
    exact hK8 _ _ ⟨_, by omega, i + 1, h5, ups A i i, by omega, hA2, fun k hk => by by_cases e : k = i; (rw [e, ups_eq]); (rw [ups_ne _ _ e]; exact hA1 k (by omega)), hEk.trans hE5, rfl, rfl, rfl⟩
  · skip
    have hEo : Ext (fun b => h.size ≤ b) h hk := (((((hEh1.mono fun _ f => f.elim).trans (hEh2.mono fun _ f => f.elim)).trans (hE3.mono fun _ f => f.elim)).trans (hEh4.mono fun _ f => f.elim)).trans (hEk.mono fun b e => by omega))
    have hIk := hIc.ext hEo (fun b e z => by cases e; omega)
    refine V_exitk [0, 3, 4, 5, 6] rfl (by simp only [proj, lk, reduceIte, Nat.reduceEqDiff]; rfl) ?_
    refine hK6 _ _ ?_; clear hK6
    refine V_seq (fun K12 hK12 => ?_)
    refine V_sr T.mix (by kernel_rfl) (fun K13 hK13 => ?_)
    refine S_mv rfl ?_
    refine S_call T.hb103 rfl ?_
    have hus := used_spec hk _ _ (il N cnt) hIk (by rw [il_len]; omega)
    rw [liv_il, il_len] at hus
    refine FC.mono (hus) ?_
    rintro v' h' ⟨rfl, rfl⟩
    refine S_as rfl ?_
    refine S_nil (hK13 _ _ (V_keep [0, 3, 4, 5, 6, 8] (by simp only [proj, lk, reduceIte, Nat.reduceEqDiff]; rfl) ?_)); clear hK13
    refine V_block ?_
    refine V_loop (fun m l h' => ∃ (j : Nat) (hk : Heap), (j + 1 ≤ liv cnt N) ∧ (B hk h.size (ia N (itS N cnt j).ln) 3) ∧ (B hk h1.size (ia N (itS N cnt j).grp) 3) ∧ (B hk h2.size (ia N (itS N cnt j).w) 3) ∧ (B hk h3.size (ia N (itS N cnt j).h) 3) ∧ (Ext (fun b => h.size ≤ b) h hk) ∧ m = liv cnt N - j ∧ l = [(0, .slice (some ⟨ab, ao, none⟩) N cap), (3, .slice (some ⟨h.size, 0, none⟩) N N), (4, .slice (some ⟨h1.size, 0, none⟩) N N), (5, .slice (some ⟨h2.size, 0, none⟩) N N), (6, .slice (some ⟨h3.size, 0, none⟩) N N), (8, .int .i64 ((liv cnt N - j : Nat) : Int))] ∧ hk = h') _ ⟨0, hk, by omega, bl4.ext hEk (fun e => by omega), ia_cong hA (fun k hk => hA1 k (by omega)), bw4.ext hEk (fun e => by omega), bh4.ext hEk (fun e => by omega), hEo, rfl, rfl, rfl⟩ ?_
    rintro m l h' ⟨j, hk, hj, bl, bg, bw, bh, hEo, rfl, rfl, rfl⟩ K14 hK14
    have hIo := hIc.ext hEo (fun b e z => by cases e; omega)
    have hat := hIo.nat
    refine V_seq (fun K15 hK15 => ?_)
    refine V_sr T.mix (by kernel_rfl) (fun K16 hK16 => ?_)
    refine S_mv rfl ?_
    refine S_bin rfl rfl rfl ?_
    refine S_nil (hK16 _ _ (V_keep [0, 3, 4, 5, 6, 8, 36] (by simp only [proj, lk, reduceIte, Nat.reduceEqDiff]; rfl) ?_)); clear hK16
    refine V_condp rfl (fun c85 => ?_) (fun c85 => ?_)
    · skip
      refine V_skipk [0, 3, 4, 5, 6, 8] (by simp only [proj, lk, reduceIte, Nat.reduceEqDiff]; rfl) ?_
      refine hK15 _ _ ?_; clear hK15
      refine V_seq (fun K17 hK17 => ?_)
      refine V_block ?_
      refine V_sr T.mix (by kernel_rfl) (fun K18 hK18 => ?_)
      refine S_mv rfl ?_
      refine S_mv rfl ?_
      refine S_call T.hb135 rfl ?_
      obtain ⟨bd1, bd2, bd3⟩ := itS_bd hN hcb (j := j) (by omega)
      have hlj := itS_liv hN (c := cnt) (j := j) (by omega)
      obtain ⟨a, ha⟩ := least_a (N := N) (w := (itS N cnt j).w) (h := (itS N cnt j).h) (by omega)
      obtain ⟨b2, hb2⟩ := least_b (N := N) (w := (itS N cnt j).w) (h := (itS N cnt j).h) (by omega) (a := a)
      have gd := least_gd (fun g => by have h9 := bd1 g; omega) ha hb2
      have gxa := gd.xa
      have gxb := gd.xb
      have wa := bd3 a gxa
      have wb := bd3 b2 gxb
      have ha1 := bd1 a
      have hb1 := bd1 b2
      have gne := gd.ne
      refine FC.mono (least_spec hk N (itS N cnt j).w (itS N cnt j).h h2.size h3.size hN bw bh (fun i _ => by have h9 := bd1 i; omega) (-1)) ?_
      rintro v' h' ⟨bi, rfl, hls, rfl⟩
      obtain rfl := hls.some ha
      clear hls
      refine S_as rfl ?_
      refine S_nil (hK18 _ _ (V_keep [0, 3, 4, 5, 6, 8, 9] (by simp only [proj, lk, reduceIte, Nat.reduceEqDiff]; rfl) ?_)); clear hK18
      refine V_sr T.mix (by kernel_rfl) (fun K19 hK19 => ?_)
      refine S_mv rfl ?_
      refine S_mv rfl ?_
      refine S_mv rfl ?_
      refine S_call T.hb135 rfl ?_
      refine FC.mono (least_spec hk N (itS N cnt j).w (itS N cnt j).h h2.size h3.size hN bw bh (fun i _ => by have h9 := bd1 i; omega) (a : Int)) ?_
      rintro v' h' ⟨bi, rfl, hls, rfl⟩
      obtain rfl := hls.some hb2
      clear hls
      refine S_as rfl ?_
      refine S_nil (hK19 _ _ (V_keep [0, 3, 4, 5, 6, 8, 9, 10] (by simp only [proj, lk, reduceIte, Nat.reduceEqDiff]; rfl) ?_)); clear hK19
      refine V_seq (fun K20 hK20 => ?_)
      refine V_sr T.mix (by kernel_rfl) (fun K21 hK21 => ?_)
      refine S_as rfl ?_
      refine S_nil (hK21 _ _ (V_keep [0, 3, 4, 5, 6, 8, 9, 10, 11] (by simp only [proj, lk, reduceIte, Nat.reduceEqDiff]; rfl) ?_)); clear hK21
      refine V_block ?_
      refine V_loop (fun m l h' => ∃ (i : Nat) (hk : Heap) (Ln Gp : Nat → Nat), (i ≤ N) ∧ (B hk h.size (ia N Ln) 3) ∧ (B hk h1.size (ia N Gp) 3) ∧ (B hk h2.size (ia N (itS N cnt j).w) 3) ∧ (B hk h3.size (ia N (itS N cnt j).h) 3) ∧ (∀ k, k < i → Ln k = (joinS cnt (itS N cnt j) a b2).ln k ∧ Gp k = (joinS cnt (itS N cnt j) a b2).grp k) ∧ (∀ k, i ≤ k → Ln k = (itS N cnt j).ln k ∧ Gp k = (itS N cnt j).grp k) ∧ (Ext (fun b => h.size ≤ b) h hk) ∧ m = N - i ∧ l = [(0, .slice (some ⟨ab, ao, none⟩) N cap), (3, .slice (some ⟨h.size, 0, none⟩) N N), (4, .slice (some ⟨h1.size, 0, none⟩) N N), (5, .slice (some ⟨h2.size, 0, none⟩) N N), (6, .slice (some ⟨h3.size, 0, none⟩) N N), (8, .int .i64 ((liv cnt N - j : Nat) : Int)), (9, .int .i64 (a : Int)), (10, .int .i64 (b2 : Int)), (11, .int .i64 (i : Int))] ∧ hk = h') _ ⟨0, hk, (itS N cnt j).ln, (itS N cnt j).grp, Nat.zero_le _, bl, bg, bw, bh, fun k hk => by omega, fun k _ => ⟨rfl, rfl⟩, hEo, rfl, rfl, rfl⟩ ?_
      rintro m l h' ⟨i, hk, Ln, Gp, hi, bl, bg, bw, bh, hL1, hL2, hEo, rfl, rfl, rfl⟩ K22 hK22
      have hIo := hIc.ext hEo (fun b e z => by cases e; omega)
      have hat := hIo.nat
      have aln := ia_at bl
      have agr := ia_at bg
      have hoo := ia_ok bl
      have hli := hL2 i (Nat.le_refl _)
      have hlb := bd2 i
      refine V_seq (fun K23 hK23 => ?_)
      refine V_sr T.mix (by kernel_rfl) (fun K24 hK24 => ?_)
      refine S_mv rfl ?_
      refine S_mv rfl ?_
      refine S_lenl T.el56 rfl ?_
      refine S_bin rfl rfl rfl ?_
      refine S_nil (hK24 _ _ (V_keep [0, 3, 4, 5, 6, 8, 9, 10, 11, 49] (by simp only [proj, lk, reduceIte, Nat.reduceEqDiff]; rfl) ?_)); clear hK24
      refine V_condp rfl (fun c88 => ?_) (fun c88 => ?_)
      · skip
        refine V_skipk [0, 3, 4, 5, 6, 8, 9, 10, 11] (by simp only [proj, lk, reduceIte, Nat.reduceEqDiff]; rfl) ?_
        refine hK23 _ _ ?_; clear hK23
        refine V_seq (fun K25 hK25 => ?_)
        refine V_block ?_
        refine V_sr T.mix (by kernel_rfl) (fun K26 hK26 => ?_)
        refine S_cut (K' := fun l h' => ∃ b : Bool, (b = true ↔ (0 < cnt i ∧ (Gp i = a ∨ Gp i = b2))) ∧ l = [(0, .slice (some ⟨ab, ao, none⟩) N cap), (3, .slice (some ⟨h.size, 0, none⟩) N N), (4, .slice (some ⟨h1.size, 0, none⟩) N N), (5, .slice (some ⟨h2.size, 0, none⟩) N N), (6, .slice (some ⟨h3.size, 0, none⟩) N N), (8, .int .i64 ((liv cnt N - j : Nat) : Int)), (9, .int .i64 (a : Int)), (10, .int .i64 (b2 : Int)), (11, .int .i64 (i : Int)), (72, .bool b)] ∧ hk = h') ?_ ?_
        · skip
          refine S_mv rfl ?_
          refine S_mv rfl ?_
          first | refine S_ixn T.el56 rfl rfl (by omega) ?_ | refine S_ix1 T.el56 rfl rfl (by omega) (by omega) ?_ | refine S_ix T.el56 rfl rfl (by omega) (by omega) ?_
          refine S_ldK T.ag3 rfl (fun K' hK' => ?_)
          simp (disch := omega) only [hat, Nat.mul_one, Int.toNat_natCast, agr, oP_some, Nat.add_zero]
          refine hK' _ ?_; clear hK' K'
          refine S_bin rfl rfl rfl ?_
          refine S_mv rfl ?_
          refine S_dec (fun g89 => ?_) (fun g89 => ?_)
          · skip
            refine S_gt rfl ?_
            refine S_mv rfl ?_
            refine S_gt rfl ?_
            refine S_mv rfl ?_
            refine S_gt rfl ?_
            first | refine S_ixn T.el56 rfl rfl (by omega) ?_ | refine S_ix1 T.el56 rfl rfl (by omega) (by omega) ?_ | refine S_ix T.el56 rfl rfl (by omega) (by omega) ?_
            refine S_gt rfl ?_
            refine S_ldK T.ag3 rfl (fun K' hK' => ?_)
            simp (disch := omega) only [hat, Nat.mul_one, Int.toNat_natCast, agr, oP_some, Nat.add_zero]
            refine hK' _ ?_; clear hK' K'
            refine S_gt rfl ?_
            refine S_mv rfl ?_
            refine S_gt rfl ?_
            refine S_bin rfl rfl rfl ?_
            refine S_gt rfl ?_
            refine S_mv rfl ?_
            refine S_dec (fun g89a => ?_) (fun g89a => ?_)
            · skip
              refine S_gf rfl ?_
              refine S_gf rfl ?_
              refine S_gf rfl ?_
              refine S_gf rfl ?_
              refine S_gf rfl ?_
              refine S_gf rfl ?_
              refine S_gt rfl ?_
              refine S_pt rfl rfl ?_
              refine S_pt rfl rfl ?_
              exact S_nilk [0, 3, 4, 5, 6, 8, 9, 10, 11, 72] (by simp only [proj, lk, reduceIte, Nat.reduceEqDiff]; rfl) ⟨_, (by first | (simp only [decide_eq_true_eq]; omega) | (simp; omega)), rfl, rfl⟩
            · skip
              refine S_gt rfl ?_
              refine S_mv rfl ?_
              refine S_gt rfl ?_
              refine S_mv rfl ?_
              refine S_gt rfl ?_
              first | refine S_ixn T.el56 rfl rfl (by omega) ?_ | refine S_ix1 T.el56 rfl rfl (by omega) (by omega) ?_ | refine S_ix T.el56 rfl rfl (by omega) (by omega) ?_
              refine S_gt rfl ?_
              refine S_ldK T.ag3 rfl (fun K' hK' => ?_)
              simp (disch := omega) only [hat, Nat.mul_one, Int.toNat_natCast, agr, oP_some, Nat.add_zero]
              refine hK' _ ?_; clear hK' K'
              refine S_gt rfl ?_
              refine S_mv rfl ?_
              refine S_gt rfl ?_
              refine S_bin rfl rfl rfl ?_
              refine S_gt rfl ?_
              refine S_pf rfl rfl ?_
              refine S_pt rfl rfl ?_
              exact S_nilk [0, 3, 4, 5, 6, 8, 9, 10, 11, 72] (by simp only [proj, lk, reduceIte, Nat.reduceEqDiff]; rfl) ⟨_, (by first | (simp only [decide_eq_true_eq]; omega) | (simp; omega)), rfl, rfl⟩
          · skip
            refine S_gf rfl ?_
            refine S_gf rfl ?_
            refine S_gf rfl ?_
            refine S_gf rfl ?_
            refine S_gf rfl ?_
            refine S_gf rfl ?_
            refine S_gf rfl ?_
            refine S_gf rfl ?_
            refine S_gf rfl ?_
            refine S_gf rfl ?_
            refine S_gf rfl ?_
            refine S_gf rfl ?_
            refine S_gf rfl ?_
            refine S_gf rfl ?_
            refine S_pf rfl rfl ?_
            exact S_nilk [0, 3, 4, 5, 6, 8, 9, 10, 11, 72] (by simp only [proj, lk, reduceIte, Nat.reduceEqDiff]; rfl) ⟨_, (by first | (simp only [decide_eq_true_eq]; omega) | (simp; omega)), rfl, rfl⟩
        rintro l h' ⟨b, hb89, rfl, rfl⟩
        refine hK26 _ _ ?_; clear hK26
        refine V_condb rfl (fun c89 => ?_) (fun c89 => ?_)
        · replace c89 := hb89.1 c89
          have hin : In2 cnt (itS N cnt j) a b2 i := by unfold In2; rw [← hli.2]; exact c89
          refine V_sr T.mix (by kernel_rfl) (fun K28 hK28 => ?_)
          refine S_mv rfl ?_
          refine S_mv rfl ?_
          first | refine S_ixn T.el56 rfl rfl (by omega) ?_ | refine S_ix1 T.el56 rfl rfl (by omega) (by omega) ?_ | refine S_ix T.el56 rfl rfl (by omega) (by omega) ?_
          refine S_ldK T.ag3 rfl (fun K' hK' => ?_)
          simp (disch := omega) only [aln, oP_some, Nat.add_zero]
          refine hK' _ ?_; clear hK' K'
          refine S_addN (Ln i + 1) rfl rfl (by omega) (by omega) ?_
          first | refine S_ixn T.el56 rfl rfl (by omega) ?_ | refine S_ix1 T.el56 rfl rfl (by omega) (by omega) ?_ | refine S_ix T.el56 rfl rfl (by omega) (by omega) ?_
          refine S_st T.sz3 rfl rfl rfl rfl (by simp (disch := omega) only [hoo]) ?_
          generalize hh : putH _ _ _ = h5
          have bl5 : B h5 h.size (ia N (ups Ln (i) (Ln i + 1))) 3 := by rw [← hh]; exact ia_put bl _ _
          have hE5 : Ext (fun b => b = h.size) hk h5 := by rw [← hh]; exact Ext.put _ _ rfl
          clear hh
          replace bg := bg.ext hE5 (fun e => by omega)
          have hoo := ia_ok bg
          refine S_nil (hK28 _ _ (V_keep [0, 3, 4, 5, 6, 8, 9, 10, 11] (by simp only [proj, lk, reduceIte, Nat.reduceEqDiff]; rfl) ?_)); clear hK28
          refine V_reg T.mix (by kernel_rfl) ?_
          refine S_mv rfl ?_
          refine S_mv rfl ?_
          refine S_mv rfl ?_
          first | refine S_ixn T.el56 rfl rfl (by omega) ?_ | refine S_ix1 T.el56 rfl rfl (by omega) (by omega) ?_ | refine S_ix T.el56 rfl rfl (by omega) (by omega) ?_
          refine S_st T.sz3 rfl rfl rfl rfl (by simp (disch := omega) only [hoo]) ?_
          generalize hh : putH _ _ _ = h6
          have bg5 : B h6 h1.size (ia N (ups Gp (i) (a))) 3 := by rw [← hh]; exact ia_put bg _ _
          have hE6 : Ext (fun b => b = h1.size) h5 h6 := by rw [← hh]; exact Ext.put _ _ rfl
          clear hh
          have bl6 := bl5.ext hE6 (fun e => by omega)
          refine S_nilk [0, 3, 4, 5, 6, 8, 9, 10, 11] (by simp only [proj, lk, reduceIte, Nat.reduceEqDiff]; rfl) ?_
          refine hK25 _ _ ?_; clear hK25
          refine V_reg T.mix (by kernel_rfl) ?_
          refine S_mv rfl ?_
          first | refine S_add rfl rfl (by omega) (by omega) ?_ | refine S_bin rfl rfl rfl ?_
          refine S_as rfl ?_
          refine S_nilk [0, 3, 4, 5, 6, 8, 9, 10, 11] (by simp only [proj, lk, reduceIte, Nat.reduceEqDiff]; rfl) ?_
          exact hK22 _ _ ⟨_, by omega, i + 1, h6, ups Ln i (Ln i + 1), ups Gp i a, by omega, bl6, bg5, (bw.ext hE5 (fun e => by omega)).ext hE6 (fun e => by omega), (bh.ext hE5 (fun e => by omega)).ext hE6 (fun e => by omega), fun k hk => by by_cases e : k = i; (subst e; rw [ups_eq, ups_eq]; simp only [joinS]; rw [if_pos hin, if_pos hin, hli.1]; exact ⟨rfl, rfl⟩); (rw [ups_ne _ _ e, ups_ne _ _ e]; exact hL1 k (by omega)), fun k hk => by rw [ups_ne _ _ (by omega), ups_ne _ _ (by omega)]; exact hL2 k (by omega), (hEo.trans (hE5.mono fun b e => by omega)).trans (hE6.mono fun b e => by omega), rfl, rfl, rfl⟩
        · replace c89 : ¬ _ := fun hp => Bool.false_ne_true (c89.symm.trans (hb89.2 hp))
          have hin : ¬ In2 cnt (itS N cnt j) a b2 i := by unfold In2; rw [← hli.2]; exact c89
          refine V_skipk [0, 3, 4, 5, 6, 8, 9, 10, 11] (by simp only [proj, lk, reduceIte, Nat.reduceEqDiff]; rfl) ?_
          refine hK25 _ _ ?_; clear hK25
          refine V_reg T.mix (by kernel_rfl) ?_
          refine S_mv rfl ?_
          first | refine S_add rfl rfl (by omega) (by omega) ?_ | refine S_bin rfl rfl rfl ?_
          refine S_as rfl ?_
          refine S_nilk [0, 3, 4, 5, 6, 8, 9, 10, 11] (by simp only [proj, lk, reduceIte, Nat.reduceEqDiff]; rfl) ?_
          exact hK22 _ _ ⟨_, by omega, i + 1, hk, Ln, Gp, by omega, bl, bg, bw, bh, fun k hk => by by_cases e : k = i; (subst e; simp only [joinS]; rw [if_neg hin, if_neg hin]; exact hli); (exact hL1 k (by omega)), fun k hk => hL2 k (by omega), hEo, rfl, rfl, rfl⟩
      · skip
        have blf : B hk h.size (ia N (joinS cnt (itS N cnt j) a b2).ln) 3 := ia_cong bl (fun k hk => (hL1 k (by omega)).1)
        have bgf : B hk h1.size (ia N (joinS cnt (itS N cnt j) a b2).grp) 3 := ia_cong bg (fun k hk => (hL1 k (by omega)).2)
        have awt := ia_at bw
        have hoo := ia_ok bw
        refine V_exitk [0, 3, 4, 5, 6, 8, 9, 10] rfl (by simp only [proj, lk, reduceIte, Nat.reduceEqDiff]; rfl) ?_
        refine hK20 _ _ ?_; clear hK20
        refine V_sr T.mix (by kernel_rfl) (fun K29 hK29 => ?_)
        refine S_mv rfl ?_
        refine S_mv rfl ?_
        refine S_mv rfl ?_
        refine S_mv rfl ?_
        first | refine S_ixn T.el56 rfl rfl (by omega) ?_ | refine S_ix1 T.el56 rfl rfl (by omega) (by omega) ?_ | refine S_ix T.el56 rfl rfl (by omega) (by omega) ?_
        refine S_ldK T.ag3 rfl (fun K' hK' => ?_)
        simp (disch := omega) only [awt, oP_some, Nat.add_zero]
        refine hK' _ ?_; clear hK' K'
        refine S_mv rfl ?_
        refine S_mv rfl ?_
        first | refine S_ixn T.el56 rfl rfl (by omega) ?_ | refine S_ix1 T.el56 rfl rfl (by omega) (by omega) ?_ | refine S_ix T.el56 rfl rfl (by omega) (by omega) ?_
        refine S_ldK T.ag3 rfl (fun K' hK' => ?_)
        simp (disch := omega) only [awt, oP_some, Nat.add_zero]
        refine hK' _ ?_; clear hK' K'
        refine S_addN ((itS N cnt j).w a + (itS N cnt j).w b2) rfl rfl (by omega) (by omega) ?_
        first | refine S_ixn T.el56 rfl rfl (by omega) ?_ | refine S_ix1 T.el56 rfl rfl (by omega) (by omega) ?_ | refine S_ix T.el56 rfl rfl (by omega) (by omega) ?_
        refine S_st T.sz3 rfl rfl rfl rfl (by simp (disch := omega) only [hoo]) ?_
        generalize hh : putH _ _ _ = h5
        have bw5 : B h5 h2.size (ia N (ups (itS N cnt j).w (a) ((itS N cnt j).w a + (itS N cnt j).w b2))) 3 := by rw [← hh]; exact ia_put bw _ _
        have hE5 : Ext (fun b => b = h2.size) hk h5 := by rw [← hh]; exact Ext.put _ _ rfl
        clear hh
        replace blf := blf.ext hE5 (fun e => by omega)
        replace bgf := bgf.ext hE5 (fun e => by omega)
        replace bh := bh.ext hE5 (fun e => by omega)
        have hoo := ia_ok bw5
        refine S_nil (hK29 _ _ (V_keep [0, 3, 4, 5, 6, 8, 9, 10] (by simp only [proj, lk, reduceIte, Nat.reduceEqDiff]; rfl) ?_)); clear hK29
        refine V_sr T.mix (by kernel_rfl) (fun K30 hK30 => ?_)
        refine S_mv rfl ?_
        refine S_mv rfl ?_
        first | refine S_ixn T.el56 rfl rfl (by omega) ?_ | refine S_ix1 T.el56 rfl rfl (by omega) (by omega) ?_ | refine S_ix T.el56 rfl rfl (by omega) (by omega) ?_
        refine S_st T.sz3 rfl rfl rfl rfl (by simp (disch := omega) only [hoo]) ?_
        generalize hh : putH _ _ _ = h6
        have bw6 : B h6 h2.size (ia N (ups (ups (itS N cnt j).w a ((itS N cnt j).w a + (itS N cnt j).w b2)) (b2) (0))) 3 := by rw [← hh]; exact ia_put bw5 _ _
        have hE6 : Ext (fun b => b = h2.size) h5 h6 := by rw [← hh]; exact Ext.put _ _ rfl
        clear hh
        replace blf := blf.ext hE6 (fun e => by omega)
        replace bgf := bgf.ext hE6 (fun e => by omega)
        replace bh := bh.ext hE6 (fun e => by omega)
        have aht := ia_at bh
        have hoo := ia_ok bh
        refine S_nil (hK30 _ _ (V_keep [0, 3, 4, 5, 6, 8, 9, 10] (by simp only [proj, lk, reduceIte, Nat.reduceEqDiff]; rfl) ?_)); clear hK30
        refine V_seqJ (fun l h' => ∃ (h8 : Heap) (Hh : Nat → Nat), (B h8 h3.size (ia N Hh) 3) ∧ (Hh a = max ((itS N cnt j).h a) ((itS N cnt j).h b2)) ∧ (∀ k, k ≠ a → Hh k = (itS N cnt j).h k) ∧ (Ext (fun b => b = h3.size) h6 h8) ∧ l = [(0, .slice (some ⟨ab, ao, none⟩) N cap), (3, .slice (some ⟨h.size, 0, none⟩) N N), (4, .slice (some ⟨h1.size, 0, none⟩) N N), (5, .slice (some ⟨h2.size, 0, none⟩) N N), (6, .slice (some ⟨h3.size, 0, none⟩) N N), (8, .int .i64 ((liv cnt N - j : Nat) : Int)), (9, .int .i64 (a : Int))] ∧ h8 = h') ?_ ?_
        · skip
          refine V_sr T.mix (by kernel_rfl) (fun K32 hK32 => ?_)
          refine S_mv rfl ?_
          refine S_mv rfl ?_
          first | refine S_ixn T.el56 rfl rfl (by omega) ?_ | refine S_ix1 T.el56 rfl rfl (by omega) (by omega) ?_ | refine S_ix T.el56 rfl rfl (by omega) (by omega) ?_
          refine S_ldK T.ag3 rfl (fun K' hK' => ?_)
          simp (disch := omega) only [aht, oP_some, Nat.add_zero]
          refine hK' _ ?_; clear hK' K'
          refine S_mv rfl ?_
          refine S_mv rfl ?_
          first | refine S_ixn T.el56 rfl rfl (by omega) ?_ | refine S_ix1 T.el56 rfl rfl (by omega) (by omega) ?_ | refine S_ix T.el56 rfl rfl (by omega) (by omega) ?_
          refine S_ldK T.ag3 rfl (fun K' hK' => ?_)
          simp (disch := omega) only [aht, oP_some, Nat.add_zero]
          refine hK' _ ?_; clear hK' K'
          refine S_bin rfl rfl rfl ?_
          refine S_nil (hK32 _ _ (V_keep [0, 3, 4, 5, 6, 8, 9, 10, 106] (by simp only [proj, lk, reduceIte, Nat.reduceEqDiff]; rfl) ?_)); clear hK32
          refine V_condp rfl (fun c96 => ?_) (fun c96 => ?_)
          · skip
            refine V_reg T.mix (by kernel_rfl) ?_
            refine S_mv rfl ?_
            refine S_mv rfl ?_
            refine S_mv rfl ?_
            refine S_mv rfl ?_
            first | refine S_ixn T.el56 rfl rfl (by omega) ?_ | refine S_ix1 T.el56 rfl rfl (by omega) (by omega) ?_ | refine S_ix T.el56 rfl rfl (by omega) (by omega) ?_
            refine S_ldK T.ag3 rfl (fun K' hK' => ?_)
            simp (disch := omega) only [aht, oP_some, Nat.add_zero]
            refine hK' _ ?_; clear hK' K'
            first | refine S_ixn T.el56 rfl rfl (by omega) ?_ | refine S_ix1 T.el56 rfl rfl (by omega) (by omega) ?_ | refine S_ix T.el56 rfl rfl (by omega) (by omega) ?_
            refine S_st T.sz3 rfl rfl rfl rfl (by simp (disch := omega) only [hoo]) ?_
            generalize hh : putH _ _ _ = h7
            have bh7 : B h7 h3.size (ia N (ups (itS N cnt j).h (a) ((itS N cnt j).h b2))) 3 := by rw [← hh]; exact ia_put bh _ _
            have hE7 : Ext (fun b => b = h3.size) h6 h7 := by rw [← hh]; exact Ext.put _ _ rfl
            clear hh
            refine S_nilk [0, 3, 4, 5, 6, 8, 9] (by simp only [proj, lk, reduceIte, Nat.reduceEqDiff]; rfl) ?_
            exact ⟨h7, ups (itS N cnt j).h a ((itS N cnt j).h b2), bh7, by rw [ups_eq]; omega, fun k e => ups_ne _ _ e, hE7, rfl, rfl⟩
          · skip
            refine V_skipk [0, 3, 4, 5, 6, 8, 9] (by simp only [proj, lk, reduceIte, Nat.reduceEqDiff]; rfl) ?_
            exact ⟨h6, (itS N cnt j).h, bh, by omega, fun k _ => rfl, Ext.refl _ _, rfl, rfl⟩
        rintro l h' ⟨h8, Hh, bh, hHa, hHo, hE8, rfl, rfl⟩
        have aht := ia_at bh
        have hoo := ia_ok bh
        replace blf := blf.ext hE8 (fun e => by omega)
        replace bgf := bgf.ext hE8 (fun e => by omega)
        replace bw6 := bw6.ext hE8 (fun e => by omega)
        refine V_reg T.mix (by kernel_rfl) ?_
        refine S_mv rfl ?_
        refine S_mv rfl ?_
        first | refine S_ixn T.el56 rfl rfl (by omega) ?_ | refine S_ix1 T.el56 rfl rfl (by omega) (by omega) ?_ | refine S_ix T.el56 rfl rfl (by omega) (by omega) ?_
        refine S_ldK T.ag3 rfl (fun K' hK' => ?_)
        simp (disch := omega) only [aht, oP_some, Nat.add_zero]
        refine hK' _ ?_; clear hK' K'
        refine S_addN (Hh a + 1) rfl rfl (by omega) (by omega) ?_
        first | refine S_ixn T.el56 rfl rfl (by omega) ?_ | refine S_ix1 T.el56 rfl rfl (by omega) (by omega) ?_ | refine S_ix T.el56 rfl rfl (by omega) (by omega) ?_
        refine S_st T.sz3 rfl rfl rfl rfl (by simp (disch := omega) only [hoo]) ?_
        generalize hh : putH _ _ _ = h9
        have bh9 : B h9 h3.size (ia N (ups Hh (a) (Hh a + 1))) 3 := by rw [← hh]; exact ia_put bh _ _
        have hE9 : Ext (fun b => b = h3.size) h8 h9 := by rw [← hh]; exact Ext.put _ _ rfl
        clear hh
        replace blf := blf.ext hE9 (fun e => by omega)
        replace bgf := bgf.ext hE9 (fun e => by omega)
        replace bw6 := bw6.ext hE9 (fun e => by omega)
        have hEf : Ext (fun b => h.size ≤ b) h h9 := ((((hEo.trans (hE5.mono fun b e => by omega)).trans (hE6.mono fun b e => by omega)).trans (hE8.mono fun b e => by omega)).trans (hE9.mono fun b e => by omega))
        refine S_nilk [0, 3, 4, 5, 6, 8] (by simp only [proj, lk, reduceIte, Nat.reduceEqDiff]; rfl) ?_
        refine hK17 _ _ ?_; clear hK17
        refine V_reg T.mix (by kernel_rfl) ?_
        refine S_mv rfl ?_
        refine S_subN (liv cnt N - (j + 1)) rfl rfl (by omega) (by omega) ?_
        refine S_as rfl ?_
        refine S_nilk [0, 3, 4, 5, 6, 8] (by simp only [proj, lk, reduceIte, Nat.reduceEqDiff]; rfl) ?_
        have hjn : itS N cnt (j + 1) = (joinS cnt (itS N cnt j) a b2) := by rw [itS, stp_is ha hb2]
        exact hK14 _ _ ⟨_, by omega, j + 1, h9, by omega, by rw [hjn]; exact blf, by rw [hjn]; exact bgf, by rw [hjn]; exact bw6, by rw [hjn]; exact bh9.cong (arr_ext fun k _ => by simp only [joinS]; by_cases e : k = a; (rw [e, ups_eq, ups_eq, hHa]); (rw [ups_ne _ _ e, ups_ne _ _ e, hHo k e])), hEf, rfl, rfl, rfl⟩
    · skip
      have hjl : j = liv cnt N - 1 := by omega
      refine V_exitk [3] rfl (by simp only [proj, lk, reduceIte, Nat.reduceEqDiff]; rfl) ?_
      refine hK12 _ _ ?_; clear hK12
      refine V_sr T.mix (by kernel_rfl) (fun K33 hK33 => ?_)
      refine S_mv rfl ?_
      refine S_as rfl ?_
      refine S_nil (hK33 _ _ (V_keep [2] (by simp only [proj, lk, reduceIte, Nat.reduceEqDiff]; rfl) ?_)); clear hK33
      refine V_ret ?_
      refine hR _ _ (ret1 rfl rfl ?_)
      exact ⟨rfl, by unfold pln; rw [← hjl]; exact bl, hEo.1, fun b hb _ => hEo.2 b hb (fun e => by omega)⟩
end Go.Proofs.Qxb6500404aGreat.HufW
