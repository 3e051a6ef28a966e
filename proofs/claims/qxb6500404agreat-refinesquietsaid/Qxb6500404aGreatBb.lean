import Derived.Test.Qxb6500404aGreatBa
set_option linter.unusedVariables false
set_option linter.unusedSimpArgs false
namespace Go.Proofs.Qxb6500404aGreat.BitW
open Go.Eng Go.Bits

theorem skipE_arg {s : TS} {k : Int} (h : k < 0 ∨ 16 < k) : skipE s k = 2 := by unfold skipE; rw [if_pos h]
theorem skipE_end {s : TS} {k : Int} (h0 : ¬ (k < 0 ∨ 16 < k)) (h : (s.n : Int) - s.p < k) : skipE s k = 4 := by unfold skipE; rw [if_neg h0, if_pos h]
theorem skipE_ok {s : TS} {k : Int} (h0 : ¬ (k < 0 ∨ 16 < k)) (h : ¬ (s.n : Int) - s.p < k) : skipE s k = 0 := by unfold skipE; rw [if_neg h0, if_neg h]
theorem skipS_ne {s : TS} {k : Int} (h : skipE s k ≠ 0) : skipS s k = s := by unfold skipS; rw [if_neg h]
theorem skipS_ok {s : TS} {k : Int} (h : skipE s k = 0) : skipS s k = ⟨s.N, s.n, s.p + k.toNat⟩ := by unfold skipS; rw [if_pos h]
theorem takeV_ne {s : TS} {k : Int} (h : skipE s k ≠ 0) : takeV s k = 0 := by unfold takeV; rw [if_neg h]
theorem takeV_ok {s : TS} {k : Int} (h : skipE s k = 0) : takeV s k = peekN s.N s.p k.toNat := by unfold takeV; rw [if_pos h]
theorem gotF_in {s : TS} {k : Int} (h0 : ¬ (k < 0 ∨ 16 < k)) : gotF s k = min k.toNat (s.n - s.p) := by unfold gotF; rw [if_neg h0]
theorem gotF_out {s : TS} {k : Int} (h0 : k < 0 ∨ 16 < k) : gotF s k = 0 := by unfold gotF; rw [if_pos h0]
theorem peekV_out {s : TS} {k : Int} (h0 : k < 0 ∨ 16 < k) : peekV s k = 0 := by unfold peekV; rw [gotF_out h0, peekN_zero]
theorem byte_end {N n : Nat} (hN : N < 2 ^ n) : byteN N (n / 8) / 2 ^ (n % 8) = 0 := by
  refine Nat.div_eq_of_lt (Nat.lt_of_le_of_lt (Nat.mod_le _ _) ?_)
  rw [Nat.div_lt_iff_lt_mul (Nat.two_pow_pos _), ← Nat.pow_add, show n % 8 + 8 * (n / 8) = n by omega]; exact hN
set_option maxHeartbeats 400000 in
theorem pad_spec (h : Heap) (X b : Nat) (s : TS) (r : RT h X b s) :
    FC Tryz.prog 129 (#[.pointer (some ⟨X, 0, none⟩)] : Array Value) h fun rv h' => rv = .tuple #[] ∧ RT h' X b (padS s) ∧ Ext (fun x => x = X ∨ x = b) h h' := by
  have r0 := r.c0
  have r1 := r.c1
  have r2 := r.c2
  have rb := r.cb
  have ok2 := r.ok.2.1
  have ok3 := r.ok.2.2
  have hne := r.ne
  have kok : ∀ j, j < 3 → okPut h ⟨X, j, none⟩ = true := fun j hj => r.t.ok (by simpa using hj)
  refine FC_of [(0, .pointer (some ⟨X, 0, none⟩))] Tryz.func129 rfl Tryz.ntmps129 (by simp) rfl (fun R hR => ?_)
  refine V_reg T.mix (by kernel_rfl) ?_
  refine S_mv rfl ?_
  refine S_mv rfl ?_
  refine S_nc rfl ?_
  first | refine S_fa0 T.f68_1 rfl ?_ | refine S_fa T.f68_1 rfl ?_
  refine S_ldK T.ag3 rfl (fun K' hK' => ?_)
  simp (disch := omega) only [r0, r1, r2, rb, oP_some, Nat.add_zero]
  refine hK' _ ?_; clear hK' K'
  first | refine S_add rfl rfl (by omega) (by omega) ?_ | refine S_bin rfl rfl rfl ?_
  refine S_andn7 (s.n + 7) rfl rfl (by omega) (by omega) ?_
  refine S_nc rfl ?_
  first | refine S_fa0 T.f68_1 rfl ?_ | refine S_fa T.f68_1 rfl ?_
  refine S_st T.sz3 rfl rfl rfl rfl (by simp (disch := omega) only [kok]) ?_
  generalize hh : putH _ _ _ = h1
  have hTh1 : B h1 X #[.slice (some ⟨b, 0, none⟩) 516 516, .int .i64 (((s.n + 7) / 8 * 8 : Nat)), .int .i64 (s.p)] 68 := by rw [← hh]; exact r.t.put 1 _
  have hEh1 : Ext (fun x => x = X) h h1 := by rw [← hh]; exact Ext.put _ _ rfl
  clear hh
  refine S_nilk [] (by simp only [proj, lk, reduceIte, Nat.reduceEqDiff]; rfl) ?_
  -- end
  refine hR _ _ (ret0 rfl ?_)
  exact ⟨rfl, ⟨hTh1.cong rfl, r.bb.ext hEh1 (fun e => hne e.symm), hne, r.ok.pad⟩, hEh1.mono fun _ e => .inl e⟩
set_option maxHeartbeats 400000 in
theorem text_spec (h : Heap) (X b : Nat) (s : TS) (r : RT h X b s) :
    FC Tryz.prog 99 (#[.pointer (some ⟨X, 0, none⟩)] : Array Value) h fun v h' => v = .string (txt s.N s.n) ∧ h = h' := by
  have r0 := r.c0
  have r1 := r.c1
  have r2 := r.c2
  have rb := r.cb
  have ok2 := r.ok.2.1
  have ok3 := r.ok.2.2
  have hne := r.ne
  refine FC_of [(0, .pointer (some ⟨X, 0, none⟩))] Tryz.func99 rfl Tryz.ntmps99 (by simp) rfl (fun R hR => ?_)
  refine V_sr T.mix (by kernel_rfl) (fun K1 hK1 => ?_)
  refine S_as rfl ?_
  refine S_nil (hK1 _ _ (V_keep [0] (by simp only [proj, lk, reduceIte, Nat.reduceEqDiff]; rfl) ?_)); clear hK1
  refine V_sr T.mix (by kernel_rfl) (fun K2 hK2 => ?_)
  refine S_mv rfl ?_
  refine S_nc rfl ?_
  first | refine S_fa0 T.f68_0 rfl ?_ | refine S_fa T.f68_0 rfl ?_
  refine S_ldK T.ag55 rfl (fun K' hK' => ?_)
  simp (disch := omega) only [r0, r1, r2, rb, oP_some, Nat.add_zero]
  refine hK' _ ?_; clear hK' K'
  refine S_mv rfl ?_
  refine S_nc rfl ?_
  first | refine S_fa0 T.f68_1 rfl ?_ | refine S_fa T.f68_1 rfl ?_
  refine S_ldK T.ag3 rfl (fun K' hK' => ?_)
  simp (disch := omega) only [r0, r1, r2, rb, oP_some, Nat.add_zero]
  refine hK' _ ?_; clear hK' K'
  first | refine S_add rfl rfl (by omega) (by omega) ?_ | refine S_bin rfl rfl rfl ?_
  refine S_nshr (s.n + 7) 3 ((s.n + 7) / 8) rfl rfl (by omega) rfl (by omega) (by decide) ?_
  refine S_sl rfl rfl rfl (sliceV_hi T.el55 (by omega) (by omega)) ?_
  refine S_str T.kd55 T.kd9 T.in9 rfl (srcV_u8p r.bb (by omega)) ?_
  refine S_as rfl ?_
  refine S_nil (hK2 _ _ (V_keep [2] (by simp only [proj, lk, reduceIte, Nat.reduceEqDiff]; rfl) ?_)); clear hK2
  refine V_ret ?_
  refine hR _ _ (ret1 rfl rfl ?_)
  exact ⟨rfl, rfl⟩
set_option maxHeartbeats 400000 in
theorem peek_spec (h : Heap) (X b : Nat) (s : TS) (r : RT h X b s) (k : Int) :
    FC Tryz.prog 172 (#[.pointer (some ⟨X, 0, none⟩), .int .i64 k] : Array Value) h fun v h' => v = .tuple #[.int .i64 ((peekV s k : Nat) : Int), .int .i64 ((gotF s k : Nat) : Int)] ∧ h = h' := by
  have r0 := r.c0
  have r1 := r.c1
  have r2 := r.c2
  have rb := r.cb
  have ok2 := r.ok.2.1
  have ok3 := r.ok.2.2
  have hne := r.ne
  refine FC_of [(0, .pointer (some ⟨X, 0, none⟩)), (1, .int .i64 k)] Tryz.func172 rfl Tryz.ntmps172 (by simp) rfl (fun R hR => ?_)
  refine V_sr T.mix (by kernel_rfl) (fun K1 hK1 => ?_)
  refine S_as rfl ?_
  refine S_as rfl ?_
  refine S_nil (hK1 _ _ (V_keep [0, 1] (by simp only [proj, lk, reduceIte, Nat.reduceEqDiff]; rfl) ?_)); clear hK1
  refine V_seq (fun K2 hK2 => ?_)
  refine V_sr T.mix (by kernel_rfl) (fun K3 hK3 => ?_)
  refine S_mv rfl ?_
  refine S_call T.hb128 rfl ?_
  refine FC.mono (inrange_spec _ k) ?_
  rintro v h' ⟨rfl, rfl⟩
  refine S_notb rfl ?_
  refine S_nil (hK3 _ _ (V_keep [0, 1, 11] (by simp only [proj, lk, reduceIte, Nat.reduceEqDiff]; rfl) ?_)); clear hK3
  refine V_condb rfl (fun c85 => ?_) (fun c85 => ?_)
  · skip
    simp only [Bool.not_eq_true', decide_eq_false_iff_not] at c85
    refine V_sr T.mix (by kernel_rfl) (fun K4 hK4 => ?_)
    refine S_as rfl ?_
    refine S_as rfl ?_
    refine S_nil (hK4 _ _ (V_keep [4, 5] (by simp only [proj, lk, reduceIte, Nat.reduceEqDiff]; rfl) ?_)); clear hK4
    refine V_ret ?_
    refine hR _ _ (ret2 rfl rfl rfl ?_)
    exact ⟨by rw [peekV_out (by omega), gotF_out (by omega)]; rfl, rfl⟩
  · skip
    simp only [Bool.not_eq_false', decide_eq_true_eq] at c85
    have hgi := gotF_in (s := s) (k := k) (by omega)
    refine V_skipk [0, 1] (by simp only [proj, lk, reduceIte, Nat.reduceEqDiff]; rfl) ?_
    refine hK2 _ _ ?_; clear hK2
    refine V_sr T.mix (by kernel_rfl) (fun K5 hK5 => ?_)
    refine S_mv rfl ?_
    refine S_nc rfl ?_
    first | refine S_fa0 T.f68_1 rfl ?_ | refine S_fa T.f68_1 rfl ?_
    refine S_ldK T.ag3 rfl (fun K' hK' => ?_)
    simp (disch := omega) only [r0, r1, r2, rb, oP_some, Nat.add_zero]
    refine hK' _ ?_; clear hK' K'
    refine S_mv rfl ?_
    refine S_nc rfl ?_
    first | refine S_fa0 T.f68_2 rfl ?_ | refine S_fa T.f68_2 rfl ?_
    refine S_ldK T.ag3 rfl (fun K' hK' => ?_)
    simp (disch := omega) only [r0, r1, r2, rb, oP_some, Nat.add_zero]
    refine hK' _ ?_; clear hK' K'
    first | refine S_sub rfl rfl (by omega) (by omega) ?_ | refine S_bin rfl rfl rfl ?_
    refine S_as rfl ?_
    refine S_nil (hK5 _ _ (V_keep [0, 1, 6] (by simp only [proj, lk, reduceIte, Nat.reduceEqDiff]; rfl) ?_)); clear hK5
    refine V_seqJ (fun l h' => ∃ (g : Int), (g = ((gotF s k : Nat) : Int)) ∧ l = [(0, .pointer (some ⟨X, 0, none⟩)), (6, .int .i64 g)] ∧ h = h') ?_ ?_
    · skip
      refine V_sr T.mix (by kernel_rfl) (fun K7 hK7 => ?_)
      refine S_mv rfl ?_
      refine S_mv rfl ?_
      refine S_bin rfl rfl rfl ?_
      refine S_nil (hK7 _ _ (V_keep [0, 1, 6, 23] (by simp only [proj, lk, reduceIte, Nat.reduceEqDiff]; rfl) ?_)); clear hK7
      refine V_condp rfl (fun c89 => ?_) (fun c89 => ?_)
      · skip
        refine V_reg T.mix (by kernel_rfl) ?_
        refine S_mv rfl ?_
        refine S_as rfl ?_
        refine S_nilk [0, 6] (by simp only [proj, lk, reduceIte, Nat.reduceEqDiff]; rfl) ?_
        exact ⟨_, by omega, rfl, rfl⟩
      · skip
        refine V_skipk [0, 6] (by simp only [proj, lk, reduceIte, Nat.reduceEqDiff]; rfl) ?_
        exact ⟨_, by omega, rfl, rfl⟩
    rintro l h' ⟨g, hg, rfl, rfl⟩
    subst hg
    have b0 := byteN_lt s.N (s.p / 8)
    have b1 := byteN_lt s.N (s.p / 8 + 1)
    have b2 := byteN_lt s.N (s.p / 8 + 2)
    have o1 : byteN s.N (s.p / 8) ||| byteN s.N (s.p / 8 + 1) * 2 ^ 8 < 2 ^ 16 := Nat.or_lt_two_pow (by omega) (by omega)
    have o2 : (byteN s.N (s.p / 8) ||| byteN s.N (s.p / 8 + 1) * 2 ^ 8 ||| byteN s.N (s.p / 8 + 2) * 2 ^ 16) < 2 ^ 24 := Nat.or_lt_two_pow (by omega) (by omega)
    have hg16 : gotF s k ≤ 16 := by omega
    have hq1 : 2 ^ gotF s k ≤ 2 ^ 16 := Nat.pow_le_pow_right (by omega) hg16
    have hq2 := Nat.two_pow_pos (gotF s k)
    have o3 : (byteN s.N (s.p / 8) ||| byteN s.N (s.p / 8 + 1) * 2 ^ 8 ||| byteN s.N (s.p / 8 + 2) * 2 ^ 16) / 2 ^ (s.p % 8) < 2 ^ 24 := Nat.lt_of_le_of_lt (Nat.div_le_self _ _) o2
    refine V_sr T.mix (by kernel_rfl) (fun K8 hK8 => ?_)
    refine S_mv rfl ?_
    refine S_nc rfl ?_
    first | refine S_fa0 T.f68_2 rfl ?_ | refine S_fa T.f68_2 rfl ?_
    refine S_ldK T.ag3 rfl (fun K' hK' => ?_)
    simp (disch := omega) only [r0, r1, r2, rb, oP_some, Nat.add_zero]
    refine hK' _ ?_; clear hK' K'
    refine S_nshr s.p 3 (s.p / 8) rfl rfl rfl rfl (by omega) (by decide) ?_
    refine S_as rfl ?_
    refine S_nil (hK8 _ _ (V_keep [0, 6, 7] (by simp only [proj, lk, reduceIte, Nat.reduceEqDiff]; rfl) ?_)); clear hK8
    refine V_sr T.mix (by kernel_rfl) (fun K9 hK9 => ?_)
    refine S_mv rfl ?_
    refine S_nc rfl ?_
    first | refine S_fa0 T.f68_0 rfl ?_ | refine S_fa T.f68_0 rfl ?_
    refine S_ldK T.ag55 rfl (fun K' hK' => ?_)
    simp (disch := omega) only [r0, r1, r2, rb, oP_some, Nat.add_zero]
    refine hK' _ ?_; clear hK' K'
    refine S_mv rfl ?_
    first | refine S_ixn T.el55 rfl rfl (by omega) ?_ | refine S_ix1 T.el55 rfl rfl (by omega) (by omega) ?_ | refine S_ix T.el55 rfl rfl (by omega) (by omega) ?_
    refine S_ldK T.ag5 rfl (fun K' hK' => ?_)
    simp (disch := omega) only [r0, r1, r2, rb, oP_some, Nat.add_zero]
    refine hK' _ ?_; clear hK' K'
    first | refine S_cvi T.us5 T.in3 rfl (by omega) (by omega) ?_ | refine S_cv T.us5 T.in3 rfl ?_
    refine S_mv rfl ?_
    refine S_nc rfl ?_
    first | refine S_fa0 T.f68_0 rfl ?_ | refine S_fa T.f68_0 rfl ?_
    refine S_ldK T.ag55 rfl (fun K' hK' => ?_)
    simp (disch := omega) only [r0, r1, r2, rb, oP_some, Nat.add_zero]
    refine hK' _ ?_; clear hK' K'
    refine S_mv rfl ?_
    refine S_addN (s.p / 8 + 1) rfl rfl (by omega) (by omega) ?_
    first | refine S_ixn T.el55 rfl rfl (by omega) ?_ | refine S_ix1 T.el55 rfl rfl (by omega) (by omega) ?_ | refine S_ix T.el55 rfl rfl (by omega) (by omega) ?_
    refine S_ldK T.ag5 rfl (fun K' hK' => ?_)
    simp (disch := omega) only [r0, r1, r2, rb, oP_some, Nat.add_zero]
    refine hK' _ ?_; clear hK' K'
    first | refine S_cvi T.us5 T.in3 rfl (by omega) (by omega) ?_ | refine S_cv T.us5 T.in3 rfl ?_
    refine S_nshl (byteN s.N (s.p / 8 + 1)) 8 _ rfl rfl rfl rfl rfl (by decide) (top_i64 (by omega)) ?_
    refine S_nor (byteN s.N (s.p / 8)) (byteN s.N (s.p / 8 + 1) * 2 ^ 8) _ rfl rfl rfl rfl rfl (top_i64 (by omega)) (top_i64 (by omega)) ?_
    refine S_mv rfl ?_
    refine S_nc rfl ?_
    first | refine S_fa0 T.f68_0 rfl ?_ | refine S_fa T.f68_0 rfl ?_
    refine S_ldK T.ag55 rfl (fun K' hK' => ?_)
    simp (disch := omega) only [r0, r1, r2, rb, oP_some, Nat.add_zero]
    refine hK' _ ?_; clear hK' K'
    refine S_mv rfl ?_
    refine S_addN (s.p / 8 + 2) rfl rfl (by omega) (by omega) ?_
    first | refine S_ixn T.el55 rfl rfl (by omega) ?_ | refine S_ix1 T.el55 rfl rfl (by omega) (by omega) ?_ | refine S_ix T.el55 rfl rfl (by omega) (by omega) ?_
    refine S_ldK T.ag5 rfl (fun K' hK' => ?_)
    simp (disch := omega) only [r0, r1, r2, rb, oP_some, Nat.add_zero]
    refine hK' _ ?_; clear hK' K'
    first | refine S_cvi T.us5 T.in3 rfl (by omega) (by omega) ?_ | refine S_cv T.us5 T.in3 rfl ?_
    refine S_nshl (byteN s.N (s.p / 8 + 2)) 16 _ rfl rfl rfl rfl rfl (by decide) (top_i64 (by omega)) ?_
    refine S_nor (byteN s.N (s.p / 8) ||| byteN s.N (s.p / 8 + 1) * 2 ^ 8) (byteN s.N (s.p / 8 + 2) * 2 ^ 16) _ rfl rfl rfl rfl rfl (top_i64 (by omega)) (top_i64 (by omega)) ?_
    refine S_as rfl ?_
    refine S_nil (hK9 _ _ (V_keep [0, 6, 8] (by simp only [proj, lk, reduceIte, Nat.reduceEqDiff]; rfl) ?_)); clear hK9
    refine V_sr T.mix (by kernel_rfl) (fun K10 hK10 => ?_)
    refine S_mv rfl ?_
    refine S_mv rfl ?_
    refine S_nc rfl ?_
    first | refine S_fa0 T.f68_2 rfl ?_ | refine S_fa T.f68_2 rfl ?_
    refine S_ldK T.ag3 rfl (fun K' hK' => ?_)
    simp (disch := omega) only [r0, r1, r2, rb, oP_some, Nat.add_zero]
    refine hK' _ ?_; clear hK' K'
    first | refine S_andm 7 3 8 rfl rfl rfl (by decide) (by decide) (by omega) (by omega) ?_ | refine S_bin rfl rfl rfl ?_
    first | refine S_cvn T.us3 T.in105 rfl rfl (by first | omega | (simp only [IntKind.bits]; omega)) ?_ | refine S_cvu T.us3 T.in105 rfl (by omega) (by omega) ?_ | refine S_cv T.us3 T.in105 rfl ?_
    refine S_nshr (byteN s.N (s.p / 8) ||| byteN s.N (s.p / 8 + 1) * 2 ^ 8 ||| byteN s.N (s.p / 8 + 2) * 2 ^ 16) (s.p % 8) _ rfl rfl rfl (by omega) rfl (show s.p % 8 ≤ 64 by omega) ?_
    refine S_as rfl ?_
    refine S_nil (hK10 _ _ (V_keep [6, 8] (by simp only [proj, lk, reduceIte, Nat.reduceEqDiff]; rfl) ?_)); clear hK10
    refine V_sr T.mix (by kernel_rfl) (fun K11 hK11 => ?_)
    refine S_mv rfl ?_
    refine S_mv rfl ?_
    first | refine S_cvn T.us3 T.in105 rfl rfl (by first | omega | (simp only [IntKind.bits]; omega)) ?_ | refine S_cvu T.us3 T.in105 rfl (by omega) (by omega) ?_ | refine S_cv T.us3 T.in105 rfl ?_
    refine S_nshl 1 (gotF s k) (2 ^ gotF s k) rfl rfl rfl rfl (Nat.one_mul _) (show gotF s k ≤ 64 by omega) (top_i64 (by omega)) ?_
    refine S_subN (2 ^ gotF s k - 1) rfl rfl (by omega) (by omega) ?_
    refine S_nand ((byteN s.N (s.p / 8) ||| byteN s.N (s.p / 8 + 1) * 2 ^ 8 ||| byteN s.N (s.p / 8 + 2) * 2 ^ 16) / 2 ^ (s.p % 8)) (2 ^ gotF s k - 1) (peekV s k) rfl rfl rfl rfl (three_peek hg16) (top_i64 (by omega)) (top_i64 (by omega)) ?_
    refine S_mv rfl ?_
    refine S_as rfl ?_
    refine S_as rfl ?_
    refine S_nil (hK11 _ _ (V_keep [4, 5] (by simp only [proj, lk, reduceIte, Nat.reduceEqDiff]; rfl) ?_)); clear hK11
    refine V_ret ?_
    refine hR _ _ (ret2 rfl rfl rfl ?_)
    exact ⟨rfl, rfl⟩
set_option maxHeartbeats 400000 in
theorem skip_spec (h : Heap) (X b : Nat) (s : TS) (r : RT h X b s) (k : Int) :
    FC Tryz.prog 173 (#[.pointer (some ⟨X, 0, none⟩), .int .i64 k] : Array Value) h fun rv h' => rv = .int .i64 ((skipE s k : Nat) : Int) ∧ RT h' X b (skipS s k) ∧ Ext (fun x => x = X ∨ x = b) h h' := by
  have r0 := r.c0
  have r1 := r.c1
  have r2 := r.c2
  have rb := r.cb
  have ok2 := r.ok.2.1
  have ok3 := r.ok.2.2
  have hne := r.ne
  have kok : ∀ j, j < 3 → okPut h ⟨X, j, none⟩ = true := fun j hj => r.t.ok (by simpa using hj)
  refine FC_of [(0, .pointer (some ⟨X, 0, none⟩)), (1, .int .i64 k)] Tryz.func173 rfl Tryz.ntmps173 (by simp) rfl (fun R hR => ?_)
  refine V_sr T.mix (by kernel_rfl) (fun K1 hK1 => ?_)
  refine S_as rfl ?_
  refine S_nil (hK1 _ _ (V_keep [0, 1] (by simp only [proj, lk, reduceIte, Nat.reduceEqDiff]; rfl) ?_)); clear hK1
  refine V_seq (fun K2 hK2 => ?_)
  refine V_sr T.mix (by kernel_rfl) (fun K3 hK3 => ?_)
  refine S_mv rfl ?_
  refine S_call T.hb128 rfl ?_
  refine FC.mono (inrange_spec _ k) ?_
  rintro v h' ⟨rfl, rfl⟩
  refine S_notb rfl ?_
  refine S_nil (hK3 _ _ (V_keep [0, 1, 7] (by simp only [proj, lk, reduceIte, Nat.reduceEqDiff]; rfl) ?_)); clear hK3
  refine V_condb rfl (fun c100 => ?_) (fun c100 => ?_)
  · skip
    simp only [Bool.not_eq_true', decide_eq_false_iff_not] at c100
    refine V_sr T.mix (by kernel_rfl) (fun K4 hK4 => ?_)
    refine S_as rfl ?_
    refine S_nil (hK4 _ _ (V_keep [4] (by simp only [proj, lk, reduceIte, Nat.reduceEqDiff]; rfl) ?_)); clear hK4
    refine V_ret ?_
    refine hR _ _ (ret1 rfl rfl ?_)
    exact ⟨by rw [skipE_arg (by omega)]; rfl, r.eq (skipS_ne (by rw [skipE_arg (by omega)]; omega)).symm, Ext.refl _ _⟩
  · skip
    simp only [Bool.not_eq_false', decide_eq_true_eq] at c100
    refine V_skipk [0, 1] (by simp only [proj, lk, reduceIte, Nat.reduceEqDiff]; rfl) ?_
    refine hK2 _ _ ?_; clear hK2
    refine V_seq (fun K5 hK5 => ?_)
    refine V_sr T.mix (by kernel_rfl) (fun K6 hK6 => ?_)
    refine S_mv rfl ?_
    refine S_mv rfl ?_
    refine S_nc rfl ?_
    first | refine S_fa0 T.f68_1 rfl ?_ | refine S_fa T.f68_1 rfl ?_
    refine S_ldK T.ag3 rfl (fun K' hK' => ?_)
    simp (disch := omega) only [r0, r1, r2, rb, oP_some, Nat.add_zero]
    refine hK' _ ?_; clear hK' K'
    refine S_mv rfl ?_
    refine S_nc rfl ?_
    first | refine S_fa0 T.f68_2 rfl ?_ | refine S_fa T.f68_2 rfl ?_
    refine S_ldK T.ag3 rfl (fun K' hK' => ?_)
    simp (disch := omega) only [r0, r1, r2, rb, oP_some, Nat.add_zero]
    refine hK' _ ?_; clear hK' K'
    first | refine S_sub rfl rfl (by omega) (by omega) ?_ | refine S_bin rfl rfl rfl ?_
    refine S_bin rfl rfl rfl ?_
    refine S_nil (hK6 _ _ (V_keep [0, 1, 18] (by simp only [proj, lk, reduceIte, Nat.reduceEqDiff]; rfl) ?_)); clear hK6
    refine V_condp rfl (fun c103 => ?_) (fun c103 => ?_)
    · skip
      refine V_sr T.mix (by kernel_rfl) (fun K7 hK7 => ?_)
      refine S_as rfl ?_
      refine S_nil (hK7 _ _ (V_keep [4] (by simp only [proj, lk, reduceIte, Nat.reduceEqDiff]; rfl) ?_)); clear hK7
      refine V_ret ?_
      refine hR _ _ (ret1 rfl rfl ?_)
      exact ⟨by rw [skipE_end (by omega) (by omega)]; rfl, r.eq (skipS_ne (by rw [skipE_end (by omega) (by omega)]; omega)).symm, Ext.refl _ _⟩
    · skip
      refine V_skipk [0, 1] (by simp only [proj, lk, reduceIte, Nat.reduceEqDiff]; rfl) ?_
      refine hK5 _ _ ?_; clear hK5
      refine V_sr T.mix (by kernel_rfl) (fun K8 hK8 => ?_)
      refine S_mv rfl ?_
      refine S_mv rfl ?_
      refine S_nc rfl ?_
      first | refine S_fa0 T.f68_2 rfl ?_ | refine S_fa T.f68_2 rfl ?_
      refine S_ldK T.ag3 rfl (fun K' hK' => ?_)
      simp (disch := omega) only [r0, r1, r2, rb, oP_some, Nat.add_zero]
      refine hK' _ ?_; clear hK' K'
      refine S_mv rfl ?_
      first | refine S_add rfl rfl (by omega) (by omega) ?_ | refine S_bin rfl rfl rfl ?_
      refine S_nc rfl ?_
      first | refine S_fa0 T.f68_2 rfl ?_ | refine S_fa T.f68_2 rfl ?_
      refine S_st T.sz3 rfl rfl rfl rfl (by simp (disch := omega) only [kok]) ?_
      generalize hh : putH _ _ _ = h1
      have hTh1 : B h1 X #[.slice (some ⟨b, 0, none⟩) 516 516, .int .i64 (s.n), .int .i64 (s.p + k)] 68 := by rw [← hh]; exact r.t.put 2 _
      have hEh1 : Ext (fun x => x = X) h h1 := by rw [← hh]; exact Ext.put _ _ rfl
      clear hh
      refine S_nil (hK8 _ _ (V_keep [] (by simp only [proj, lk, reduceIte, Nat.reduceEqDiff]; rfl) ?_)); clear hK8
      refine V_sr T.mix (by kernel_rfl) (fun K9 hK9 => ?_)
      refine S_as rfl ?_
      refine S_nil (hK9 _ _ (V_keep [4] (by simp only [proj, lk, reduceIte, Nat.reduceEqDiff]; rfl) ?_)); clear hK9
      refine V_ret ?_
      refine hR _ _ (ret1 rfl rfl ?_)
      have e1 := skipE_ok (s := s) (k := k) (by omega) (by omega)
      have hok := r.ok.skip k
      rw [skipS_ok e1] at hok ⊢
      exact ⟨by rw [e1]; rfl, ⟨hTh1.cong (by simp; omega), r.bb.ext hEh1 (fun e => hne e.symm), hne, hok⟩, hEh1.mono fun _ e => .inl e⟩
set_option maxHeartbeats 400000 in
theorem take_spec (h : Heap) (X b : Nat) (s : TS) (r : RT h X b s) (k : Int) :
    FC Tryz.prog 166 (#[.pointer (some ⟨X, 0, none⟩), .int .i64 k] : Array Value) h fun rv h' => rv = .tuple #[.int .i64 ((takeV s k : Nat) : Int), .int .i64 ((skipE s k : Nat) : Int)] ∧ RT h' X b (skipS s k) ∧ Ext (fun x => x = X ∨ x = b) h h' := by
  have r0 := r.c0
  have r1 := r.c1
  have r2 := r.c2
  have rb := r.cb
  have ok2 := r.ok.2.1
  have ok3 := r.ok.2.2
  have hne := r.ne
  have kok : ∀ j, j < 3 → okPut h ⟨X, j, none⟩ = true := fun j hj => r.t.ok (by simpa using hj)
  refine FC_of [(0, .pointer (some ⟨X, 0, none⟩)), (1, .int .i64 k)] Tryz.func166 rfl Tryz.ntmps166 (by simp) rfl (fun R hR => ?_)
  refine V_sr T.mix (by kernel_rfl) (fun K1 hK1 => ?_)
  refine S_as rfl ?_
  refine S_as rfl ?_
  refine S_nil (hK1 _ _ (V_keep [0, 1] (by simp only [proj, lk, reduceIte, Nat.reduceEqDiff]; rfl) ?_)); clear hK1
  refine V_sr T.mix (by kernel_rfl) (fun K2 hK2 => ?_)
  refine S_mv rfl ?_
  refine S_mv rfl ?_
  refine S_call T.hb172 rfl ?_
  refine FC.mono (peek_spec h X b s r k) ?_
  rintro v h' ⟨rfl, rfl⟩
  refine S_mv rfl ?_
  refine S_ex rfl rfl ?_
  refine S_ex rfl rfl ?_
  refine S_as rfl ?_
  refine S_as rfl ?_
  refine S_nil (hK2 _ _ (V_keep [0, 1, 6, 7] (by simp only [proj, lk, reduceIte, Nat.reduceEqDiff]; rfl) ?_)); clear hK2
  refine V_seq (fun K3 hK3 => ?_)
  refine V_sr T.mix (by kernel_rfl) (fun K4 hK4 => ?_)
  refine S_mv rfl ?_
  refine S_call T.hb128 rfl ?_
  refine FC.mono (inrange_spec _ k) ?_
  rintro v h' ⟨rfl, rfl⟩
  refine S_notb rfl ?_
  refine S_nil (hK4 _ _ (V_keep [0, 1, 6, 7, 16] (by simp only [proj, lk, reduceIte, Nat.reduceEqDiff]; rfl) ?_)); clear hK4
  refine V_condb rfl (fun c113 => ?_) (fun c113 => ?_)
  · skip
    simp only [Bool.not_eq_true', decide_eq_false_iff_not] at c113
    refine V_sr T.mix (by kernel_rfl) (fun K5 hK5 => ?_)
    refine S_as rfl ?_
    refine S_as rfl ?_
    refine S_nil (hK5 _ _ (V_keep [4, 5] (by simp only [proj, lk, reduceIte, Nat.reduceEqDiff]; rfl) ?_)); clear hK5
    refine V_ret ?_
    refine hR _ _ (ret2 rfl rfl rfl ?_)
    have e1 := skipE_arg (s := s) (k := k) (by omega)
    exact ⟨by rw [e1, takeV_ne (by omega)]; rfl, r.eq (skipS_ne (by omega)).symm, Ext.refl _ _⟩
  · skip
    simp only [Bool.not_eq_false', decide_eq_true_eq] at c113
    have hgi := gotF_in (s := s) (k := k) (by omega)
    refine V_skipk [0, 1, 6, 7] (by simp only [proj, lk, reduceIte, Nat.reduceEqDiff]; rfl) ?_
    refine hK3 _ _ ?_; clear hK3
    refine V_seq (fun K6 hK6 => ?_)
    refine V_sr T.mix (by kernel_rfl) (fun K7 hK7 => ?_)
    refine S_mv rfl ?_
    refine S_mv rfl ?_
    refine S_bin rfl rfl rfl ?_
    refine S_nil (hK7 _ _ (V_keep [0, 1, 6, 19] (by simp only [proj, lk, reduceIte, Nat.reduceEqDiff]; rfl) ?_)); clear hK7
    refine V_condp rfl (fun c116 => ?_) (fun c116 => ?_)
    · skip
      refine V_sr T.mix (by kernel_rfl) (fun K8 hK8 => ?_)
      refine S_as rfl ?_
      refine S_as rfl ?_
      refine S_nil (hK8 _ _ (V_keep [4, 5] (by simp only [proj, lk, reduceIte, Nat.reduceEqDiff]; rfl) ?_)); clear hK8
      refine V_ret ?_
      refine hR _ _ (ret2 rfl rfl rfl ?_)
      have e1 := skipE_end (s := s) (k := k) (by omega) (by omega)
      exact ⟨by rw [e1, takeV_ne (by omega)]; rfl, r.eq (skipS_ne (by omega)).symm, Ext.refl _ _⟩
    · skip
      refine V_skipk [0, 1, 6] (by simp only [proj, lk, reduceIte, Nat.reduceEqDiff]; rfl) ?_
      refine hK6 _ _ ?_; clear hK6
      refine V_sr T.mix (by kernel_rfl) (fun K9 hK9 => ?_)
      refine S_mv rfl ?_
      refine S_mv rfl ?_
      refine S_nc rfl ?_
      first | refine S_fa0 T.f68_2 rfl ?_ | refine S_fa T.f68_2 rfl ?_
      refine S_ldK T.ag3 rfl (fun K' hK' => ?_)
      simp (disch := omega) only [r0, r1, r2, rb, oP_some, Nat.add_zero]
      refine hK' _ ?_; clear hK' K'
      refine S_mv rfl ?_
      first | refine S_add rfl rfl (by omega) (by omega) ?_ | refine S_bin rfl rfl rfl ?_
      refine S_nc rfl ?_
      first | refine S_fa0 T.f68_2 rfl ?_ | refine S_fa T.f68_2 rfl ?_
      refine S_st T.sz3 rfl rfl rfl rfl (by simp (disch := omega) only [kok]) ?_
      generalize hh : putH _ _ _ = h1
      have hTh1 : B h1 X #[.slice (some ⟨b, 0, none⟩) 516 516, .int .i64 (s.n), .int .i64 (s.p + k)] 68 := by rw [← hh]; exact r.t.put 2 _
      have hEh1 : Ext (fun x => x = X) h h1 := by rw [← hh]; exact Ext.put _ _ rfl
      clear hh
      refine S_nil (hK9 _ _ (V_keep [6] (by simp only [proj, lk, reduceIte, Nat.reduceEqDiff]; rfl) ?_)); clear hK9
      refine V_sr T.mix (by kernel_rfl) (fun K10 hK10 => ?_)
      refine S_mv rfl ?_
      refine S_as rfl ?_
      refine S_as rfl ?_
      refine S_nil (hK10 _ _ (V_keep [4, 5] (by simp only [proj, lk, reduceIte, Nat.reduceEqDiff]; rfl) ?_)); clear hK10
      refine V_ret ?_
      refine hR _ _ (ret2 rfl rfl rfl ?_)
      have e1 := skipE_ok (s := s) (k := k) (by omega) (by omega)
      have hok := r.ok.skip k
      rw [skipS_ok e1] at hok ⊢
      exact ⟨by rw [e1, takeV_ok e1]; unfold peekV; rw [show gotF s k = k.toNat by omega]; rfl, ⟨hTh1.cong (by simp; omega), r.bb.ext hEh1 (fun e => hne e.symm), hne, hok⟩, hEh1.mono fun _ e => .inl e⟩
set_option maxHeartbeats 400000 in
theorem sync_spec (h : Heap) (X b : Nat) (s : TS) (r : RT h X b s) :
    FC Tryz.prog 167 (#[.pointer (some ⟨X, 0, none⟩)] : Array Value) h fun rv h' => rv = .tuple #[] ∧ RT h' X b (syncS s) ∧ Ext (fun x => x = X ∨ x = b) h h' := by
  have r0 := r.c0
  have r1 := r.c1
  have r2 := r.c2
  have rb := r.cb
  have ok2 := r.ok.2.1
  have ok3 := r.ok.2.2
  have hne := r.ne
  have kok : ∀ j, j < 3 → okPut h ⟨X, j, none⟩ = true := fun j hj => r.t.ok (by simpa using hj)
  refine FC_of [(0, .pointer (some ⟨X, 0, none⟩))] Tryz.func167 rfl Tryz.ntmps167 (by simp) rfl (fun R hR => ?_)
  refine V_sr T.mix (by kernel_rfl) (fun K1 hK1 => ?_)
  refine S_mv rfl ?_
  refine S_mv rfl ?_
  refine S_nc rfl ?_
  first | refine S_fa0 T.f68_2 rfl ?_ | refine S_fa T.f68_2 rfl ?_
  refine S_ldK T.ag3 rfl (fun K' hK' => ?_)
  simp (disch := omega) only [r0, r1, r2, oP_some, Nat.add_zero]
  refine hK' _ ?_; clear hK' K'
  first | refine S_add rfl rfl (by omega) (by omega) ?_ | refine S_bin rfl rfl rfl ?_
  refine S_andn7 (s.p + 7) rfl rfl (by omega) (by omega) ?_
  refine S_nc rfl ?_
  first | refine S_fa0 T.f68_2 rfl ?_ | refine S_fa T.f68_2 rfl ?_
  refine S_st T.sz3 rfl rfl rfl rfl (by simp (disch := omega) only [kok]) ?_
  generalize hh : putH _ _ _ = h1
  have hTh1 : B h1 X #[.slice (some ⟨b, 0, none⟩) 516 516, .int .i64 (s.n), .int .i64 (((s.p + 7) / 8 * 8 : Nat))] 68 := by rw [← hh]; exact r.t.put 2 _
  have hEh1 : Ext (fun x => x = X) h h1 := by rw [← hh]; exact Ext.put _ _ rfl
  clear hh
  clear kok r0 r1 r2
  have kok : ∀ j, j < 3 → okPut h1 ⟨X, j, none⟩ = true := fun j hj => hTh1.ok (by simpa using hj)
  have r0 : cellH h1 ⟨X, 1, none⟩ = some (.int .i64 (s.n : Int)) := hTh1.cell 1
  have r1 := r0
  have r2 : cellH h1 ⟨X, 2, none⟩ = some (.int .i64 ((((s.p + 7) / 8 * 8 : Nat)) : Int)) := hTh1.cell 2
  refine S_nil (hK1 _ _ (V_keep [0] (by simp only [proj, lk, reduceIte, Nat.reduceEqDiff]; rfl) ?_)); clear hK1
  refine V_sr T.mix (by kernel_rfl) (fun K2 hK2 => ?_)
  refine S_mv rfl ?_
  refine S_nc rfl ?_
  first | refine S_fa0 T.f68_2 rfl ?_ | refine S_fa T.f68_2 rfl ?_
  refine S_ldK T.ag3 rfl (fun K' hK' => ?_)
  simp (disch := omega) only [r0, r1, r2, oP_some, Nat.add_zero]
  refine hK' _ ?_; clear hK' K'
  refine S_mv rfl ?_
  refine S_nc rfl ?_
  first | refine S_fa0 T.f68_1 rfl ?_ | refine S_fa T.f68_1 rfl ?_
  refine S_ldK T.ag3 rfl (fun K' hK' => ?_)
  simp (disch := omega) only [r0, r1, r2, oP_some, Nat.add_zero]
  refine hK' _ ?_; clear hK' K'
  refine S_bin rfl rfl rfl ?_
  refine S_nil (hK2 _ _ (V_keep [0, 19] (by simp only [proj, lk, reduceIte, Nat.reduceEqDiff]; rfl) ?_)); clear hK2
  refine V_condp rfl (fun c126 => ?_) (fun c126 => ?_)
  · skip
    refine V_reg T.mix (by kernel_rfl) ?_
    refine S_mv rfl ?_
    refine S_mv rfl ?_
    refine S_nc rfl ?_
    first | refine S_fa0 T.f68_1 rfl ?_ | refine S_fa T.f68_1 rfl ?_
    refine S_ldK T.ag3 rfl (fun K' hK' => ?_)
    simp (disch := omega) only [r0, r1, r2, oP_some, Nat.add_zero]
    refine hK' _ ?_; clear hK' K'
    refine S_nc rfl ?_
    first | refine S_fa0 T.f68_2 rfl ?_ | refine S_fa T.f68_2 rfl ?_
    refine S_st T.sz3 rfl rfl rfl rfl (by simp (disch := omega) only [kok]) ?_
    generalize hh : putH _ _ _ = h2
    have hTh2 : B h2 X #[.slice (some ⟨b, 0, none⟩) 516 516, .int .i64 (s.n), .int .i64 (s.n)] 68 := by rw [← hh]; exact hTh1.put 2 _
    have hEh2 : Ext (fun x => x = X) h1 h2 := by rw [← hh]; exact Ext.put _ _ rfl
    clear hh
    refine S_nilk [] (by simp only [proj, lk, reduceIte, Nat.reduceEqDiff]; rfl) ?_
    -- end
    refine hR _ _ (ret0 rfl ?_)
    exact ⟨rfl, ⟨hTh2.cong (by simp [syncS]; omega), (r.bb.ext hEh1 (fun e => hne e.symm)).ext hEh2 (fun e => hne e.symm), hne, r.ok.sync⟩, (hEh1.mono fun _ e => .inl e).trans (hEh2.mono fun _ e => .inl e)⟩
  · skip
    refine V_skipk [] (by simp only [proj, lk, reduceIte, Nat.reduceEqDiff]; rfl) ?_
    -- end
    refine hR _ _ (ret0 rfl ?_)
    exact ⟨rfl, ⟨hTh1.cong (by simp [syncS]; omega), r.bb.ext hEh1 (fun e => hne e.symm), hne, r.ok.sync⟩, hEh1.mono fun _ e => .inl e⟩
end Go.Proofs.Qxb6500404aGreat.BitW
