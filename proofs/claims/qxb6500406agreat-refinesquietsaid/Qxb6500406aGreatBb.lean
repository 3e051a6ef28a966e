import Derived.Test.Qxb6500406aGreatBa
set_option linter.unusedVariables false
set_option linter.unusedSimpArgs false
namespace Go.Proofs.Qxb6500406aGreat.BitW
open Go.Eng Go.Bits

theorem skipE_arg {s : TS} {k : Int} (h : k < 0 ∨ 16 < k) : skipE s k = 2 := by unfold skipE; rw [if_pos h]
theorem skipE_end {s : TS} {k : Int} (h0 : ¬ (k < 0 ∨ 16 < k)) (h : (s.n : Int) - s.p < k) : skipE s k = 4 := by unfold skipE; rw [if_neg h0, if_pos h]
theorem skipE_ok {s : TS} {k : Int} (h0 : ¬ (k < 0 ∨ 16 < k)) (h : ¬ (s.n : Int) - s.p < k) : skipE s k = 0 := by unfold skipE; rw [if_neg h0, if_neg h]
theorem skipS_ne {s : TS} {k : Int} (h : skipE s k ≠ 0) : skipS s k = s := by unfold skipS; rw [if_neg h]
theorem skipS_ok {s : TS} {k : Int} (h : skipE s k = 0) : skipS s k = ⟨s.N, s.n, s.p + k.toNat⟩ := by unfold skipS; rw [if_pos h]
theorem takeV_ne {s : TS} {k : Int} (h : skipE s k ≠ 0) : takeV s k = 0 := by unfold takeV; rw [if_neg h]
theorem takeV_ok {s : TS} {k : Int} (h : skipE s k = 0) : takeV s k = peekN s.N s.p k.toNat := by unfold takeV; rw [if_pos h]
theorem gotF_in {s : TS} {k : Int} (h0 : ¬ (k < 0 ∨ 16 < k)) : gotF s k = min k.toNat (s.n - s.p) := by unfold gotF; rw [if_neg h0]
theorem gotF_out {s : TS} {k : Int} (h0 : k < 0 ∨ 16 < k) : gotF s k = 0 := by unfold gotF; rw [if_pos h0]
theorem peekV_out {s : TS} {k : Int} (h0 : k < 0 ∨ 16 < k) : peekV s k = 0 := by unfold peekV; rw [gotF_out h0, peekN_zero]
theorem byte_end {N n : Nat} (hN : N < 2 ^ n) : byteN N (n / 8) / 2 ^ (n % 8) = 0 := by
  refine Nat.div_eq_of_lt (Nat.lt_of_le_of_lt (Nat.mod_le _ _) ?_)
  rw [Nat.div_lt_iff_lt_mul (Nat.two_pow_pos _), ← Nat.pow_add, show n % 8 + 8 * (n / 8) = n by omega]; exact hN
set_option maxHeartbeats 400000 in
theorem pad_spec (h : Heap) (X b : Nat) (s : TS) (r : RT h X b s) :
    FC Tryz.prog 58 (#[.pointer (some ⟨X, 0, none⟩)] : Array Value) h fun rv h' => rv = .tuple #[] ∧ RT h' X b (padS s) ∧ Ext (fun x => x = X ∨ x = b) h h' := by
  have r0 := r.c0
  have r1 := r.c1
  have r2 := r.c2
  have rb := r.cb
  have ok2 := r.ok.2.1
  have ok3 := r.ok.2.2
  have hne := r.ne
  have kok : ∀ j, j < 3 → okPut h ⟨X, j, none⟩ = true := fun j hj => r.t.ok (by simpa using hj)
  refine FC_of [(0, .pointer (some ⟨X, 0, none⟩))] Tryz.func58 rfl Tryz.ntmps58 (by simp) rfl (fun R hR => ?_)
  refine V_reg T.mix (by kernel_rfl) ?_
  refine S_mv rfl ?_
  refine S_mv rfl ?_
  refine S_nc rfl ?_
  first | refine S_fa0 T.f61_1 rfl ?_ | refine S_fa T.f61_1 rfl ?_
  refine S_ldK T.ag3 rfl (fun K' hK' => ?_)
  simp (disch := omega) only [r0, r1, r2, rb, oP_some, Nat.add_zero]
  refine hK' _ ?_; clear hK' K'
  first | refine S_add rfl rfl (by omega) (by omega) ?_ | refine S_bin rfl rfl rfl ?_
  refine S_andn7 (s.n + 7) rfl rfl (by omega) (by omega) ?_
  refine S_nc rfl ?_
  first | refine S_fa0 T.f61_1 rfl ?_ | refine S_fa T.f61_1 rfl ?_
  refine S_st T.sz3 rfl rfl rfl rfl (by simp (disch := omega) only [kok]) ?_
  generalize hh : putH _ _ _ = h1
  have hTh1 : B h1 X #[.slice (some ⟨b, 0, none⟩) 516 516, .int .i64 (((s.n + 7) / 8 * 8 : Nat)), .int .i64 (s.p)] 61 := by rw [← hh]; exact r.t.put 1 _
  have hEh1 : Ext (fun x => x = X) h h1 := by rw [← hh]; exact Ext.put _ _ rfl
  clear hh
  refine S_nilk [] (by simp only [proj, lk, reduceIte, Nat.reduceEqDiff]; rfl) ?_
  -- end
  refine hR _ _ (ret0 rfl ?_)
  exact ⟨rfl, ⟨hTh1.cong rfl, r.bb.ext hEh1 (fun e => hne e.symm), hne, r.ok.pad⟩, hEh1.mono fun _ e => .inl e⟩
set_option maxHeartbeats 400000 in
theorem text_spec (h : Heap) (X b : Nat) (s : TS) (r : RT h X b s) :
    FC Tryz.prog 35 (#[.pointer (some ⟨X, 0, none⟩)] : Array Value) h fun v h' => v = .string (txt s.N s.n) ∧ h = h' := by
  have r0 := r.c0
  have r1 := r.c1
  have r2 := r.c2
  have rb := r.cb
  have ok2 := r.ok.2.1
  have ok3 := r.ok.2.2
  have hne := r.ne
  refine FC_of [(0, .pointer (some ⟨X, 0, none⟩))] Tryz.func35 rfl Tryz.ntmps35 (by simp) rfl (fun R hR => ?_)
  refine V_sr T.mix (by kernel_rfl) (fun K1 hK1 => ?_)
  refine S_as rfl ?_
  refine S_nil (hK1 _ _ (V_keep [0] (by simp only [proj, lk, reduceIte, Nat.reduceEqDiff]; rfl) ?_)); clear hK1
  refine V_sr T.mix (by kernel_rfl) (fun K2 hK2 => ?_)
  refine S_mv rfl ?_
  refine S_nc rfl ?_
  first | refine S_fa0 T.f61_0 rfl ?_ | refine S_fa T.f61_0 rfl ?_
  refine S_ldK T.ag59 rfl (fun K' hK' => ?_)
  simp (disch := omega) only [r0, r1, r2, rb, oP_some, Nat.add_zero]
  refine hK' _ ?_; clear hK' K'
  refine S_mv rfl ?_
  refine S_nc rfl ?_
  first | refine S_fa0 T.f61_1 rfl ?_ | refine S_fa T.f61_1 rfl ?_
  refine S_ldK T.ag3 rfl (fun K' hK' => ?_)
  simp (disch := omega) only [r0, r1, r2, rb, oP_some, Nat.add_zero]
  refine hK' _ ?_; clear hK' K'
  first | refine S_add rfl rfl (by omega) (by omega) ?_ | refine S_bin rfl rfl rfl ?_
  refine S_nshr (s.n + 7) 3 ((s.n + 7) / 8) rfl rfl (by omega) rfl (by omega) (by decide) ?_
  refine S_sl rfl rfl rfl (sliceV_hi T.el59 (by omega) (by omega)) ?_
  refine S_str T.kd59 T.kd9 T.in9 rfl (srcV_u8p r.bb (by omega)) ?_
  refine S_as rfl ?_
  refine S_nil (hK2 _ _ (V_keep [2] (by simp only [proj, lk, reduceIte, Nat.reduceEqDiff]; rfl) ?_)); clear hK2
  refine V_ret ?_
  refine hR _ _ (ret1 rfl rfl ?_)
  exact ⟨rfl, rfl⟩
end Go.Proofs.Qxb6500406aGreat.BitW
