import Derived.Test.Qxb6500404aGreatBb
set_option linter.unusedVariables false
set_option linter.unusedSimpArgs false
namespace Go.Proofs.Qxb6500404aGreat.BitW
open Go.Eng Go.Bits

theorem MT.get {h : Heap} {M : Nat} {a : Option Addr} {cap : Nat} {s : TS} (r : MT h M a cap s) (hn : 0 < s.n) : ∃ ab, a = some ⟨ab, 0, none⟩ ∧ ∀ i, i < s.n → cellH h ⟨ab, i, none⟩ = some (.int .u8 ((bitN s.N i : Nat) : Int)) := by
  obtain ⟨ab, h1, _, h2, h3, h4⟩ := OwnR.some r.bb hn
  exact ⟨ab, h1, fun i hi => by rw [h3 i (by rw [bitsL_len]; exact hi), bitsL_get hi]⟩
theorem bit_sh (N i : Nat) : bitN N i * 2 ^ (i % 8) < 256 := by
  have h1 := bitN_lt N i
  have h2 : 2 ^ (i % 8) ≤ 2 ^ 7 := Nat.pow_le_pow_right (by omega) (by omega)
  calc bitN N i * 2 ^ (i % 8) ≤ 1 * 2 ^ 7 := Nat.mul_le_mul (by omega) h2
    _ < 256 := by decide
theorem bit_sh2 {N i g : Nat} (hg : g ≤ 16) : bitN N i * 2 ^ g < 131072 := by
  have h1 := bitN_lt N i
  have h2 : 2 ^ g ≤ 2 ^ 16 := Nat.pow_le_pow_right (by omega) hg
  calc bitN N i * 2 ^ g ≤ 1 * 2 ^ 16 := Nat.mul_le_mul (by omega) h2
    _ < 131072 := by decide
theorem peekN_16 {N i g : Nat} (hg : g ≤ 16) : peekN N i g < 131072 := Nat.lt_of_lt_of_le (peekN_lt N i g) (Nat.le_trans (Nat.pow_le_pow_right (by omega) hg) (by decide))
theorem bit_cast (v i : Nat) : ((v / 2 ^ i : Nat) : Int) % 2 = ((bitN v i : Nat) : Int) := by rw [← bitN_eq]; rfl
theorem load_step {u : ByteArray} {i : Nat} (hi : i < u.size) (hu : u.size ≤ 512) : putS ⟨numF (bAt u) i, 8 * i, 0⟩ ((bAt u i : Nat) : Int) 8 = ⟨numF (bAt u) (i + 1), 8 * (i + 1), 0⟩ := by
  have hb := bAt_lt u i
  have e : putE (8 * i) ((bAt u i : Nat) : Int) 8 = 0 := by
    have := (putE_in (n := 8 * i) (v := ((bAt u i : Nat) : Int)) (k := 8) (by omega) (by omega) (by omega) (by rw [Int.toNat_natCast]; exact Nat.div_eq_of_lt hb)).2
    rw [this, if_neg (by omega)]
  unfold putS
  rw [if_pos e]
  rfl
theorem MEx.app {M : Nat} {h hk h4 : Heap} {a ak a1 : Option Addr} (e : MEx M h hk a ak) (e4 : Ext (fun b => blkA ak = some b) hk h4) (hb : blkA a1 = blkA ak ∨ ∃ b, blkA a1 = some b ∧ hk.size ≤ b) : MEx M h h4 a a1 :=
  e.trans ⟨e4.mono fun _ x => .inr x, fun b hb1 => by
    rcases hb with x | ⟨c, x, y⟩
    · exact .inl (x ▸ hb1)
    · rw [x] at hb1; cases hb1; exact .inr y⟩
set_option maxHeartbeats 400000 in
theorem mpos_spec (h : Heap) (M : Nat) (a : Option Addr) (cap : Nat) (s : TS) (mt : MT h M a cap s) :
    FC Tryz.prog 85 (#[.pointer (some ⟨M, 0, none⟩)] : Array Value) h fun v h' => v = .int .i64 (s.p : Int) ∧ h = h' := by
  have m0 := mt.c0
  have m1 := mt.c1
  have ok2 := mt.ok.2.1
  have ok3 := mt.ok.2.2
  have hne := mt.ne
  have mok : ∀ j, j < 2 → okPut h ⟨M, j, none⟩ = true := fun j hj => mt.t.ok (by simpa using hj)
  refine FC_of [(0, .pointer (some ⟨M, 0, none⟩))] Tryz.func85 rfl Tryz.ntmps85 (by simp) rfl (fun R hR => ?_)
  refine V_sr T.mix (by kernel_rfl) (fun K1 hK1 => ?_)
  refine S_as rfl ?_
  refine S_nil (hK1 _ _ (V_keep [0] (by simp only [proj, lk, reduceIte, Nat.reduceEqDiff]; rfl) ?_)); clear hK1
  refine V_sr T.mix (by kernel_rfl) (fun K2 hK2 => ?_)
  refine S_mv rfl ?_
  refine S_nc rfl ?_
  first | refine S_fa0 T.f184_1 rfl ?_ | refine S_fa T.f184_1 rfl ?_
  refine S_ldK T.ag3 rfl (fun K' hK' => ?_)
  simp (disch := omega) only [m0, m1, oP_some, Nat.add_zero]
  refine hK' _ ?_; clear hK' K'
  refine S_as rfl ?_
  refine S_nil (hK2 _ _ (V_keep [2] (by simp only [proj, lk, reduceIte, Nat.reduceEqDiff]; rfl) ?_)); clear hK2
  refine V_ret ?_
  refine hR _ _ (ret1 rfl rfl ?_)
  exact ⟨rfl, rfl⟩
set_option maxHeartbeats 400000 in
theorem mlen_spec (h : Heap) (M : Nat) (a : Option Addr) (cap : Nat) (s : TS) (mt : MT h M a cap s) :
    FC Tryz.prog 91 (#[.pointer (some ⟨M, 0, none⟩)] : Array Value) h fun v h' => v = .int .i64 (s.n : Int) ∧ h = h' := by
  have m0 := mt.c0
  have m1 := mt.c1
  have ok2 := mt.ok.2.1
  have ok3 := mt.ok.2.2
  have hne := mt.ne
  have mok : ∀ j, j < 2 → okPut h ⟨M, j, none⟩ = true := fun j hj => mt.t.ok (by simpa using hj)
  refine FC_of [(0, .pointer (some ⟨M, 0, none⟩))] Tryz.func91 rfl Tryz.ntmps91 (by simp) rfl (fun R hR => ?_)
  refine V_sr T.mix (by kernel_rfl) (fun K1 hK1 => ?_)
  refine S_as rfl ?_
  refine S_nil (hK1 _ _ (V_keep [0] (by simp only [proj, lk, reduceIte, Nat.reduceEqDiff]; rfl) ?_)); clear hK1
  refine V_sr T.mix (by kernel_rfl) (fun K2 hK2 => ?_)
  refine S_mv rfl ?_
  refine S_nc rfl ?_
  first | refine S_fa0 T.f184_0 rfl ?_ | refine S_fa T.f184_0 rfl ?_
  refine S_ldK T.ag55 rfl (fun K' hK' => ?_)
  simp (disch := omega) only [m0, m1, oP_some, Nat.add_zero]
  refine hK' _ ?_; clear hK' K'
  refine S_lenl T.el55 rfl ?_
  refine S_as rfl ?_
  refine S_nil (hK2 _ _ (V_keep [2] (by simp only [proj, lk, reduceIte, Nat.reduceEqDiff]; rfl) ?_)); clear hK2
  refine V_ret ?_
  refine hR _ _ (ret1 rfl rfl ?_)
  exact ⟨rfl, rfl⟩
set_option maxHeartbeats 400000 in
theorem mnew_spec (h : Heap) :
    FC Tryz.prog 83 (#[] : Array Value) h fun v h' => v = .pointer (some ⟨h.size, 0, none⟩) ∧ MT h' h.size none 0 ⟨0, 0, 0⟩ ∧ Ext (fun _ => False) h h' := by
  refine FC_of [] Tryz.func83 rfl Tryz.ntmps83 (by simp) rfl (fun R hR => ?_)
  refine V_sr T.mix (by kernel_rfl) (fun K1 hK1 => ?_)
  refine S_as rfl ?_
  refine S_nil (hK1 _ _ (V_keep [] (by simp only [proj, lk, reduceIte, Nat.reduceEqDiff]; rfl) ?_)); clear hK1
  refine V_sr T.mix (by kernel_rfl) (fun K2 hK2 => ?_)
  refine S_bld rfl (T.bld184) ?_
  refine S_boxA rfl ?_
  generalize hh : Array.push h _ = h1
  have hB : B h1 h.size #[.slice none 0 0, .int .i64 0] 184 := by rw [← hh]; exact B.new _ _ _
  have hE1 : Ext (fun _ => False) h h1 := by rw [← hh]; exact Ext.push _ _ _
  clear hh
  refine S_as rfl ?_
  refine S_nil (hK2 _ _ (V_keep [0] (by simp only [proj, lk, reduceIte, Nat.reduceEqDiff]; rfl) ?_)); clear hK2
  refine V_ret ?_
  refine hR _ _ (ret1 rfl rfl ?_)
  exact ⟨rfl, ⟨hB, OwnR.nil _ _ _ _, by simp [blkA], OK.zero⟩, hE1⟩
set_option maxHeartbeats 400000 in
theorem mreset_spec (h : Heap) (M : Nat) (a : Option Addr) (cap : Nat) (s : TS) (mt : MT h M a cap s) :
    FC Tryz.prog 117 (#[.pointer (some ⟨M, 0, none⟩)] : Array Value) h fun rv h' => rv = .tuple #[] ∧ ∃ a' cap', MT h' M a' cap' (⟨0, 0, 0⟩) ∧ MEx M h h' a a' := by
  have m0 := mt.c0
  have m1 := mt.c1
  have ok2 := mt.ok.2.1
  have ok3 := mt.ok.2.2
  have hne := mt.ne
  have mok : ∀ j, j < 2 → okPut h ⟨M, j, none⟩ = true := fun j hj => mt.t.ok (by simpa using hj)
  refine FC_of [(0, .pointer (some ⟨M, 0, none⟩))] Tryz.func117 rfl Tryz.ntmps117 (by simp) rfl (fun R hR => ?_)
  refine V_sr T.mix (by kernel_rfl) (fun K1 hK1 => ?_)
  refine S_mv rfl ?_
  refine S_nc rfl ?_
  first | refine S_fa0 T.f184_0 rfl ?_ | refine S_fa T.f184_0 rfl ?_
  refine S_st T.sz55 rfl rfl rfl rfl (by simp (disch := omega) only [mok]) ?_
  generalize hh : putH _ _ _ = h1
  have hTh1 : B h1 M #[.slice none 0 0, .int .i64 (s.p)] 184 := by rw [← hh]; exact mt.t.put 0 _
  have hEh1 : Ext (fun x => x = M) h h1 := by rw [← hh]; exact Ext.put _ _ rfl
  clear hh
  clear mok
  have mok : ∀ j, j < 2 → okPut h1 ⟨M, j, none⟩ = true := fun j hj => hTh1.ok (by simpa using hj)
  refine S_nil (hK1 _ _ (V_keep [0] (by simp only [proj, lk, reduceIte, Nat.reduceEqDiff]; rfl) ?_)); clear hK1
  refine V_reg T.mix (by kernel_rfl) ?_
  refine S_mv rfl ?_
  refine S_nc rfl ?_
  first | refine S_fa0 T.f184_1 rfl ?_ | refine S_fa T.f184_1 rfl ?_
  refine S_st T.sz3 rfl rfl rfl rfl (by simp (disch := omega) only [mok]) ?_
  generalize hh : putH _ _ _ = h2
  have hTh2 : B h2 M #[.slice none 0 0, .int .i64 (0)] 184 := by rw [← hh]; exact hTh1.put 1 _
  have hEh2 : Ext (fun x => x = M) h1 h2 := by rw [← hh]; exact Ext.put _ _ rfl
  clear hh
  refine S_nilk [] (by simp only [proj, lk, reduceIte, Nat.reduceEqDiff]; rfl) ?_
  -- end
  refine hR _ _ (ret0 rfl ?_)
  exact ⟨rfl, none, 0, ⟨hTh2, OwnR.nil _ _ _ _, by simp [blkA], OK.zero⟩, ⟨(hEh1.trans hEh2).mono fun _ e => .inl e, fun b hb => by simp [blkA] at hb⟩⟩
set_option maxHeartbeats 400000 in
theorem mput_spec (h : Heap) (M : Nat) (a : Option Addr) (cap : Nat) (s : TS) (mt : MT h M a cap s) (v k : Int) :
    FC Tryz.prog 109 (#[.pointer (some ⟨M, 0, none⟩), .int .i64 v, .int .i64 k] : Array Value) h fun rv h' => rv = .int .i64 ((putE s.n v k : Nat) : Int) ∧ ∃ a' cap', MT h' M a' cap' (putS s v k) ∧ MEx M h h' a a' := by
  have m0 := mt.c0
  have m1 := mt.c1
  have ok2 := mt.ok.2.1
  have ok3 := mt.ok.2.2
  have hne := mt.ne
  have mok : ∀ j, j < 2 → okPut h ⟨M, j, none⟩ = true := fun j hj => mt.t.ok (by simpa using hj)
  refine FC_of [(0, .pointer (some ⟨M, 0, none⟩)), (1, .int .i64 v), (2, .int .i64 k)] Tryz.func109 rfl Tryz.ntmps109 (by simp) rfl (fun R hR => ?_)
  refine V_sr T.mix (by kernel_rfl) (fun K1 hK1 => ?_)
  refine S_as rfl ?_
  refine S_nil (hK1 _ _ (V_keep [0, 1, 2] (by simp only [proj, lk, reduceIte, Nat.reduceEqDiff]; rfl) ?_)); clear hK1
  refine V_seq (fun K2 hK2 => ?_)
  refine V_sr T.mix (by kernel_rfl) (fun K3 hK3 => ?_)
  refine S_mv rfl ?_
  refine S_bin rfl rfl rfl ?_
  refine S_mv rfl ?_
  refine S_dec (fun g36 => ?_) (fun g36 => ?_)
  · skip
    refine S_gf rfl ?_
    refine S_gf rfl ?_
    refine S_pt rfl rfl ?_
    refine S_mv rfl ?_
    refine S_gf rfl ?_
    refine S_gf rfl ?_
    refine S_pt rfl rfl ?_
    refine S_mv rfl ?_
    refine S_gf rfl ?_
    refine S_gf rfl ?_
    refine S_gf rfl ?_
    refine S_gf rfl ?_
    refine S_gf rfl ?_
    refine S_pt rfl rfl ?_
    refine S_nil (hK3 _ _ (V_keep [0, 1, 2, 24] (by simp only [proj, lk, reduceIte, Nat.reduceEqDiff]; rfl) ?_)); clear hK3
    refine V_condt rfl ?_
    refine V_sr T.mix (by kernel_rfl) (fun K4 hK4 => ?_)
    refine S_as rfl ?_
    refine S_nil (hK4 _ _ (V_keep [6] (by simp only [proj, lk, reduceIte, Nat.reduceEqDiff]; rfl) ?_)); clear hK4
    refine V_ret ?_
    refine hR _ _ (ret1 rfl rfl ?_)
    exact ⟨by rw [putE_arg (by omega)]; rfl, a, cap, mt.eq (by unfold putS; rw [putE_arg (by omega)]; rfl), MEx.refl _ _ _⟩
  · skip
    refine S_gt rfl ?_
    refine S_mv rfl ?_
    refine S_gt rfl ?_
    refine S_bin rfl rfl rfl ?_
    refine S_pf rfl rfl ?_
    refine S_mv rfl ?_
    refine S_dec (fun g36a => ?_) (fun g36a => ?_)
    · skip
      refine S_gf rfl ?_
      refine S_gf rfl ?_
      refine S_pt rfl rfl ?_
      refine S_mv rfl ?_
      refine S_gf rfl ?_
      refine S_gf rfl ?_
      refine S_gf rfl ?_
      refine S_gf rfl ?_
      refine S_gf rfl ?_
      refine S_pt rfl rfl ?_
      refine S_nil (hK3 _ _ (V_keep [0, 1, 2, 24] (by simp only [proj, lk, reduceIte, Nat.reduceEqDiff]; rfl) ?_)); clear hK3
      refine V_condt rfl ?_
      refine V_sr T.mix (by kernel_rfl) (fun K5 hK5 => ?_)
      refine S_as rfl ?_
      refine S_nil (hK5 _ _ (V_keep [6] (by simp only [proj, lk, reduceIte, Nat.reduceEqDiff]; rfl) ?_)); clear hK5
      refine V_ret ?_
      refine hR _ _ (ret1 rfl rfl ?_)
      exact ⟨by rw [putE_arg (by omega)]; rfl, a, cap, mt.eq (by unfold putS; rw [putE_arg (by omega)]; rfl), MEx.refl _ _ _⟩
    · skip
      refine S_gt rfl ?_
      refine S_mv rfl ?_
      refine S_gt rfl ?_
      refine S_bin rfl rfl rfl ?_
      refine S_pf rfl rfl ?_
      refine S_mv rfl ?_
      refine S_dec (fun g36b => ?_) (fun g36b => ?_)
      · skip
        refine S_gf rfl ?_
        refine S_gf rfl ?_
        refine S_gf rfl ?_
        refine S_gf rfl ?_
        refine S_gf rfl ?_
        refine S_pt rfl rfl ?_
        refine S_nil (hK3 _ _ (V_keep [0, 1, 2, 24] (by simp only [proj, lk, reduceIte, Nat.reduceEqDiff]; rfl) ?_)); clear hK3
        refine V_condt rfl ?_
        refine V_sr T.mix (by kernel_rfl) (fun K6 hK6 => ?_)
        refine S_as rfl ?_
        refine S_nil (hK6 _ _ (V_keep [6] (by simp only [proj, lk, reduceIte, Nat.reduceEqDiff]; rfl) ?_)); clear hK6
        refine V_ret ?_
        refine hR _ _ (ret1 rfl rfl ?_)
        exact ⟨by rw [putE_arg (by omega)]; rfl, a, cap, mt.eq (by unfold putS; rw [putE_arg (by omega)]; rfl), MEx.refl _ _ _⟩
      · skip
        refine S_gt rfl ?_
        refine S_mv rfl ?_
        refine S_gt rfl ?_
        refine S_mv rfl ?_
        refine S_gt rfl ?_
        first | refine S_cvn T.us3 T.in105 rfl rfl (by first | omega | (simp only [IntKind.bits]; omega)) ?_ | refine S_cvu T.us3 T.in105 rfl (by omega) (by omega) ?_ | refine S_cv T.us3 T.in105 rfl ?_
        refine S_gt rfl ?_
        refine S_nshr v.toNat k.toNat _ rfl rfl (by omega) (by omega) rfl (show k.toNat ≤ 64 by omega) ?_
        refine S_gt rfl ?_
        refine S_bin rfl rfl rfl ?_
        refine S_pf rfl rfl ?_
        refine S_nil (hK3 _ _ (V_keep [0, 1, 2, 24] (by simp only [proj, lk, reduceIte, Nat.reduceEqDiff]; rfl) ?_)); clear hK3
        refine V_condp rfl (fun c36 => ?_) (fun c36 => ?_)
        · skip
          refine V_sr T.mix (by kernel_rfl) (fun K7 hK7 => ?_)
          refine S_as rfl ?_
          refine S_nil (hK7 _ _ (V_keep [6] (by simp only [proj, lk, reduceIte, Nat.reduceEqDiff]; rfl) ?_)); clear hK7
          refine V_ret ?_
          refine hR _ _ (ret1 rfl rfl ?_)
          exact ⟨by rw [putE_arg (by omega)]; rfl, a, cap, mt.eq (by unfold putS; rw [putE_arg (by omega)]; rfl), MEx.refl _ _ _⟩
        · skip
          obtain ⟨hvk, hpe⟩ := putE_in (n := s.n) (v := v) (k := k) (by omega) (by omega) (by omega) (by omega)
          have hv16 := (put_w (n := 0) hvk (by omega)).1
          refine V_skipk [0, 1, 2] (by simp only [proj, lk, reduceIte, Nat.reduceEqDiff]; rfl) ?_
          refine hK2 _ _ ?_; clear hK2
          refine V_seq (fun K8 hK8 => ?_)
          refine V_sr T.mix (by kernel_rfl) (fun K9 hK9 => ?_)
          refine S_mv rfl ?_
          refine S_nc rfl ?_
          first | refine S_fa0 T.f184_0 rfl ?_ | refine S_fa T.f184_0 rfl ?_
          refine S_ldK T.ag55 rfl (fun K' hK' => ?_)
          simp (disch := omega) only [m0, m1, oP_some, Nat.add_zero]
          refine hK' _ ?_; clear hK' K'
          refine S_lenl T.el55 rfl ?_
          refine S_mv rfl ?_
          first | refine S_add rfl rfl (by omega) (by omega) ?_ | refine S_bin rfl rfl rfl ?_
          refine S_bin rfl rfl rfl ?_
          refine S_nil (hK9 _ _ (V_keep [0, 1, 2, 32] (by simp only [proj, lk, reduceIte, Nat.reduceEqDiff]; rfl) ?_)); clear hK9
          refine V_condp rfl (fun c39 => ?_) (fun c39 => ?_)
          · skip
            refine V_sr T.mix (by kernel_rfl) (fun K10 hK10 => ?_)
            refine S_as rfl ?_
            refine S_nil (hK10 _ _ (V_keep [6] (by simp only [proj, lk, reduceIte, Nat.reduceEqDiff]; rfl) ?_)); clear hK10
            refine V_ret ?_
            refine hR _ _ (ret1 rfl rfl ?_)
            rw [if_pos (by omega)] at hpe
            exact ⟨by rw [hpe]; rfl, a, cap, mt.eq (by unfold putS; rw [hpe]; rfl), MEx.refl _ _ _⟩
          · skip
            refine V_skipk [0, 1, 2] (by simp only [proj, lk, reduceIte, Nat.reduceEqDiff]; rfl) ?_
            refine hK8 _ _ ?_; clear hK8
            refine V_seq (fun K11 hK11 => ?_)
            refine V_sr T.mix (by kernel_rfl) (fun K12 hK12 => ?_)
            refine S_as rfl ?_
            refine S_nil (hK12 _ _ (V_keep [0, 1, 2, 7] (by simp only [proj, lk, reduceIte, Nat.reduceEqDiff]; rfl) ?_)); clear hK12
            refine V_block ?_
            refine V_loop (fun m l h' => ∃ (i : Nat) (hk : Heap) (ak : Option Addr) (ck : Nat), ((i : Int) ≤ k) ∧ (B hk M #[.slice ak (s.n + i) ck, .int .i64 (s.p : Int)] 184) ∧ (OwnR 0 hk ak (s.n + i) ck (bitsL s.N s.n ++ bitsL v.toNat i) 5 1) ∧ (blkA ak ≠ some M) ∧ (MEx M h hk a ak) ∧ m = k.toNat - i ∧ l = [(0, .pointer (some ⟨M, 0, none⟩)), (1, .int .i64 v), (2, .int .i64 k), (7, .int .i64 (i : Int))] ∧ hk = h') _ ⟨0, h, a, cap, by omega, mt.t, by rw [bitsL_zero, List.append_nil]; exact mt.bb, hne, MEx.refl _ _ _, rfl, rfl, rfl⟩ ?_
            rintro m l h' ⟨i, hk, ak, ck, hi, hTk, hOk, hNk, hXk, rfl, rfl, rfl⟩ K13 hK13
            clear m0 mok
            have m0 : cellH hk ⟨M, 0, none⟩ = some (.slice ak (s.n + i) ck) := hTk.cell 0
            refine V_seq (fun K14 hK14 => ?_)
            refine V_sr T.mix (by kernel_rfl) (fun K15 hK15 => ?_)
            refine S_mv rfl ?_
            refine S_mv rfl ?_
            refine S_bin rfl rfl rfl ?_
            refine S_nil (hK15 _ _ (V_keep [0, 1, 2, 7, 35] (by simp only [proj, lk, reduceIte, Nat.reduceEqDiff]; rfl) ?_)); clear hK15
            refine V_condp rfl (fun c42 => ?_) (fun c42 => ?_)
            · skip
              refine V_skipk [0, 1, 2, 7] (by simp only [proj, lk, reduceIte, Nat.reduceEqDiff]; rfl) ?_
              refine hK14 _ _ ?_; clear hK14
              refine V_seq (fun K16 hK16 => ?_)
              refine V_block ?_
              refine V_reg T.mix (by kernel_rfl) ?_
              refine S_mv rfl ?_
              refine S_mv rfl ?_
              refine S_nc rfl ?_
              first | refine S_fa0 T.f184_0 rfl ?_ | refine S_fa T.f184_0 rfl ?_
              refine S_ldK T.ag55 rfl (fun K' hK' => ?_)
              simp (disch := omega) only [m0, m1, oP_some, Nat.add_zero]
              refine hK' _ ?_; clear hK' K'
              refine S_mv rfl ?_
              refine S_mv rfl ?_
              first | refine S_cvn T.us3 T.in105 rfl rfl (by first | omega | (simp only [IntKind.bits]; omega)) ?_ | refine S_cvu T.us3 T.in105 rfl (by omega) (by omega) ?_ | refine S_cv T.us3 T.in105 rfl ?_
              refine S_nshr v.toNat i _ rfl rfl (by omega) rfl rfl (show i ≤ 64 by omega) ?_
              refine S_nand (v.toNat / 2 ^ i) 1 (bitN v.toNat i) rfl rfl rfl rfl (by rw [Nat.and_one_is_mod, bitN_eq]) (top_i64 (Nat.lt_of_le_of_lt (Nat.div_le_self _ _) (by omega))) (top_i64 (by decide)) ?_
              refine S_cvN (bitN v.toNat i) T.us3 T.in5 rfl rfl (top_u8 (by have := bitN_lt v.toNat i; omega)) ?_
              refine S_bs T.ei55 rfl (by decide) (by decide) (T.bs55_1_0 _) ?_
              refine S_appx (lo := 0) T.ei55 T.ni55 T.us55 rfl rfl rfl (OwnR.ext hOk (Ext.push (fun _ => False) _ _) (fun _ _ f => f)) (Nat.zero_le _) (cellsH_new _ _ _) rfl (by omega) (by decide) (by decide) rfl (fun a1 c1 h4 ho1 hE4 hb1 => ?_)
              have hE5 : Ext (fun b => blkA ak = some b) hk h4 := (Ext.push _ _ _).trans hE4
              have hb2 : blkA a1 = blkA ak ∨ ∃ b, blkA a1 = some b ∧ hk.size ≤ b := by rcases hb1 with x | x; (exact .inl x); (exact .inr ⟨_, x, by simp⟩)
              have hT4 := hTk.ext hE5 hNk
              have hN4 : blkA a1 ≠ some M := fun e => by rcases hb2 with x | ⟨c, x, y⟩; (exact hNk (x ▸ e)); (rw [x] at e; have := hTk.lt; cases e; omega)
              have hX4 := hXk.app hE5 hb2
              have mok : ∀ j, j < 2 → okPut h4 ⟨M, j, none⟩ = true := fun j hj => hT4.ok (by simpa using hj)
              refine S_nc rfl ?_
              first | refine S_fa0 T.f184_0 rfl ?_ | refine S_fa T.f184_0 rfl ?_
              refine S_st T.sz55 rfl rfl rfl rfl (by simp (disch := omega) only [mok]) ?_
              generalize hh : putH _ _ _ = h5
              have hT5 : B h5 M #[.slice a1 (s.n + i + 1) c1, .int .i64 (s.p : Int)] 184 := by rw [← hh]; exact hT4.put 0 _
              have hE6 : Ext (fun x => x = M) h4 h5 := by rw [← hh]; exact Ext.put _ _ rfl
              clear hh
              have hO5 := OwnR.ext ho1 hE6 (fun b hb e => hN4 (by rw [hb, ← e]; rfl))
              have hX5 : MEx M h h5 a a1 := hX4.trans ⟨hE6.mono fun _ e => .inl e, fun _ hb => .inl hb⟩
              refine S_nilk [0, 1, 2, 7] (by simp only [proj, lk, reduceIte, Nat.reduceEqDiff]; rfl) ?_
              refine hK16 _ _ ?_; clear hK16
              refine V_reg T.mix (by kernel_rfl) ?_
              refine S_mv rfl ?_
              first | refine S_add rfl rfl (by omega) (by omega) ?_ | refine S_bin rfl rfl rfl ?_
              refine S_as rfl ?_
              refine S_nilk [0, 1, 2, 7] (by simp only [proj, lk, reduceIte, Nat.reduceEqDiff]; rfl) ?_
              exact hK13 _ _ ⟨_, by omega, i + 1, h5, a1, c1, by omega, hT5, by rw [bitsL_succ, ← List.append_assoc]; exact hO5, hN4, hX5, rfl, rfl, rfl⟩
            · skip
              refine V_exitk [] rfl (by simp only [proj, lk, reduceIte, Nat.reduceEqDiff]; rfl) ?_
              refine hK11 _ _ ?_; clear hK11
              refine V_sr T.mix (by kernel_rfl) (fun K17 hK17 => ?_)
              refine S_as rfl ?_
              refine S_nil (hK17 _ _ (V_keep [6] (by simp only [proj, lk, reduceIte, Nat.reduceEqDiff]; rfl) ?_)); clear hK17
              refine V_ret ?_
              refine hR _ _ (ret1 rfl rfl ?_)
              rw [if_neg (by omega)] at hpe
              have hik : i = k.toNat := by omega
              subst hik
              have hok := mt.ok.put v k
              have hps : putS s v k = ⟨putN s.N v.toNat s.n, s.n + k.toNat, s.p⟩ := by unfold putS; rw [if_pos hpe]
              rw [hps] at hok ⊢
              exact ⟨by rw [hpe]; rfl, ak, ck, ⟨hTk, by simp only []; rw [bitsL_put mt.ok.1]; exact hOk, hNk, hok⟩, hXk⟩
set_option maxHeartbeats 400000 in
theorem mload_spec (h : Heap) (M : Nat) (a : Option Addr) (cap : Nat) (s : TS) (mt : MT h M a cap s) (u : ByteArray) :
    FC Tryz.prog 84 (#[.pointer (some ⟨M, 0, none⟩), .string u] : Array Value) h fun rv h' => rv = .int .i64 ((loadE u : Nat) : Int) ∧ ∃ a' cap', MT h' M a' cap' (loadS s u) ∧ MEx M h h' a a' := by
  have m0 := mt.c0
  have m1 := mt.c1
  have ok2 := mt.ok.2.1
  have ok3 := mt.ok.2.2
  have hne := mt.ne
  have mok : ∀ j, j < 2 → okPut h ⟨M, j, none⟩ = true := fun j hj => mt.t.ok (by simpa using hj)
  refine FC_of [(0, .pointer (some ⟨M, 0, none⟩)), (1, .string u)] Tryz.func84 rfl Tryz.ntmps84 (by simp) rfl (fun R hR => ?_)
  refine V_sr T.mix (by kernel_rfl) (fun K1 hK1 => ?_)
  refine S_as rfl ?_
  refine S_nil (hK1 _ _ (V_keep [0, 1] (by simp only [proj, lk, reduceIte, Nat.reduceEqDiff]; rfl) ?_)); clear hK1
  refine V_seq (fun K2 hK2 => ?_)
  refine V_sr T.mix (by kernel_rfl) (fun K3 hK3 => ?_)
  refine S_mv rfl ?_
  refine S_lens T.kd9 rfl ?_
  refine S_bin rfl rfl rfl ?_
  refine S_nil (hK3 _ _ (V_keep [0, 1, 8] (by simp only [proj, lk, reduceIte, Nat.reduceEqDiff]; rfl) ?_)); clear hK3
  refine V_condp rfl (fun c25 => ?_) (fun c25 => ?_)
  · skip
    refine V_sr T.mix (by kernel_rfl) (fun K4 hK4 => ?_)
    refine S_as rfl ?_
    refine S_nil (hK4 _ _ (V_keep [4] (by simp only [proj, lk, reduceIte, Nat.reduceEqDiff]; rfl) ?_)); clear hK4
    refine V_ret ?_
    refine hR _ _ (ret1 rfl rfl ?_)
    have e1 : loadE u = 1 := by unfold loadE; rw [if_pos (by omega)]
    exact ⟨by rw [e1]; rfl, a, cap, mt.eq (by unfold loadS; rw [e1]; rfl), MEx.refl _ _ _⟩
  · skip
    refine V_skipk [0, 1] (by simp only [proj, lk, reduceIte, Nat.reduceEqDiff]; rfl) ?_
    refine hK2 _ _ ?_; clear hK2
    refine V_sr T.mix (by kernel_rfl) (fun K5 hK5 => ?_)
    refine S_mv rfl ?_
    refine S_call T.hb117 rfl ?_
    refine FC.mono (mreset_spec h M a cap s mt) ?_
    rintro v h1 ⟨rfl, a1, c1, mt1, hX1⟩
    refine S_nil (hK5 _ _ (V_keep [0, 1] (by simp only [proj, lk, reduceIte, Nat.reduceEqDiff]; rfl) ?_)); clear hK5
    refine V_seq (fun K6 hK6 => ?_)
    refine V_sr T.mix (by kernel_rfl) (fun K7 hK7 => ?_)
    refine S_as rfl ?_
    refine S_nil (hK7 _ _ (V_keep [0, 1, 5] (by simp only [proj, lk, reduceIte, Nat.reduceEqDiff]; rfl) ?_)); clear hK7
    refine V_block ?_
    refine V_loop (fun m l h' => ∃ (i : Nat) (hk : Heap) (ak : Option Addr) (ck : Nat), (i ≤ u.size) ∧ (MT hk M ak ck ⟨numF (bAt u) i, 8 * i, 0⟩) ∧ (MEx M h hk a ak) ∧ m = u.size - i ∧ l = [(0, .pointer (some ⟨M, 0, none⟩)), (1, .string u), (5, .int .i64 (i : Int))] ∧ hk = h') _ ⟨0, h1, a1, c1, by omega, mt1, hX1, rfl, rfl, rfl⟩ ?_
    rintro m l h' ⟨i, hk, ak, ck, hi, mk, hXk, rfl, rfl, rfl⟩ K8 hK8
    refine V_seq (fun K9 hK9 => ?_)
    refine V_sr T.mix (by kernel_rfl) (fun K10 hK10 => ?_)
    refine S_mv rfl ?_
    refine S_mv rfl ?_
    refine S_lens T.kd9 rfl ?_
    refine S_bin rfl rfl rfl ?_
    refine S_nil (hK10 _ _ (V_keep [0, 1, 5, 14] (by simp only [proj, lk, reduceIte, Nat.reduceEqDiff]; rfl) ?_)); clear hK10
    refine V_condp rfl (fun c29 => ?_) (fun c29 => ?_)
    · skip
      refine V_skipk [0, 1, 5] (by simp only [proj, lk, reduceIte, Nat.reduceEqDiff]; rfl) ?_
      refine hK9 _ _ ?_; clear hK9
      refine V_seq (fun K11 hK11 => ?_)
      refine V_block ?_
      refine V_reg T.mix (by kernel_rfl) ?_
      refine S_mv rfl ?_
      refine S_mv rfl ?_
      refine S_mv rfl ?_
      refine S_siN i T.kd9 rfl rfl rfl (by omega) ?_
      have hub0 := bAt_lt u i
      first | refine S_cvi T.us5 T.in3 rfl (by omega) (by omega) ?_ | refine S_cv T.us5 T.in3 rfl ?_
      refine S_call T.hb109 rfl ?_
      have hub := bAt_lt u i
      refine FC.mono (mput_spec hk M ak ck _ mk ((bAt u i : Nat) : Int) 8) ?_
      rintro v h2 ⟨rfl, a2, c2, mt2, hX2⟩
      rw [load_step (by omega) (by omega)] at mt2
      refine S_nilk [0, 1, 5] (by simp only [proj, lk, reduceIte, Nat.reduceEqDiff]; rfl) ?_
      refine hK11 _ _ ?_; clear hK11
      refine V_reg T.mix (by kernel_rfl) ?_
      refine S_mv rfl ?_
      first | refine S_add rfl rfl (by omega) (by omega) ?_ | refine S_bin rfl rfl rfl ?_
      refine S_as rfl ?_
      refine S_nilk [0, 1, 5] (by simp only [proj, lk, reduceIte, Nat.reduceEqDiff]; rfl) ?_
      exact hK8 _ _ ⟨_, by omega, i + 1, h2, a2, c2, by omega, mt2, hXk.trans hX2, rfl, rfl, rfl⟩
    · skip
      refine V_exitk [] rfl (by simp only [proj, lk, reduceIte, Nat.reduceEqDiff]; rfl) ?_
      refine hK6 _ _ ?_; clear hK6
      refine V_sr T.mix (by kernel_rfl) (fun K12 hK12 => ?_)
      refine S_as rfl ?_
      refine S_nil (hK12 _ _ (V_keep [4] (by simp only [proj, lk, reduceIte, Nat.reduceEqDiff]; rfl) ?_)); clear hK12
      refine V_ret ?_
      refine hR _ _ (ret1 rfl rfl ?_)
      have e1 : loadE u = 0 := by unfold loadE; rw [if_neg (by omega)]
      have hiu : i = u.size := by omega
      subst hiu
      exact ⟨by rw [e1]; rfl, ak, ck, mk.eq (by unfold loadS; rw [if_pos e1]; rfl), hXk⟩
set_option maxHeartbeats 400000 in
theorem mpad_spec (h : Heap) (M : Nat) (a : Option Addr) (cap : Nat) (s : TS) (mt : MT h M a cap s) :
    FC Tryz.prog 110 (#[.pointer (some ⟨M, 0, none⟩)] : Array Value) h fun rv h' => rv = .tuple #[] ∧ ∃ a' cap', MT h' M a' cap' (padS s) ∧ MEx M h h' a a' := by
  have m0 := mt.c0
  have m1 := mt.c1
  have ok2 := mt.ok.2.1
  have ok3 := mt.ok.2.2
  have hne := mt.ne
  have mok : ∀ j, j < 2 → okPut h ⟨M, j, none⟩ = true := fun j hj => mt.t.ok (by simpa using hj)
  refine FC_of [(0, .pointer (some ⟨M, 0, none⟩))] Tryz.func110 rfl Tryz.ntmps110 (by simp) rfl (fun R hR => ?_)
  refine V_block ?_
  refine V_loop (fun m l h' => ∃ (j : Nat) (hk : Heap) (ak : Option Addr) (ck : Nat), (s.n ≤ j) ∧ (j ≤ (s.n + 7) / 8 * 8) ∧ (B hk M #[.slice ak (j) ck, .int .i64 (s.p : Int)] 184) ∧ (OwnR 0 hk ak (j) ck (bitsL s.N j) 5 1) ∧ (blkA ak ≠ some M) ∧ (MEx M h hk a ak) ∧ m = (s.n + 7) / 8 * 8 - j ∧ l = [(0, .pointer (some ⟨M, 0, none⟩))] ∧ hk = h') _ ⟨s.n, h, a, cap, by omega, by omega, mt.t, mt.bb, hne, MEx.refl _ _ _, rfl, rfl, rfl⟩ ?_
  rintro m l h' ⟨j, hk, ak, ck, hj1, hj2, hTk, hOk, hNk, hXk, rfl, rfl, rfl⟩ K1 hK1
  try clear m0 mok
  have m0 : cellH hk ⟨M, 0, none⟩ = some (.slice ak j ck) := hTk.cell 0
  refine V_seq (fun K2 hK2 => ?_)
  refine V_sr T.mix (by kernel_rfl) (fun K3 hK3 => ?_)
  refine S_mv rfl ?_
  refine S_nc rfl ?_
  first | refine S_fa0 T.f184_0 rfl ?_ | refine S_fa T.f184_0 rfl ?_
  refine S_ldK T.ag55 rfl (fun K' hK' => ?_)
  simp (disch := omega) only [m0, oP_some, Nat.add_zero]
  refine hK' _ ?_; clear hK' K'
  refine S_lenl T.el55 rfl ?_
  refine S_rem rfl rfl (by omega) (by omega) ?_
  refine S_bin rfl rfl rfl ?_
  refine S_nil (hK3 _ _ (V_keep [0, 8] (by simp only [proj, lk, reduceIte, Nat.reduceEqDiff]; rfl) ?_)); clear hK3
  refine V_condp rfl (fun c49 => ?_) (fun c49 => ?_)
  · skip
    refine V_skipk [0] (by simp only [proj, lk, reduceIte, Nat.reduceEqDiff]; rfl) ?_
    refine hK2 _ _ ?_; clear hK2
    refine V_block ?_
    refine V_reg T.mix (by kernel_rfl) ?_
    refine S_mv rfl ?_
    refine S_mv rfl ?_
    refine S_nc rfl ?_
    first | refine S_fa0 T.f184_0 rfl ?_ | refine S_fa T.f184_0 rfl ?_
    refine S_ldK T.ag55 rfl (fun K' hK' => ?_)
    simp (disch := omega) only [m0, oP_some, Nat.add_zero]
    refine hK' _ ?_; clear hK' K'
    refine S_bs T.ei55 rfl (by decide) (by decide) (T.bs55_1_0 _) ?_
    refine S_appx (lo := 0) T.ei55 T.ni55 T.us55 rfl rfl rfl (OwnR.ext hOk (Ext.push (fun _ => False) _ _) (fun _ _ f => f)) (Nat.zero_le _) (cellsH_new _ _ _) rfl (by omega) (by decide) (by decide) rfl (fun a1 c1 h4 ho1 hE4 hb1 => ?_)
    have hE5 : Ext (fun b => blkA ak = some b) hk h4 := (Ext.push _ _ _).trans hE4
    have hb2 : blkA a1 = blkA ak ∨ ∃ b, blkA a1 = some b ∧ hk.size ≤ b := by rcases hb1 with x | x; (exact .inl x); (exact .inr ⟨_, x, by simp⟩)
    have hT4 := hTk.ext hE5 hNk
    have hN4 : blkA a1 ≠ some M := fun e => by rcases hb2 with x | ⟨c, x, y⟩; (exact hNk (x ▸ e)); (rw [x] at e; have := hTk.lt; cases e; omega)
    have hX4 := hXk.app hE5 hb2
    have mok : ∀ j, j < 2 → okPut h4 ⟨M, j, none⟩ = true := fun j hj => hT4.ok (by simpa using hj)
    refine S_nc rfl ?_
    first | refine S_fa0 T.f184_0 rfl ?_ | refine S_fa T.f184_0 rfl ?_
    refine S_st T.sz55 rfl rfl rfl rfl (by simp (disch := omega) only [mok]) ?_
    generalize hh : putH _ _ _ = h5
    have hT5 : B h5 M #[.slice a1 (j + 1) c1, .int .i64 (s.p : Int)] 184 := by rw [← hh]; exact hT4.put 0 _
    have hE6 : Ext (fun x => x = M) h4 h5 := by rw [← hh]; exact Ext.put _ _ rfl
    clear hh
    have hO5 := OwnR.ext ho1 hE6 (fun b hb e => hN4 (by rw [hb, ← e]; rfl))
    have hX5 : MEx M h h5 a a1 := hX4.trans ⟨hE6.mono fun _ e => .inl e, fun _ hb => .inl hb⟩
    refine S_nilk [0] (by simp only [proj, lk, reduceIte, Nat.reduceEqDiff]; rfl) ?_
    exact hK1 _ _ ⟨_, by omega, j + 1, h5, a1, c1, by omega, by omega, hT5, by rw [bitsL_succ, show bitN s.N j = 0 by unfold bitN; rw [bitN_high mt.ok.1 hj1]; rfl]; exact hO5, hN4, hX5, rfl, rfl, rfl⟩
  · skip
    refine V_exitk [] rfl (by simp only [proj, lk, reduceIte, Nat.reduceEqDiff]; rfl) ?_
    -- end
    refine hR _ _ (ret0 rfl ?_)
    have hjj : j = (s.n + 7) / 8 * 8 := by omega
    subst hjj
    exact ⟨rfl, ak, ck, ⟨hTk, hOk, hNk, mt.ok.pad⟩, hXk⟩
set_option maxHeartbeats 400000 in
theorem mtext_spec (h : Heap) (M : Nat) (a : Option Addr) (cap : Nat) (s : TS) (mt : MT h M a cap s) :
    FC Tryz.prog 111 (#[.pointer (some ⟨M, 0, none⟩)] : Array Value) h fun v h' => v = .string (txt s.N s.n) ∧ Ext (fun _ => False) h h' := by
  have m0 := mt.c0
  have m1 := mt.c1
  have ok2 := mt.ok.2.1
  have ok3 := mt.ok.2.2
  have hne := mt.ne
  have mok : ∀ j, j < 2 → okPut h ⟨M, j, none⟩ = true := fun j hj => mt.t.ok (by simpa using hj)
  have hob := m0
  have hg := m0
  refine FC_of [(0, .pointer (some ⟨M, 0, none⟩))] Tryz.func111 rfl Tryz.ntmps111 (by simp) rfl (fun R hR => ?_)
  refine V_sr T.mix (by kernel_rfl) (fun K1 hK1 => ?_)
  refine S_as rfl ?_
  refine S_nil (hK1 _ _ (V_keep [0] (by simp only [proj, lk, reduceIte, Nat.reduceEqDiff]; rfl) ?_)); clear hK1
  refine V_sr T.mix (by kernel_rfl) (fun K2 hK2 => ?_)
  refine S_mv rfl ?_
  refine S_nc rfl ?_
  first | refine S_fa0 T.f184_0 rfl ?_ | refine S_fa T.f184_0 rfl ?_
  refine S_ldK T.ag55 rfl (fun K' hK' => ?_)
  simp (disch := omega) only [m0, hob, hg, oP_some, Nat.add_zero]
  refine hK' _ ?_; clear hK' K'
  refine S_lenl T.el55 rfl ?_
  first | refine S_add rfl rfl (by omega) (by omega) ?_ | refine S_bin rfl rfl rfl ?_
  refine S_quo rfl rfl (by omega) (by omega) (by omega) ?_
  refine S_mk T.ei55 rfl rfl (by omega) (by omega) (by omega) (by omega) ?_
  simp only [show (((s.n : Int) + 7) / 8).toNat = (s.n + 7) / 8 by omega, Nat.mul_one, mkZ_one]
  generalize hh : Array.push h _ = h1
  have hB1 : B h1 h.size (arr ((s.n + 7) / 8) fun j => .int .u8 ((byteN (s.N % 2 ^ 0) j : Nat) : Int)) 5 := by rw [← hh]; exact (B.new h _ 5).cong (arr_ext fun j _ => by rw [Nat.pow_zero, Nat.mod_one, byteN_zero]; rfl)
  have hE1 : Ext (fun _ => False) h h1 := by rw [← hh]; exact Ext.push _ _ _
  clear hh mok
  have hML := mt.t.lt
  refine S_as rfl ?_
  refine S_nil (hK2 _ _ (V_keep [0, 3] (by simp only [proj, lk, reduceIte, Nat.reduceEqDiff]; rfl) ?_)); clear hK2
  refine V_seq (fun K3 hK3 => ?_)
  refine V_sr T.mix (by kernel_rfl) (fun K4 hK4 => ?_)
  refine S_as rfl ?_
  refine S_nil (hK4 _ _ (V_keep [0, 3, 4] (by simp only [proj, lk, reduceIte, Nat.reduceEqDiff]; rfl) ?_)); clear hK4
  refine V_block ?_
  refine V_loop (fun m l h' => ∃ (i : Nat) (hk : Heap), (i ≤ s.n) ∧ (B hk h.size (arr ((s.n + 7) / 8) fun j => .int .u8 ((byteN (s.N % 2 ^ i) j : Nat) : Int)) 5) ∧ (Ext (fun _ => False) h hk) ∧ m = s.n - i ∧ l = [(0, .pointer (some ⟨M, 0, none⟩)), (3, .slice (some ⟨h.size, 0, none⟩) ((s.n + 7) / 8) ((s.n + 7) / 8)), (4, .int .i64 (i : Int))] ∧ hk = h') _ ⟨0, h1, by omega, hB1, hE1, rfl, rfl, rfl⟩ ?_
  rintro m l h' ⟨i, hk, hi, hBk, hEk, rfl, rfl, rfl⟩ K5 hK5
  clear m0 hob hg
  have mk := mt.ext hEk (fun f => f) (fun _ _ f => f)
  have m0 := mk.c0
  have hob : ∀ j, j < (s.n + 7) / 8 → cellH hk ⟨h.size, j, none⟩ = some (.int .u8 ((byteN (s.N % 2 ^ i) j : Nat) : Int)) := fun j hj => hBk.cellA hj
  have mok : ∀ j, j < (s.n + 7) / 8 → okPut hk ⟨h.size, j, none⟩ = true := fun j hj => hBk.okA hj
  have hg := m0
  refine V_seq (fun K6 hK6 => ?_)
  refine V_sr T.mix (by kernel_rfl) (fun K7 hK7 => ?_)
  refine S_mv rfl ?_
  refine S_mv rfl ?_
  refine S_nc rfl ?_
  first | refine S_fa0 T.f184_0 rfl ?_ | refine S_fa T.f184_0 rfl ?_
  refine S_ldK T.ag55 rfl (fun K' hK' => ?_)
  simp (disch := omega) only [m0, hob, hg, oP_some, Nat.add_zero]
  refine hK' _ ?_; clear hK' K'
  refine S_lenl T.el55 rfl ?_
  refine S_bin rfl rfl rfl ?_
  refine S_nil (hK7 _ _ (V_keep [0, 3, 4, 19] (by simp only [proj, lk, reduceIte, Nat.reduceEqDiff]; rfl) ?_)); clear hK7
  refine V_condp rfl (fun c56 => ?_) (fun c56 => ?_)
  · skip
    clear hg
    obtain ⟨ab, rfl, hg⟩ := mk.get (by omega)
    refine V_skipk [0, 3, 4] (by simp only [proj, lk, reduceIte, Nat.reduceEqDiff]; rfl) ?_
    refine hK6 _ _ ?_; clear hK6
    refine V_seq (fun K8 hK8 => ?_)
    refine V_block ?_
    refine V_reg T.mix (by kernel_rfl) ?_
    refine S_mv rfl ?_
    refine S_mv rfl ?_
    refine S_quo rfl rfl (by omega) (by omega) (by omega) ?_
    refine S_mv rfl ?_
    refine S_mv rfl ?_
    refine S_quo rfl rfl (by omega) (by omega) (by omega) ?_
    refine S_ixN (i / 8) T.el55 rfl rfl (by omega) (by omega) ?_
    refine S_ldK T.ag5 rfl (fun K' hK' => ?_)
    simp (disch := omega) only [m0, hob, hg, oP_some, Nat.add_zero]
    refine hK' _ ?_; clear hK' K'
    refine S_mv rfl ?_
    refine S_nc rfl ?_
    first | refine S_fa0 T.f184_0 rfl ?_ | refine S_fa T.f184_0 rfl ?_
    refine S_ldK T.ag55 rfl (fun K' hK' => ?_)
    simp (disch := omega) only [m0, hob, hg, oP_some, Nat.add_zero]
    refine hK' _ ?_; clear hK' K'
    refine S_mv rfl ?_
    first | refine S_ixn T.el55 rfl rfl (by omega) ?_ | refine S_ix1 T.el55 rfl rfl (by omega) (by omega) ?_ | refine S_ix T.el55 rfl rfl (by omega) (by omega) ?_
    refine S_ldK T.ag5 rfl (fun K' hK' => ?_)
    simp (disch := omega) only [m0, hob, hg, oP_some, Nat.add_zero]
    refine hK' _ ?_; clear hK' K'
    refine S_mv rfl ?_
    refine S_rem rfl rfl (by omega) (by omega) ?_
    first | refine S_cvn T.us3 T.in105 rfl rfl (by first | omega | (simp only [IntKind.bits]; omega)) ?_ | refine S_cvu T.us3 T.in105 rfl (by omega) (by omega) ?_ | refine S_cv T.us3 T.in105 rfl ?_
    refine S_nshl (bitN s.N i) (i % 8) _ rfl rfl rfl (by omega) rfl (show i % 8 ≤ 8 by omega) (top_u8 (bit_sh _ _)) ?_
    refine S_nor (byteN (s.N % 2 ^ i) (i / 8)) (bitN s.N i * 2 ^ (i % 8)) (byteN (s.N % 2 ^ (i + 1)) (i / 8)) rfl rfl rfl rfl (step_byte _ _).symm (top_u8 (byteN_lt _ _)) (top_u8 (bit_sh _ _)) ?_
    refine S_ixN (i / 8) T.el55 rfl rfl (by omega) (by omega) ?_
    refine S_st T.sz5 rfl rfl rfl rfl (by simp (disch := omega) only [mok]) ?_
    generalize hh : putH _ _ _ = h2
    have hB2 : B h2 h.size (arr ((s.n + 7) / 8) fun j => .int .u8 ((byteN (s.N % 2 ^ (i + 1)) j : Nat) : Int)) 5 := by rw [← hh]; exact (hBk.putA (i / 8) _).cong (arr_ext fun j _ => by
      by_cases e : j = i / 8
      · rw [if_pos e, e]
      · rw [if_neg e, step_byte_ne e])
    have hE2 : Ext (fun _ => False) h h2 := by rw [← hh]; exact hEk.putn (Nat.le_refl _)
    clear hh
    refine S_nilk [0, 3, 4] (by simp only [proj, lk, reduceIte, Nat.reduceEqDiff]; rfl) ?_
    refine hK8 _ _ ?_; clear hK8
    refine V_reg T.mix (by kernel_rfl) ?_
    refine S_mv rfl ?_
    first | refine S_add rfl rfl (by omega) (by omega) ?_ | refine S_bin rfl rfl rfl ?_
    refine S_as rfl ?_
    refine S_nilk [0, 3, 4] (by simp only [proj, lk, reduceIte, Nat.reduceEqDiff]; rfl) ?_
    exact hK5 _ _ ⟨_, by omega, i + 1, h2, by omega, hB2, hE2, rfl, rfl, rfl⟩
  · skip
    refine V_exitk [3] rfl (by simp only [proj, lk, reduceIte, Nat.reduceEqDiff]; rfl) ?_
    refine hK3 _ _ ?_; clear hK3
    refine V_sr T.mix (by kernel_rfl) (fun K9 hK9 => ?_)
    refine S_mv rfl ?_
    refine S_str T.kd55 T.kd9 T.in9 rfl (srcV_u8 hBk) ?_
    refine S_as rfl ?_
    refine S_nil (hK9 _ _ (V_keep [2] (by simp only [proj, lk, reduceIte, Nat.reduceEqDiff]; rfl) ?_)); clear hK9
    refine V_ret ?_
    refine hR _ _ (ret1 rfl rfl ?_)
    have hin : i = s.n := by omega
    subst hin
    refine ⟨?_, hEk⟩
    unfold txt
    simp only [Nat.mod_eq_of_lt mt.ok.1]
set_option maxHeartbeats 400000 in
theorem mpeek_spec (h : Heap) (M : Nat) (a : Option Addr) (cap : Nat) (s : TS) (mt : MT h M a cap s) (k : Int) :
    FC Tryz.prog 118 (#[.pointer (some ⟨M, 0, none⟩), .int .i64 k] : Array Value) h fun v h' => v = .tuple #[.int .i64 ((peekV s k : Nat) : Int), .int .i64 ((gotF s k : Nat) : Int)] ∧ h = h' := by
  have m0 := mt.c0
  have m1 := mt.c1
  have ok2 := mt.ok.2.1
  have ok3 := mt.ok.2.2
  have hne := mt.ne
  have mok : ∀ j, j < 2 → okPut h ⟨M, j, none⟩ = true := fun j hj => mt.t.ok (by simpa using hj)
  have hg := m0
  refine FC_of [(0, .pointer (some ⟨M, 0, none⟩)), (1, .int .i64 k)] Tryz.func118 rfl Tryz.ntmps118 (by simp) rfl (fun R hR => ?_)
  refine V_sr T.mix (by kernel_rfl) (fun K1 hK1 => ?_)
  refine S_as rfl ?_
  refine S_as rfl ?_
  refine S_nil (hK1 _ _ (V_keep [0, 1] (by simp only [proj, lk, reduceIte, Nat.reduceEqDiff]; rfl) ?_)); clear hK1
  refine V_seq (fun K2 hK2 => ?_)
  refine V_sr T.mix (by kernel_rfl) (fun K3 hK3 => ?_)
  refine S_mv rfl ?_
  refine S_bin rfl rfl rfl ?_
  refine S_mv rfl ?_
  refine S_dec (fun g63 => ?_) (fun g63 => ?_)
  · skip
    refine S_gf rfl ?_
    refine S_gf rfl ?_
    refine S_pt rfl rfl ?_
    refine S_nil (hK3 _ _ (V_keep [0, 1, 13] (by simp only [proj, lk, reduceIte, Nat.reduceEqDiff]; rfl) ?_)); clear hK3
    refine V_condt rfl ?_
    refine V_sr T.mix (by kernel_rfl) (fun K4 hK4 => ?_)
    refine S_as rfl ?_
    refine S_as rfl ?_
    refine S_nil (hK4 _ _ (V_keep [4, 5] (by simp only [proj, lk, reduceIte, Nat.reduceEqDiff]; rfl) ?_)); clear hK4
    refine V_ret ?_
    refine hR _ _ (ret2 rfl rfl rfl ?_)
    exact ⟨by rw [peekV_out (by omega), gotF_out (by omega)]; rfl, rfl⟩
  · skip
    refine S_gt rfl ?_
    refine S_mv rfl ?_
    refine S_gt rfl ?_
    refine S_bin rfl rfl rfl ?_
    refine S_pf rfl rfl ?_
    refine S_nil (hK3 _ _ (V_keep [0, 1, 13] (by simp only [proj, lk, reduceIte, Nat.reduceEqDiff]; rfl) ?_)); clear hK3
    refine V_condp rfl (fun c63 => ?_) (fun c63 => ?_)
    · skip
      refine V_sr T.mix (by kernel_rfl) (fun K5 hK5 => ?_)
      refine S_as rfl ?_
      refine S_as rfl ?_
      refine S_nil (hK5 _ _ (V_keep [4, 5] (by simp only [proj, lk, reduceIte, Nat.reduceEqDiff]; rfl) ?_)); clear hK5
      refine V_ret ?_
      refine hR _ _ (ret2 rfl rfl rfl ?_)
      exact ⟨by rw [peekV_out (by omega), gotF_out (by omega)]; rfl, rfl⟩
    · skip
      refine V_skipk [0, 1] (by simp only [proj, lk, reduceIte, Nat.reduceEqDiff]; rfl) ?_
      refine hK2 _ _ ?_; clear hK2
      refine V_sr T.mix (by kernel_rfl) (fun K6 hK6 => ?_)
      refine S_as rfl ?_
      refine S_nil (hK6 _ _ (V_keep [0, 1, 6] (by simp only [proj, lk, reduceIte, Nat.reduceEqDiff]; rfl) ?_)); clear hK6
      refine V_sr T.mix (by kernel_rfl) (fun K7 hK7 => ?_)
      refine S_as rfl ?_
      refine S_nil (hK7 _ _ (V_keep [0, 1, 6, 7] (by simp only [proj, lk, reduceIte, Nat.reduceEqDiff]; rfl) ?_)); clear hK7
      refine V_seq (fun K8 hK8 => ?_)
      refine V_block ?_
      refine V_loop (fun m l h' => ∃ (g : Nat) (w : Nat), ((g : Int) ≤ k) ∧ (s.p + g ≤ s.n) ∧ (w = peekN s.N s.p g) ∧ m = s.n - s.p - g ∧ l = [(0, .pointer (some ⟨M, 0, none⟩)), (1, .int .i64 k), (6, .int .i64 ((w : Nat) : Int)), (7, .int .i64 (g : Int))] ∧ h = h') _ ⟨0, 0, by omega, by omega, (peekN_zero _ _).symm, rfl, rfl, rfl⟩ ?_
      rintro m l h' ⟨g, w, hg1, hg2, hw, rfl, rfl, rfl⟩ K9 hK9
      refine V_seq (fun K10 hK10 => ?_)
      refine V_sr T.mix (by kernel_rfl) (fun K11 hK11 => ?_)
      refine S_cut (K' := fun l h' => ∃ b : Bool, (b = true ↔ ((g : Int) < k ∧ s.p + g < s.n)) ∧ l = [(0, .pointer (some ⟨M, 0, none⟩)), (1, .int .i64 k), (6, .int .i64 ((w : Nat) : Int)), (7, .int .i64 (g : Int)), (30, .bool b)] ∧ h = h') ?_ ?_
      · skip
        refine S_mv rfl ?_
        refine S_mv rfl ?_
        refine S_bin rfl rfl rfl ?_
        refine S_mv rfl ?_
        refine S_dec (fun g68 => ?_) (fun g68 => ?_)
        · skip
          refine S_gt rfl ?_
          refine S_mv rfl ?_
          refine S_gt rfl ?_
          refine S_nc rfl ?_
          refine S_gt rfl ?_
          first | refine S_fa0 T.f184_1 rfl ?_ | refine S_fa T.f184_1 rfl ?_
          refine S_gt rfl ?_
          refine S_ldK T.ag3 rfl (fun K' hK' => ?_)
          simp (disch := omega) only [m0, m1, hg, oP_some, Nat.add_zero]
          refine hK' _ ?_; clear hK' K'
          refine S_gt rfl ?_
          refine S_mv rfl ?_
          refine S_gt rfl ?_
          first | refine S_add rfl rfl (by omega) (by omega) ?_ | refine S_bin rfl rfl rfl ?_
          refine S_gt rfl ?_
          refine S_mv rfl ?_
          refine S_gt rfl ?_
          refine S_nc rfl ?_
          refine S_gt rfl ?_
          first | refine S_fa0 T.f184_0 rfl ?_ | refine S_fa T.f184_0 rfl ?_
          refine S_gt rfl ?_
          refine S_ldK T.ag55 rfl (fun K' hK' => ?_)
          simp (disch := omega) only [m0, m1, hg, oP_some, Nat.add_zero]
          refine hK' _ ?_; clear hK' K'
          refine S_gt rfl ?_
          refine S_lenl T.el55 rfl ?_
          refine S_gt rfl ?_
          refine S_bin rfl rfl rfl ?_
          refine S_pt rfl rfl ?_
          exact S_nilk [0, 1, 6, 7, 30] (by simp only [proj, lk, reduceIte, Nat.reduceEqDiff]; rfl) ⟨_, (by first | (simp [*]; done) | (simp; omega)), rfl, rfl⟩
        · skip
          refine S_gf rfl ?_
          refine S_gf rfl ?_
          refine S_gf rfl ?_
          refine S_gf rfl ?_
          refine S_gf rfl ?_
          refine S_gf rfl ?_
          refine S_gf rfl ?_
          refine S_gf rfl ?_
          refine S_gf rfl ?_
          refine S_gf rfl ?_
          refine S_gf rfl ?_
          refine S_gf rfl ?_
          refine S_pf rfl rfl ?_
          exact S_nilk [0, 1, 6, 7, 30] (by simp only [proj, lk, reduceIte, Nat.reduceEqDiff]; rfl) ⟨_, (by first | (simp [*]; done) | (simp; omega)), rfl, rfl⟩
      rintro l h' ⟨b, hb68, rfl, rfl⟩
      refine hK11 _ _ ?_; clear hK11
      refine V_condb rfl (fun c68 => ?_) (fun c68 => ?_)
      · replace c68 := hb68.1 c68
        clear hg
        obtain ⟨ab, rfl, hg⟩ := mt.get (by omega)
        have hbl := bitN_lt s.N (s.p + g)
        refine V_skipk [0, 1, 6, 7] (by simp only [proj, lk, reduceIte, Nat.reduceEqDiff]; rfl) ?_
        refine hK10 _ _ ?_; clear hK10
        refine V_block ?_
        refine V_sr T.mix (by kernel_rfl) (fun K13 hK13 => ?_)
        refine S_mv rfl ?_
        refine S_mv rfl ?_
        refine S_nc rfl ?_
        first | refine S_fa0 T.f184_0 rfl ?_ | refine S_fa T.f184_0 rfl ?_
        refine S_ldK T.ag55 rfl (fun K' hK' => ?_)
        simp (disch := omega) only [m0, m1, hg, oP_some, Nat.add_zero]
        refine hK' _ ?_; clear hK' K'
        refine S_mv rfl ?_
        refine S_nc rfl ?_
        first | refine S_fa0 T.f184_1 rfl ?_ | refine S_fa T.f184_1 rfl ?_
        refine S_ldK T.ag3 rfl (fun K' hK' => ?_)
        simp (disch := omega) only [m0, m1, hg, oP_some, Nat.add_zero]
        refine hK' _ ?_; clear hK' K'
        refine S_mv rfl ?_
        refine S_addN (s.p + g) rfl rfl (by omega) (by omega) ?_
        first | refine S_ixn T.el55 rfl rfl (by omega) ?_ | refine S_ix1 T.el55 rfl rfl (by omega) (by omega) ?_ | refine S_ix T.el55 rfl rfl (by omega) (by omega) ?_
        refine S_ldK T.ag5 rfl (fun K' hK' => ?_)
        simp (disch := omega) only [m0, m1, hg, oP_some, Nat.add_zero]
        refine hK' _ ?_; clear hK' K'
        first | refine S_cvi T.us5 T.in3 rfl (by omega) (by omega) ?_ | refine S_cv T.us5 T.in3 rfl ?_
        refine S_mv rfl ?_
        first | refine S_cvn T.us3 T.in105 rfl rfl (by first | omega | (simp only [IntKind.bits]; omega)) ?_ | refine S_cvu T.us3 T.in105 rfl (by omega) (by omega) ?_ | refine S_cv T.us3 T.in105 rfl ?_
        refine S_nshl (bitN s.N (s.p + g)) g _ rfl rfl rfl rfl rfl (show g ≤ 64 by omega) (top_i64 (by have := bit_sh2 (N := s.N) (i := s.p + g) (g := g) (by omega); omega)) ?_
        subst hw
        refine S_nor (peekN s.N s.p g) (bitN s.N (s.p + g) * 2 ^ g) (peekN s.N s.p (g + 1)) rfl rfl rfl rfl (peekN_succ _ _ _).symm (top_i64 (by have := peekN_16 (N := s.N) (i := s.p) (g := g) (by omega); omega)) (top_i64 (by have := bit_sh2 (N := s.N) (i := s.p + g) (g := g) (by omega); omega)) ?_
        refine S_as rfl ?_
        refine S_nil (hK13 _ _ (V_keep [0, 1, 6, 7] (by simp only [proj, lk, reduceIte, Nat.reduceEqDiff]; rfl) ?_)); clear hK13
        refine V_reg T.mix (by kernel_rfl) ?_
        refine S_mv rfl ?_
        first | refine S_add rfl rfl (by omega) (by omega) ?_ | refine S_bin rfl rfl rfl ?_
        refine S_as rfl ?_
        refine S_nilk [0, 1, 6, 7] (by simp only [proj, lk, reduceIte, Nat.reduceEqDiff]; rfl) ?_
        exact hK9 _ _ ⟨_, by omega, g + 1, _, by omega, by omega, rfl, rfl, rfl, rfl⟩
      · replace c68 : ¬ _ := fun hp => Bool.false_ne_true (c68.symm.trans (hb68.2 hp))
        refine V_exitk [6, 7] rfl (by simp only [proj, lk, reduceIte, Nat.reduceEqDiff]; rfl) ?_
        refine hK8 _ _ ?_; clear hK8
        refine V_sr T.mix (by kernel_rfl) (fun K14 hK14 => ?_)
        refine S_mv rfl ?_
        refine S_mv rfl ?_
        refine S_as rfl ?_
        refine S_as rfl ?_
        refine S_nil (hK14 _ _ (V_keep [4, 5] (by simp only [proj, lk, reduceIte, Nat.reduceEqDiff]; rfl) ?_)); clear hK14
        refine V_ret ?_
        refine hR _ _ (ret2 rfl rfl rfl ?_)
        have hgg : gotF s k = g := by rw [gotF_in (by omega)]; omega
        exact ⟨by unfold peekV; rw [hgg, hw], rfl⟩
set_option maxHeartbeats 400000 in
theorem mskip_spec (h : Heap) (M : Nat) (a : Option Addr) (cap : Nat) (s : TS) (mt : MT h M a cap s) (k : Int) :
    FC Tryz.prog 119 (#[.pointer (some ⟨M, 0, none⟩), .int .i64 k] : Array Value) h fun rv h' => rv = .int .i64 ((skipE s k : Nat) : Int) ∧ ∃ a' cap', MT h' M a' cap' (skipS s k) ∧ MEx M h h' a a' := by
  have m0 := mt.c0
  have m1 := mt.c1
  have ok2 := mt.ok.2.1
  have ok3 := mt.ok.2.2
  have hne := mt.ne
  have mok : ∀ j, j < 2 → okPut h ⟨M, j, none⟩ = true := fun j hj => mt.t.ok (by simpa using hj)
  refine FC_of [(0, .pointer (some ⟨M, 0, none⟩)), (1, .int .i64 k)] Tryz.func119 rfl Tryz.ntmps119 (by simp) rfl (fun R hR => ?_)
  refine V_sr T.mix (by kernel_rfl) (fun K1 hK1 => ?_)
  refine S_as rfl ?_
  refine S_nil (hK1 _ _ (V_keep [0, 1] (by simp only [proj, lk, reduceIte, Nat.reduceEqDiff]; rfl) ?_)); clear hK1
  refine V_seq (fun K2 hK2 => ?_)
  refine V_sr T.mix (by kernel_rfl) (fun K3 hK3 => ?_)
  refine S_mv rfl ?_
  refine S_bin rfl rfl rfl ?_
  refine S_mv rfl ?_
  refine S_dec (fun g76 => ?_) (fun g76 => ?_)
  · skip
    refine S_gf rfl ?_
    refine S_gf rfl ?_
    refine S_pt rfl rfl ?_
    refine S_nil (hK3 _ _ (V_keep [0, 1, 10] (by simp only [proj, lk, reduceIte, Nat.reduceEqDiff]; rfl) ?_)); clear hK3
    refine V_condt rfl ?_
    refine V_sr T.mix (by kernel_rfl) (fun K4 hK4 => ?_)
    refine S_as rfl ?_
    refine S_nil (hK4 _ _ (V_keep [4] (by simp only [proj, lk, reduceIte, Nat.reduceEqDiff]; rfl) ?_)); clear hK4
    refine V_ret ?_
    refine hR _ _ (ret1 rfl rfl ?_)
    exact ⟨by rw [skipE_arg (by omega)]; rfl, a, cap, mt.eq (skipS_ne (by rw [skipE_arg (by omega)]; omega)).symm, MEx.refl _ _ _⟩
  · skip
    refine S_gt rfl ?_
    refine S_mv rfl ?_
    refine S_gt rfl ?_
    refine S_bin rfl rfl rfl ?_
    refine S_pf rfl rfl ?_
    refine S_nil (hK3 _ _ (V_keep [0, 1, 10] (by simp only [proj, lk, reduceIte, Nat.reduceEqDiff]; rfl) ?_)); clear hK3
    refine V_condp rfl (fun c76 => ?_) (fun c76 => ?_)
    · skip
      refine V_sr T.mix (by kernel_rfl) (fun K5 hK5 => ?_)
      refine S_as rfl ?_
      refine S_nil (hK5 _ _ (V_keep [4] (by simp only [proj, lk, reduceIte, Nat.reduceEqDiff]; rfl) ?_)); clear hK5
      refine V_ret ?_
      refine hR _ _ (ret1 rfl rfl ?_)
      exact ⟨by rw [skipE_arg (by omega)]; rfl, a, cap, mt.eq (skipS_ne (by rw [skipE_arg (by omega)]; omega)).symm, MEx.refl _ _ _⟩
    · skip
      refine V_skipk [0, 1] (by simp only [proj, lk, reduceIte, Nat.reduceEqDiff]; rfl) ?_
      refine hK2 _ _ ?_; clear hK2
      refine V_seq (fun K6 hK6 => ?_)
      refine V_sr T.mix (by kernel_rfl) (fun K7 hK7 => ?_)
      refine S_mv rfl ?_
      refine S_nc rfl ?_
      first | refine S_fa0 T.f184_1 rfl ?_ | refine S_fa T.f184_1 rfl ?_
      refine S_ldK T.ag3 rfl (fun K' hK' => ?_)
      simp (disch := omega) only [m0, m1, oP_some, Nat.add_zero]
      refine hK' _ ?_; clear hK' K'
      refine S_mv rfl ?_
      first | refine S_add rfl rfl (by omega) (by omega) ?_ | refine S_bin rfl rfl rfl ?_
      refine S_mv rfl ?_
      refine S_nc rfl ?_
      first | refine S_fa0 T.f184_0 rfl ?_ | refine S_fa T.f184_0 rfl ?_
      refine S_ldK T.ag55 rfl (fun K' hK' => ?_)
      simp (disch := omega) only [m0, m1, oP_some, Nat.add_zero]
      refine hK' _ ?_; clear hK' K'
      refine S_lenl T.el55 rfl ?_
      refine S_bin rfl rfl rfl ?_
      refine S_nil (hK7 _ _ (V_keep [0, 1, 22] (by simp only [proj, lk, reduceIte, Nat.reduceEqDiff]; rfl) ?_)); clear hK7
      refine V_condp rfl (fun c79 => ?_) (fun c79 => ?_)
      · skip
        refine V_sr T.mix (by kernel_rfl) (fun K8 hK8 => ?_)
        refine S_as rfl ?_
        refine S_nil (hK8 _ _ (V_keep [4] (by simp only [proj, lk, reduceIte, Nat.reduceEqDiff]; rfl) ?_)); clear hK8
        refine V_ret ?_
        refine hR _ _ (ret1 rfl rfl ?_)
        exact ⟨by rw [skipE_end (by omega) (by omega)]; rfl, a, cap, mt.eq (skipS_ne (by rw [skipE_end (by omega) (by omega)]; omega)).symm, MEx.refl _ _ _⟩
      · skip
        refine V_skipk [0, 1] (by simp only [proj, lk, reduceIte, Nat.reduceEqDiff]; rfl) ?_
        refine hK6 _ _ ?_; clear hK6
        refine V_sr T.mix (by kernel_rfl) (fun K9 hK9 => ?_)
        refine S_mv rfl ?_
        refine S_mv rfl ?_
        refine S_nc rfl ?_
        first | refine S_fa0 T.f184_1 rfl ?_ | refine S_fa T.f184_1 rfl ?_
        refine S_ldK T.ag3 rfl (fun K' hK' => ?_)
        simp (disch := omega) only [m0, m1, oP_some, Nat.add_zero]
        refine hK' _ ?_; clear hK' K'
        refine S_mv rfl ?_
        first | refine S_add rfl rfl (by omega) (by omega) ?_ | refine S_bin rfl rfl rfl ?_
        refine S_nc rfl ?_
        first | refine S_fa0 T.f184_1 rfl ?_ | refine S_fa T.f184_1 rfl ?_
        refine S_st T.sz3 rfl rfl rfl rfl (by simp (disch := omega) only [mok]) ?_
        generalize hh : putH _ _ _ = h1
        have hTh1 : B h1 M #[.slice a s.n cap, .int .i64 (s.p + k)] 184 := by rw [← hh]; exact mt.t.put 1 _
        have hEh1 : Ext (fun x => x = M) h h1 := by rw [← hh]; exact Ext.put _ _ rfl
        clear hh
        refine S_nil (hK9 _ _ (V_keep [] (by simp only [proj, lk, reduceIte, Nat.reduceEqDiff]; rfl) ?_)); clear hK9
        refine V_sr T.mix (by kernel_rfl) (fun K10 hK10 => ?_)
        refine S_as rfl ?_
        refine S_nil (hK10 _ _ (V_keep [4] (by simp only [proj, lk, reduceIte, Nat.reduceEqDiff]; rfl) ?_)); clear hK10
        refine V_ret ?_
        refine hR _ _ (ret1 rfl rfl ?_)
        have e1 := skipE_ok (s := s) (k := k) (by omega) (by omega)
        have hok := mt.ok.skip k
        rw [skipS_ok e1] at hok ⊢
        exact ⟨by rw [e1]; rfl, a, cap, ⟨hTh1.cong (by simp; omega), OwnR.ext mt.bb hEh1 (fun b hb e => hne (by rw [hb, ← e]; rfl)), hne, hok⟩, ⟨hEh1.mono fun _ e => .inl e, fun _ hb => .inl hb⟩⟩
set_option maxHeartbeats 400000 in
theorem mtake_spec (h : Heap) (M : Nat) (a : Option Addr) (cap : Nat) (s : TS) (mt : MT h M a cap s) (k : Int) :
    FC Tryz.prog 86 (#[.pointer (some ⟨M, 0, none⟩), .int .i64 k] : Array Value) h fun rv h' => rv = .tuple #[.int .i64 ((takeV s k : Nat) : Int), .int .i64 ((skipE s k : Nat) : Int)] ∧ ∃ a' cap', MT h' M a' cap' (skipS s k) ∧ MEx M h h' a a' := by
  have m0 := mt.c0
  have m1 := mt.c1
  have ok2 := mt.ok.2.1
  have ok3 := mt.ok.2.2
  have hne := mt.ne
  have mok : ∀ j, j < 2 → okPut h ⟨M, j, none⟩ = true := fun j hj => mt.t.ok (by simpa using hj)
  refine FC_of [(0, .pointer (some ⟨M, 0, none⟩)), (1, .int .i64 k)] Tryz.func86 rfl Tryz.ntmps86 (by simp) rfl (fun R hR => ?_)
  refine V_sr T.mix (by kernel_rfl) (fun K1 hK1 => ?_)
  refine S_as rfl ?_
  refine S_as rfl ?_
  refine S_nil (hK1 _ _ (V_keep [0, 1] (by simp only [proj, lk, reduceIte, Nat.reduceEqDiff]; rfl) ?_)); clear hK1
  refine V_sr T.mix (by kernel_rfl) (fun K2 hK2 => ?_)
  refine S_mv rfl ?_
  refine S_mv rfl ?_
  refine S_call T.hb118 rfl ?_
  refine FC.mono (mpeek_spec h M a cap s mt k) ?_
  rintro v h' ⟨rfl, rfl⟩
  refine S_mv rfl ?_
  refine S_ex rfl rfl ?_
  refine S_ex rfl rfl ?_
  refine S_as rfl ?_
  refine S_as rfl ?_
  refine S_nil (hK2 _ _ (V_keep [0, 1, 6] (by simp only [proj, lk, reduceIte, Nat.reduceEqDiff]; rfl) ?_)); clear hK2
  refine V_sr T.mix (by kernel_rfl) (fun K3 hK3 => ?_)
  refine S_mv rfl ?_
  refine S_mv rfl ?_
  refine S_call T.hb119 rfl ?_
  refine FC.mono (mskip_spec h M a cap s mt k) ?_
  rintro v h1 ⟨rfl, a1, c1, mt1, hX1⟩
  refine S_as rfl ?_
  refine S_nil (hK3 _ _ (V_keep [6, 8] (by simp only [proj, lk, reduceIte, Nat.reduceEqDiff]; rfl) ?_)); clear hK3
  refine V_seq (fun K4 hK4 => ?_)
  refine V_sr T.mix (by kernel_rfl) (fun K5 hK5 => ?_)
  refine S_mv rfl ?_
  refine S_bin rfl rfl rfl ?_
  refine S_nil (hK5 _ _ (V_keep [6, 8, 19] (by simp only [proj, lk, reduceIte, Nat.reduceEqDiff]; rfl) ?_)); clear hK5
  refine V_condp rfl (fun c89 => ?_) (fun c89 => ?_)
  · skip
    refine V_sr T.mix (by kernel_rfl) (fun K6 hK6 => ?_)
    refine S_mv rfl ?_
    refine S_as rfl ?_
    refine S_as rfl ?_
    refine S_nil (hK6 _ _ (V_keep [4, 5] (by simp only [proj, lk, reduceIte, Nat.reduceEqDiff]; rfl) ?_)); clear hK6
    refine V_ret ?_
    refine hR _ _ (ret2 rfl rfl rfl ?_)
    exact ⟨by rw [takeV_ne (by omega)]; rfl, a1, c1, mt1, hX1⟩
  · skip
    refine V_skipk [6] (by simp only [proj, lk, reduceIte, Nat.reduceEqDiff]; rfl) ?_
    refine hK4 _ _ ?_; clear hK4
    refine V_sr T.mix (by kernel_rfl) (fun K7 hK7 => ?_)
    refine S_mv rfl ?_
    refine S_as rfl ?_
    refine S_as rfl ?_
    refine S_nil (hK7 _ _ (V_keep [4, 5] (by simp only [proj, lk, reduceIte, Nat.reduceEqDiff]; rfl) ?_)); clear hK7
    refine V_ret ?_
    refine hR _ _ (ret2 rfl rfl rfl ?_)
    have e0 : skipE s k = 0 := by omega
    have hki : ¬ (k < 0 ∨ 16 < k) := fun e => by have := skipE_arg (s := s) e; omega
    have hnp : ¬ (s.n : Int) - s.p < k := fun e => by have := skipE_end hki e; omega
    have hgg : gotF s k = k.toNat := by rw [gotF_in hki]; omega
    exact ⟨by rw [e0, takeV_ok e0]; unfold peekV; rw [hgg]; rfl, a1, c1, mt1, hX1⟩
set_option maxHeartbeats 400000 in
theorem msync_spec (h : Heap) (M : Nat) (a : Option Addr) (cap : Nat) (s : TS) (mt : MT h M a cap s) :
    FC Tryz.prog 90 (#[.pointer (some ⟨M, 0, none⟩)] : Array Value) h fun rv h' => rv = .tuple #[] ∧ ∃ a' cap', MT h' M a' cap' (syncS s) ∧ MEx M h h' a a' := by
  have m0 := mt.c0
  have m1 := mt.c1
  have ok2 := mt.ok.2.1
  have ok3 := mt.ok.2.2
  have hne := mt.ne
  have mok : ∀ j, j < 2 → okPut h ⟨M, j, none⟩ = true := fun j hj => mt.t.ok (by simpa using hj)
  refine FC_of [(0, .pointer (some ⟨M, 0, none⟩))] Tryz.func90 rfl Tryz.ntmps90 (by simp) rfl (fun R hR => ?_)
  refine V_block ?_
  refine V_loop (fun m l h' => ∃ (j : Nat) (hk : Heap), (s.p ≤ j) ∧ (j ≤ s.n) ∧ (j ≤ (s.p + 7) / 8 * 8) ∧ (B hk M #[.slice a s.n cap, .int .i64 (j : Int)] 184) ∧ (Ext (fun x => x = M) h hk) ∧ m = s.n - j ∧ l = [(0, .pointer (some ⟨M, 0, none⟩))] ∧ hk = h') _ ⟨s.p, h, by omega, by omega, by omega, mt.t, Ext.refl _ _, rfl, rfl, rfl⟩ ?_
  rintro m l h' ⟨j, hk, hj1, hj2, hj3, hTk, hEk, rfl, rfl, rfl⟩ K1 hK1
  clear m0 m1 mok
  have m0 : cellH hk ⟨M, 0, none⟩ = some (.slice a s.n cap) := hTk.cell 0
  have m1 : cellH hk ⟨M, 1, none⟩ = some (.int .i64 (j : Int)) := hTk.cell 1
  have mok : ∀ j, j < 2 → okPut hk ⟨M, j, none⟩ = true := fun j hj => hTk.ok (by simpa using hj)
  refine V_seq (fun K2 hK2 => ?_)
  refine V_sr T.mix (by kernel_rfl) (fun K3 hK3 => ?_)
  refine S_cut (K' := fun l h' => ∃ b : Bool, (b = true ↔ (j % 8 ≠ 0 ∧ j < s.n)) ∧ l = [(0, .pointer (some ⟨M, 0, none⟩)), (19, .bool b)] ∧ hk = h') ?_ ?_
  · skip
    refine S_mv rfl ?_
    refine S_nc rfl ?_
    first | refine S_fa0 T.f184_1 rfl ?_ | refine S_fa T.f184_1 rfl ?_
    refine S_ldK T.ag3 rfl (fun K' hK' => ?_)
    simp (disch := omega) only [m0, m1, oP_some, Nat.add_zero]
    refine hK' _ ?_; clear hK' K'
    refine S_rem rfl rfl (by omega) (by omega) ?_
    refine S_bin rfl rfl rfl ?_
    refine S_mv rfl ?_
    refine S_dec (fun g96 => ?_) (fun g96 => ?_)
    · skip
      refine S_gt rfl ?_
      refine S_mv rfl ?_
      refine S_gt rfl ?_
      refine S_nc rfl ?_
      refine S_gt rfl ?_
      first | refine S_fa0 T.f184_1 rfl ?_ | refine S_fa T.f184_1 rfl ?_
      refine S_gt rfl ?_
      refine S_ldK T.ag3 rfl (fun K' hK' => ?_)
      simp (disch := omega) only [m0, m1, oP_some, Nat.add_zero]
      refine hK' _ ?_; clear hK' K'
      refine S_gt rfl ?_
      refine S_mv rfl ?_
      refine S_gt rfl ?_
      refine S_nc rfl ?_
      refine S_gt rfl ?_
      first | refine S_fa0 T.f184_0 rfl ?_ | refine S_fa T.f184_0 rfl ?_
      refine S_gt rfl ?_
      refine S_ldK T.ag55 rfl (fun K' hK' => ?_)
      simp (disch := omega) only [m0, m1, oP_some, Nat.add_zero]
      refine hK' _ ?_; clear hK' K'
      refine S_gt rfl ?_
      refine S_lenl T.el55 rfl ?_
      refine S_gt rfl ?_
      refine S_bin rfl rfl rfl ?_
      refine S_pt rfl rfl ?_
      exact S_nilk [0, 19] (by simp only [proj, lk, reduceIte, Nat.reduceEqDiff]; rfl) ⟨_, (by first | (simp [*]; done) | (simp; omega) | omega), rfl, rfl⟩
    · skip
      refine S_gf rfl ?_
      refine S_gf rfl ?_
      refine S_gf rfl ?_
      refine S_gf rfl ?_
      refine S_gf rfl ?_
      refine S_gf rfl ?_
      refine S_gf rfl ?_
      refine S_gf rfl ?_
      refine S_gf rfl ?_
      refine S_gf rfl ?_
      refine S_pf rfl rfl ?_
      exact S_nilk [0, 19] (by simp only [proj, lk, reduceIte, Nat.reduceEqDiff]; rfl) ⟨_, (by first | (simp [*]; done) | (simp; omega) | omega), rfl, rfl⟩
  rintro l h' ⟨b, hb96, rfl, rfl⟩
  refine hK3 _ _ ?_; clear hK3
  refine V_condb rfl (fun c96 => ?_) (fun c96 => ?_)
  · replace c96 := hb96.1 c96
    refine V_skipk [0] (by simp only [proj, lk, reduceIte, Nat.reduceEqDiff]; rfl) ?_
    refine hK2 _ _ ?_; clear hK2
    refine V_block ?_
    refine V_reg T.mix (by kernel_rfl) ?_
    refine S_mv rfl ?_
    refine S_nc rfl ?_
    first | refine S_fa0 T.f184_1 rfl ?_ | refine S_fa T.f184_1 rfl ?_
    refine S_ldK T.ag3 rfl (fun K' hK' => ?_)
    simp (disch := omega) only [m0, m1, oP_some, Nat.add_zero]
    refine hK' _ ?_; clear hK' K'
    first | refine S_add rfl rfl (by omega) (by omega) ?_ | refine S_bin rfl rfl rfl ?_
    refine S_nc rfl ?_
    first | refine S_fa0 T.f184_1 rfl ?_ | refine S_fa T.f184_1 rfl ?_
    refine S_st T.sz3 rfl rfl rfl rfl (by simp (disch := omega) only [mok]) ?_
    generalize hh : putH _ _ _ = h1
    have hTh1 : B h1 M #[.slice a s.n cap, .int .i64 (((j + 1 : Nat) : Int))] 184 := by rw [← hh]; exact hTk.put 1 _
    have hEh1 : Ext (fun x => x = M) hk h1 := by rw [← hh]; exact Ext.put _ _ rfl
    clear hh
    refine S_nilk [0] (by simp only [proj, lk, reduceIte, Nat.reduceEqDiff]; rfl) ?_
    exact hK1 _ _ ⟨_, by omega, j + 1, h1, by omega, by omega, by omega, hTh1, hEk.trans hEh1, rfl, rfl, rfl⟩
  · replace c96 : ¬ _ := fun hp => Bool.false_ne_true (c96.symm.trans (hb96.2 hp))
    refine V_exitk [] rfl (by simp only [proj, lk, reduceIte, Nat.reduceEqDiff]; rfl) ?_
    -- end
    refine hR _ _ (ret0 rfl ?_)
    have hjj : j = min s.n ((s.p + 7) / 8 * 8) := by omega
    exact ⟨rfl, a, cap, ⟨hTk.cong (by rw [hjj]; rfl), OwnR.ext mt.bb hEk (fun b hb e => hne (by rw [hb, ← e]; rfl)), hne, mt.ok.sync⟩, ⟨hEk.mono fun _ e => .inl e, fun _ hb => .inl hb⟩⟩
end Go.Proofs.Qxb6500404aGreat.BitW
