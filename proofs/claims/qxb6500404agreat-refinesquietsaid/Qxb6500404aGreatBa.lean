import Derived.Test.Qxb6500404aGreatTb
import Derived.Test.Qxb6500404aGreatLb
set_option linter.unusedVariables false
set_option linter.unusedSimpArgs false
namespace Go.Proofs.Qxb6500404aGreat.BitW
open Go.Eng Go.Bits

/-- the real tape in the heap -/
structure RT (h : Heap) (X b : Nat) (s : TS) : Prop where
  t : B h X #[.slice (some ⟨b, 0, none⟩) 516 516, .int .i64 (s.n : Int), .int .i64 (s.p : Int)] 68
  bb : B h b (arr 516 fun i => .int .u8 ((byteN s.N i : Nat) : Int)) 5
  ne : X ≠ b
  ok : OK s
theorem RT.c0 {h : Heap} {X b : Nat} {s : TS} (r : RT h X b s) : cellH h ⟨X, 0, none⟩ = some (.slice (some ⟨b, 0, none⟩) 516 516) := r.t.cell 0
theorem RT.c1 {h : Heap} {X b : Nat} {s : TS} (r : RT h X b s) : cellH h ⟨X, 1, none⟩ = some (.int .i64 (s.n : Int)) := r.t.cell 1
theorem RT.c2 {h : Heap} {X b : Nat} {s : TS} (r : RT h X b s) : cellH h ⟨X, 2, none⟩ = some (.int .i64 (s.p : Int)) := r.t.cell 2
theorem RT.cb {h : Heap} {X b : Nat} {s : TS} (r : RT h X b s) (i : Nat) (hi : i < 516) : cellH h ⟨b, i, none⟩ = some (.int .u8 ((byteN s.N i : Nat) : Int)) := r.bb.cellA hi
theorem RT.ext {h h' : Heap} {X b : Nat} {s : TS} {S : Nat → Prop} (r : RT h X b s) (he : Ext S h h') (h1 : ¬ S X) (h2 : ¬ S b) : RT h' X b s := ⟨r.t.ext he h1, r.bb.ext he h2, r.ne, r.ok⟩
theorem RT.eq {h : Heap} {X b : Nat} {s s' : TS} (r : RT h X b s) (e : s = s') : RT h X b s' := e ▸ r
theorem top_i64 {n : Nat} (h : n < 9223372036854775808) : n < top .i64 := h
theorem top_u8 {n : Nat} (h : n < 256) : n < top .u8 := h
theorem top_u64 {n : Nat} (h : n < 18446744073709551616) : n < top .u64 := h
theorem put_w {v m n : Nat} (hv : v < 2 ^ m) (hm : m ≤ 16) : v < 65536 ∧ v * 2 ^ (n % 8) < 8388608 := by
  have h1 : v < 65536 := Nat.lt_of_lt_of_le hv (Nat.pow_le_pow_right (n := 2) (by omega) hm)
  refine ⟨h1, ?_⟩
  have h2 : 2 ^ (n % 8) ≤ 2 ^ 7 := Nat.pow_le_pow_right (by omega) (by omega)
  calc v * 2 ^ (n % 8) ≤ 65535 * 2 ^ 7 := Nat.mul_le_mul (by omega) h2
    _ < 8388608 := by decide
theorem put_byte {N v n j : Nat} (hv : v < 65536) : byteN (putN N v n) j = if j = n / 8 + 2 then byteN N (n / 8 + 2) ||| v * 2 ^ (n % 8) / 65536 % 256 else if j = n / 8 + 1 then byteN N (n / 8 + 1) ||| v * 2 ^ (n % 8) / 256 % 256 else if j = n / 8 then byteN N (n / 8) ||| v * 2 ^ (n % 8) % 256 else byteN N j := by
  unfold putN
  rw [byteN_or]
  by_cases h2 : j = n / 8 + 2
  · rw [if_pos h2, h2, byteN_put]
  · by_cases h1 : j = n / 8 + 1
    · rw [if_neg h2, if_pos h1, h1, byteN_put]
    · by_cases h0 : j = n / 8
      · rw [if_neg h2, if_neg h1, if_pos h0, h0]; have := byteN_put v n 0; rw [Nat.add_zero] at this; rw [this]; simp
      · rw [if_neg h2, if_neg h1, if_neg h0, byteN_out hv (by omega), Nat.or_zero]
theorem putE_arg {n : Nat} {v k : Int} (h : k < 0 ∨ 16 < k ∨ v < 0 ∨ v.toNat / 2 ^ k.toNat ≠ 0) : putE n v k = 2 := by
  unfold putE
  rw [if_pos]
  rcases h with h | h | h | h
  · exact .inl h
  · exact .inr (.inl h)
  · exact .inr (.inr (.inl h))
  · by_cases hv : v < 0
    · exact .inr (.inr (.inl hv))
    · refine .inr (.inr (.inr ?_))
      have : 2 ^ k.toNat ≤ v.toNat := by
        by_cases hl : 2 ^ k.toNat ≤ v.toNat
        · exact hl
        · exact absurd (Nat.div_eq_of_lt (by omega)) h
      omega
theorem putE_in {n : Nat} {v k : Int} (h0 : 0 ≤ k) (h1 : k ≤ 16) (h2 : 0 ≤ v) (h3 : v.toNat / 2 ^ k.toNat = 0) : v.toNat < 2 ^ k.toNat ∧ putE n v k = if 4096 < n + k then 3 else 0 := by
  have hl : v.toNat < 2 ^ k.toNat := by
    rcases (Nat.div_eq_zero_iff).1 h3 with e | e
    · have := Nat.two_pow_pos k.toNat; omega
    · exact e
  refine ⟨hl, ?_⟩
  unfold putE
  rw [if_neg]
  simp only [not_or]
  refine ⟨by omega, by omega, by omega, by omega⟩
/-- the model's tape in the heap -/
structure MT (h : Heap) (M : Nat) (a : Option Addr) (cap : Nat) (s : TS) : Prop where
  t : B h M #[.slice a s.n cap, .int .i64 (s.p : Int)] 184
  bb : OwnR 0 h a s.n cap (bitsL s.N s.n) 5 1
  ne : blkA a ≠ some M
  ok : OK s
theorem MT.c0 {h : Heap} {M : Nat} {a : Option Addr} {cap : Nat} {s : TS} (r : MT h M a cap s) : cellH h ⟨M, 0, none⟩ = some (.slice a s.n cap) := r.t.cell 0
theorem MT.c1 {h : Heap} {M : Nat} {a : Option Addr} {cap : Nat} {s : TS} (r : MT h M a cap s) : cellH h ⟨M, 1, none⟩ = some (.int .i64 (s.p : Int)) := r.t.cell 1
theorem MT.ext {h h' : Heap} {M : Nat} {a : Option Addr} {cap : Nat} {s : TS} {S : Nat → Prop} (r : MT h M a cap s) (he : Ext S h h') (h1 : ¬ S M) (h2 : ∀ b, blkA a = some b → ¬ S b) : MT h' M a cap s := ⟨r.t.ext he h1, OwnR.ext r.bb he (fun b e => h2 b (by rw [e]; rfl)), r.ne, r.ok⟩
theorem MT.eq {h : Heap} {M : Nat} {a : Option Addr} {cap : Nat} {s s' : TS} (r : MT h M a cap s) (e : s = s') : MT h M a cap s' := e ▸ r
/-- what the model's calls may turn -/
def MEx (M : Nat) (h h' : Heap) (a a' : Option Addr) : Prop := Ext (fun b => b = M ∨ blkA a = some b) h h' ∧ ∀ b, blkA a' = some b → blkA a = some b ∨ h.size ≤ b
theorem MEx.refl (M : Nat) (h : Heap) (a : Option Addr) : MEx M h h a a := ⟨Ext.refl _ _, fun _ hb => .inl hb⟩
theorem MEx.trans {M : Nat} {h h1 h2 : Heap} {a a1 a2 : Option Addr} (e1 : MEx M h h1 a a1) (e2 : MEx M h1 h2 a1 a2) : MEx M h h2 a a2 := by
  refine ⟨e1.1.step e2.1 fun b hb hs => ?_, fun b hb => ?_⟩
  · rcases hs with hs | hs
    · exact .inl hs
    · rcases e1.2 b hs with e | e
      · exact .inr e
      · omega
  · rcases e2.2 b hb with e | e
    · exact e1.2 b e
    · have := e1.1.1; exact .inr (by omega)
set_option maxHeartbeats 400000 in
theorem inrange_spec (h : Heap) (k : Int) :
    FC Tryz.prog 128 (#[.int .i64 k] : Array Value) h fun v h' => v = .bool (decide (0 ≤ k ∧ k ≤ 16)) ∧ h = h' := by
  refine FC_of [(0, .int .i64 k)] Tryz.func128 rfl Tryz.ntmps128 (by simp) rfl (fun R hR => ?_)
  refine V_sr T.mix (by kernel_rfl) (fun K1 hK1 => ?_)
  refine S_as rfl ?_
  refine S_nil (hK1 _ _ (V_keep [0] (by simp only [proj, lk, reduceIte, Nat.reduceEqDiff]; rfl) ?_)); clear hK1
  refine V_sr T.mix (by kernel_rfl) (fun K2 hK2 => ?_)
  refine S_mv rfl ?_
  refine S_bin rfl rfl rfl ?_
  refine S_mv rfl ?_
  refine S_dec (fun g51 => ?_) (fun g51 => ?_)
  · skip
    refine S_gt rfl ?_
    refine S_mv rfl ?_
    refine S_gt rfl ?_
    refine S_bin rfl rfl rfl ?_
    refine S_pt rfl rfl ?_
    refine S_as rfl ?_
    refine S_nil (hK2 _ _ (V_keep [2] (by simp only [proj, lk, reduceIte, Nat.reduceEqDiff]; rfl) ?_)); clear hK2
    refine V_ret ?_
    refine hR _ _ (ret1 rfl rfl ?_)
    exact ⟨by simp; omega, rfl⟩
  · skip
    refine S_gf rfl ?_
    refine S_gf rfl ?_
    refine S_pf rfl rfl ?_
    refine S_as rfl ?_
    refine S_nil (hK2 _ _ (V_keep [2] (by simp only [proj, lk, reduceIte, Nat.reduceEqDiff]; rfl) ?_)); clear hK2
    refine V_ret ?_
    refine hR _ _ (ret1 rfl rfl ?_)
    exact ⟨by simp; omega, rfl⟩
set_option maxHeartbeats 400000 in
theorem pos_spec (h : Heap) (X b : Nat) (s : TS) (r : RT h X b s) :
    FC Tryz.prog 148 (#[.pointer (some ⟨X, 0, none⟩)] : Array Value) h fun v h' => v = .int .i64 (s.p : Int) ∧ h = h' := by
  have r0 := r.c0
  have r1 := r.c1
  have r2 := r.c2
  have rb := r.cb
  have ok2 := r.ok.2.1
  have ok3 := r.ok.2.2
  have hne := r.ne
  refine FC_of [(0, .pointer (some ⟨X, 0, none⟩))] Tryz.func148 rfl Tryz.ntmps148 (by simp) rfl (fun R hR => ?_)
  refine V_sr T.mix (by kernel_rfl) (fun K1 hK1 => ?_)
  refine S_as rfl ?_
  refine S_nil (hK1 _ _ (V_keep [0] (by simp only [proj, lk, reduceIte, Nat.reduceEqDiff]; rfl) ?_)); clear hK1
  refine V_sr T.mix (by kernel_rfl) (fun K2 hK2 => ?_)
  refine S_mv rfl ?_
  refine S_nc rfl ?_
  first | refine S_fa0 T.f68_2 rfl ?_ | refine S_fa T.f68_2 rfl ?_
  refine S_ldK T.ag3 rfl (fun K' hK' => ?_)
  simp (disch := omega) only [r0, r1, r2, rb, oP_some, Nat.add_zero]
  refine hK' _ ?_; clear hK' K'
  refine S_as rfl ?_
  refine S_nil (hK2 _ _ (V_keep [2] (by simp only [proj, lk, reduceIte, Nat.reduceEqDiff]; rfl) ?_)); clear hK2
  refine V_ret ?_
  refine hR _ _ (ret1 rfl rfl ?_)
  exact ⟨rfl, rfl⟩
set_option maxHeartbeats 400000 in
theorem len_spec (h : Heap) (X b : Nat) (s : TS) (r : RT h X b s) :
    FC Tryz.prog 149 (#[.pointer (some ⟨X, 0, none⟩)] : Array Value) h fun v h' => v = .int .i64 (s.n : Int) ∧ h = h' := by
  have r0 := r.c0
  have r1 := r.c1
  have r2 := r.c2
  have rb := r.cb
  have ok2 := r.ok.2.1
  have ok3 := r.ok.2.2
  have hne := r.ne
  refine FC_of [(0, .pointer (some ⟨X, 0, none⟩))] Tryz.func149 rfl Tryz.ntmps149 (by simp) rfl (fun R hR => ?_)
  refine V_sr T.mix (by kernel_rfl) (fun K1 hK1 => ?_)
  refine S_as rfl ?_
  refine S_nil (hK1 _ _ (V_keep [0] (by simp only [proj, lk, reduceIte, Nat.reduceEqDiff]; rfl) ?_)); clear hK1
  refine V_sr T.mix (by kernel_rfl) (fun K2 hK2 => ?_)
  refine S_mv rfl ?_
  refine S_nc rfl ?_
  first | refine S_fa0 T.f68_1 rfl ?_ | refine S_fa T.f68_1 rfl ?_
  refine S_ldK T.ag3 rfl (fun K' hK' => ?_)
  simp (disch := omega) only [r0, r1, r2, rb, oP_some, Nat.add_zero]
  refine hK' _ ?_; clear hK' K'
  refine S_as rfl ?_
  refine S_nil (hK2 _ _ (V_keep [2] (by simp only [proj, lk, reduceIte, Nat.reduceEqDiff]; rfl) ?_)); clear hK2
  refine V_ret ?_
  refine hR _ _ (ret1 rfl rfl ?_)
  exact ⟨rfl, rfl⟩
set_option maxHeartbeats 400000 in
theorem new_spec (h : Heap) :
    FC Tryz.prog 13 (#[] : Array Value) h fun v h' => ∃ X b, v = .pointer (some ⟨X, 0, none⟩) ∧ RT h' X b ⟨0, 0, 0⟩ ∧ Ext (fun _ => False) h h' ∧ h.size ≤ X ∧ h.size ≤ b := by
  refine FC_of [] Tryz.func13 rfl Tryz.ntmps13 (by simp) rfl (fun R hR => ?_)
  refine V_sr T.mix (by kernel_rfl) (fun K1 hK1 => ?_)
  refine S_as rfl ?_
  refine S_nil (hK1 _ _ (V_keep [] (by simp only [proj, lk, reduceIte, Nat.reduceEqDiff]; rfl) ?_)); clear hK1
  refine V_sr T.mix (by kernel_rfl) (fun K2 hK2 => ?_)
  refine S_mk T.ei55 rfl rfl (by omega) (by omega) (by omega) (by omega) ?_
  simp only [show Int.toNat 516 = 516 from rfl, Nat.mul_one, mkZ_one]
  generalize hh : Array.push h _ = h1
  have hB1 : B h1 h.size (arr 516 fun j => .int .u8 ((byteN 0 j : Nat) : Int)) 5 := by rw [← hh]; exact (B.new h _ 5).cong (arr_ext fun j _ => by rw [byteN_zero]; rfl)
  have hE1 : Ext (fun _ => False) h h1 := by rw [← hh]; exact Ext.push _ _ _
  clear hh
  refine S_bld rfl (T.bld68_0 _ _ _) ?_
  refine S_boxA rfl ?_
  generalize hh : Array.push h1 _ = h2
  have hB : B h2 h1.size #[.slice (some ⟨h.size, 0, none⟩) 516 516, .int .i64 0, .int .i64 0] 68 := by rw [← hh]; exact B.new _ _ _
  have hE2 : Ext (fun _ => False) h1 h2 := by rw [← hh]; exact Ext.push _ _ _
  clear hh
  refine S_as rfl ?_
  refine S_nil (hK2 _ _ (V_keep [0] (by simp only [proj, lk, reduceIte, Nat.reduceEqDiff]; rfl) ?_)); clear hK2
  refine V_ret ?_
  refine hR _ _ (ret1 rfl rfl ?_)
  have := hB1.lt
  exact ⟨h1.size, h.size, rfl, ⟨hB, hB1.ext hE2 (fun f => f), by omega, OK.zero⟩, hE1.trans hE2, hE1.1, Nat.le_refl _⟩
set_option maxHeartbeats 400000 in
theorem wipe_spec (h : Heap) (X b : Nat) (s : TS) (r : RT h X b s) :
    FC Tryz.prog 45 (#[.pointer (some ⟨X, 0, none⟩)] : Array Value) h fun v h' => v = .tuple #[] ∧ B h' X #[.slice (some ⟨b, 0, none⟩) 516 516, .int .i64 (s.n : Int), .int .i64 (s.p : Int)] 68 ∧ B h' b (arr 516 fun i => .int .u8 ((byteN 0 i : Nat) : Int)) 5 ∧ Ext (fun x => x = b) h h' := by
  have r0 := r.c0
  have r1 := r.c1
  have r2 := r.c2
  have rb := r.cb
  have ok2 := r.ok.2.1
  have ok3 := r.ok.2.2
  have hne := r.ne
  have k0 := r0
  refine FC_of [(0, .pointer (some ⟨X, 0, none⟩))] Tryz.func45 rfl Tryz.ntmps45 (by simp) rfl (fun R hR => ?_)
  refine V_sr T.mix (by kernel_rfl) (fun K1 hK1 => ?_)
  refine S_mv rfl ?_
  refine S_nc rfl ?_
  first | refine S_fa0 T.f68_1 rfl ?_ | refine S_fa T.f68_1 rfl ?_
  refine S_ldK T.ag3 rfl (fun K' hK' => ?_)
  simp (disch := omega) only [r0, r1, r2, rb, k0, oP_some, Nat.add_zero]
  refine hK' _ ?_; clear hK' K'
  first | refine S_add rfl rfl (by omega) (by omega) ?_ | refine S_bin rfl rfl rfl ?_
  refine S_nshr (s.n + 7) 3 ((s.n + 7) / 8) rfl rfl (by omega) rfl (by omega) (by decide) ?_
  refine S_as rfl ?_
  refine S_nil (hK1 _ _ (V_keep [0, 2] (by simp only [proj, lk, reduceIte, Nat.reduceEqDiff]; rfl) ?_)); clear hK1
  refine V_sr T.mix (by kernel_rfl) (fun K2 hK2 => ?_)
  refine S_as rfl ?_
  refine S_nil (hK2 _ _ (V_keep [0, 2, 3] (by simp only [proj, lk, reduceIte, Nat.reduceEqDiff]; rfl) ?_)); clear hK2
  refine V_block ?_
  refine V_loop (fun m l h' => ∃ (i : Nat) (hk : Heap), (i ≤ (s.n + 7) / 8) ∧ (B hk X #[.slice (some ⟨b, 0, none⟩) 516 516, .int .i64 (s.n : Int), .int .i64 (s.p : Int)] 68) ∧ (B hk b (arr 516 fun j => .int .u8 ((if j < i then 0 else byteN s.N j : Nat) : Int)) 5) ∧ (Ext (fun x => x = b) h hk) ∧ m = (s.n + 7) / 8 - i ∧ l = [(0, .pointer (some ⟨X, 0, none⟩)), (2, .int .i64 (((s.n + 7) / 8 : Nat) : Int)), (3, .int .i64 (i : Int))] ∧ hk = h') _ ⟨0, h, by omega, r.t, r.bb.cong (arr_ext fun j _ => by rw [if_neg (by omega)]), Ext.refl _ _, rfl, rfl, rfl⟩ ?_
  rintro m l h' ⟨i, hk, hi, hT, hB, hE, rfl, rfl, rfl⟩ K3 hK3
  have k0 : cellH hk ⟨X, 0, none⟩ = some (.slice (some ⟨b, 0, none⟩) 516 516) := hT.cell 0
  have kok : okPut hk ⟨b, i, none⟩ = true := hB.okA (by omega)
  refine V_seq (fun K4 hK4 => ?_)
  refine V_sr T.mix (by kernel_rfl) (fun K5 hK5 => ?_)
  refine S_mv rfl ?_
  refine S_mv rfl ?_
  refine S_bin rfl rfl rfl ?_
  refine S_nil (hK5 _ _ (V_keep [0, 2, 3, 12] (by simp only [proj, lk, reduceIte, Nat.reduceEqDiff]; rfl) ?_)); clear hK5
  refine V_condp rfl (fun c26 => ?_) (fun c26 => ?_)
  · skip
    refine V_skipk [0, 2, 3] (by simp only [proj, lk, reduceIte, Nat.reduceEqDiff]; rfl) ?_
    refine hK4 _ _ ?_; clear hK4
    refine V_seq (fun K6 hK6 => ?_)
    refine V_block ?_
    refine V_reg T.mix (by kernel_rfl) ?_
    refine S_mv rfl ?_
    refine S_nc rfl ?_
    first | refine S_fa0 T.f68_0 rfl ?_ | refine S_fa T.f68_0 rfl ?_
    refine S_ldK T.ag55 rfl (fun K' hK' => ?_)
    simp (disch := omega) only [r0, r1, r2, rb, k0, oP_some, Nat.add_zero]
    refine hK' _ ?_; clear hK' K'
    refine S_mv rfl ?_
    first | refine S_ixn T.el55 rfl rfl (by omega) ?_ | refine S_ix1 T.el55 rfl rfl (by omega) (by omega) ?_ | refine S_ix T.el55 rfl rfl (by omega) (by omega) ?_
    refine S_st T.sz5 rfl rfl rfl rfl (by simp (disch := omega) only [kok]) ?_
    generalize hh : putH _ _ _ = h2
    have hT2 : B h2 X #[.slice (some ⟨b, 0, none⟩) 516 516, .int .i64 (s.n : Int), .int .i64 (s.p : Int)] 68 := by rw [← hh]; exact hT.put_ne hne
    have hB2 : B h2 b (arr 516 fun j => .int .u8 ((if j < i + 1 then 0 else byteN s.N j : Nat) : Int)) 5 := by rw [← hh]; exact (hB.putA i _).cong (arr_ext fun j _ => by
      by_cases e : j = i
      · rw [if_pos e, if_pos (by omega)]; rfl
      · rw [if_neg e]; by_cases e2 : j < i
        · rw [if_pos e2, if_pos (by omega)]
        · rw [if_neg e2, if_neg (by omega)])
    have hE2 : Ext (fun x => x = b) h h2 := by rw [← hh]; exact hE.trans (Ext.put _ _ rfl)
    clear hh
    refine S_nilk [0, 2, 3] (by simp only [proj, lk, reduceIte, Nat.reduceEqDiff]; rfl) ?_
    refine hK6 _ _ ?_; clear hK6
    refine V_reg T.mix (by kernel_rfl) ?_
    refine S_mv rfl ?_
    first | refine S_add rfl rfl (by omega) (by omega) ?_ | refine S_bin rfl rfl rfl ?_
    refine S_as rfl ?_
    refine S_nilk [0, 2, 3] (by simp only [proj, lk, reduceIte, Nat.reduceEqDiff]; rfl) ?_
    exact hK3 _ _ ⟨_, by omega, i + 1, h2, by omega, hT2, hB2, hE2, rfl, rfl, rfl⟩
  · skip
    refine V_exitk [] rfl (by simp only [proj, lk, reduceIte, Nat.reduceEqDiff]; rfl) ?_
    -- end
    refine hR _ _ (ret0 rfl ?_)
    refine ⟨rfl, hT, hB.cong (arr_ext fun j _ => ?_), hE⟩
    by_cases e : j < i
    · rw [if_pos e, byteN_zero]
    · rw [if_neg e, byteN_high r.ok.1 (by omega), byteN_zero]
set_option maxHeartbeats 400000 in
theorem reset_spec (h : Heap) (X b : Nat) (s : TS) (r : RT h X b s) :
    FC Tryz.prog 24 (#[.pointer (some ⟨X, 0, none⟩)] : Array Value) h fun rv h' => rv = .tuple #[] ∧ RT h' X b (⟨0, 0, 0⟩) ∧ Ext (fun x => x = X ∨ x = b) h h' := by
  have r0 := r.c0
  have r1 := r.c1
  have r2 := r.c2
  have rb := r.cb
  have ok2 := r.ok.2.1
  have ok3 := r.ok.2.2
  have hne := r.ne
  refine FC_of [(0, .pointer (some ⟨X, 0, none⟩))] Tryz.func24 rfl Tryz.ntmps24 (by simp) rfl (fun R hR => ?_)
  refine V_sr T.mix (by kernel_rfl) (fun K1 hK1 => ?_)
  refine S_mv rfl ?_
  refine S_call T.hb45 rfl ?_
  refine FC.mono (wipe_spec h X b s r) ?_
  rintro v h1 ⟨rfl, hT1, hB1, hE1⟩
  have kok : ∀ j, j < 3 → okPut h1 ⟨X, j, none⟩ = true := fun j hj => hT1.ok (by simpa using hj)
  refine S_nil (hK1 _ _ (V_keep [0] (by simp only [proj, lk, reduceIte, Nat.reduceEqDiff]; rfl) ?_)); clear hK1
  refine V_sr T.mix (by kernel_rfl) (fun K2 hK2 => ?_)
  refine S_mv rfl ?_
  refine S_nc rfl ?_
  first | refine S_fa0 T.f68_1 rfl ?_ | refine S_fa T.f68_1 rfl ?_
  refine S_st T.sz3 rfl rfl rfl rfl (by simp (disch := omega) only [kok]) ?_
  generalize hh : putH _ _ _ = h2
  have hT2 : B h2 X #[.slice (some ⟨b, 0, none⟩) 516 516, .int .i64 0, .int .i64 (s.p : Int)] 68 := by rw [← hh]; exact hT1.put 1 _
  have hE2 : Ext (fun x => x = X) h1 h2 := by rw [← hh]; exact Ext.put _ _ rfl
  clear hh kok
  have kok : ∀ j, j < 3 → okPut h2 ⟨X, j, none⟩ = true := fun j hj => hT2.ok (by simpa using hj)
  refine S_nil (hK2 _ _ (V_keep [0] (by simp only [proj, lk, reduceIte, Nat.reduceEqDiff]; rfl) ?_)); clear hK2
  refine V_reg T.mix (by kernel_rfl) ?_
  refine S_mv rfl ?_
  refine S_nc rfl ?_
  first | refine S_fa0 T.f68_2 rfl ?_ | refine S_fa T.f68_2 rfl ?_
  refine S_st T.sz3 rfl rfl rfl rfl (by simp (disch := omega) only [kok]) ?_
  generalize hh : putH _ _ _ = h3
  have hT3 : B h3 X #[.slice (some ⟨b, 0, none⟩) 516 516, .int .i64 0, .int .i64 0] 68 := by rw [← hh]; exact hT2.put 2 _
  have hE3 : Ext (fun x => x = X) h2 h3 := by rw [← hh]; exact Ext.put _ _ rfl
  clear hh
  refine S_nilk [] (by simp only [proj, lk, reduceIte, Nat.reduceEqDiff]; rfl) ?_
  -- end
  refine hR _ _ (ret0 rfl ?_)
  exact ⟨rfl, ⟨hT3, (hB1.ext hE2 (fun e => hne e.symm)).ext hE3 (fun e => hne e.symm), hne, OK.zero⟩, ((hE1.mono fun _ e => .inr e).trans (hE2.mono fun _ e => .inl e)).trans (hE3.mono fun _ e => .inl e)⟩
set_option maxHeartbeats 400000 in
theorem put_spec (h : Heap) (X b : Nat) (s : TS) (r : RT h X b s) (v k : Int) :
    FC Tryz.prog 96 (#[.pointer (some ⟨X, 0, none⟩), .int .i64 v, .int .i64 k] : Array Value) h fun rv h' => rv = .int .i64 ((putE s.n v k : Nat) : Int) ∧ RT h' X b (putS s v k) ∧ Ext (fun x => x = X ∨ x = b) h h' := by
  have r0 := r.c0
  have r1 := r.c1
  have r2 := r.c2
  have rb := r.cb
  have ok2 := r.ok.2.1
  have ok3 := r.ok.2.2
  have hne := r.ne
  refine FC_of [(0, .pointer (some ⟨X, 0, none⟩)), (1, .int .i64 v), (2, .int .i64 k)] Tryz.func96 rfl Tryz.ntmps96 (by simp) rfl (fun R hR => ?_)
  refine V_sr T.mix (by kernel_rfl) (fun K1 hK1 => ?_)
  refine S_as rfl ?_
  refine S_nil (hK1 _ _ (V_keep [0, 1, 2] (by simp only [proj, lk, reduceIte, Nat.reduceEqDiff]; rfl) ?_)); clear hK1
  refine V_seq (fun K2 hK2 => ?_)
  refine V_sr T.mix (by kernel_rfl) (fun K3 hK3 => ?_)
  refine S_mv rfl ?_
  refine S_call T.hb128 rfl ?_
  refine FC.mono (inrange_spec _ k) ?_
  rintro v h' ⟨rfl, rfl⟩
  refine S_notb rfl ?_
  refine S_mv rfl ?_
  refine S_decb (fun g55 => ?_) (fun g55 => ?_)
  · skip
    simp only [Bool.not_eq_true', decide_eq_false_iff_not] at g55
    refine S_gf rfl ?_
    refine S_gf rfl ?_
    refine S_pt rfl rfl ?_
    refine S_nil (hK3 _ _ (V_keep [0, 1, 2, 15] (by simp only [proj, lk, reduceIte, Nat.reduceEqDiff]; rfl) ?_)); clear hK3
    refine V_condt rfl ?_
    refine V_sr T.mix (by kernel_rfl) (fun K4 hK4 => ?_)
    refine S_as rfl ?_
    refine S_nil (hK4 _ _ (V_keep [6] (by simp only [proj, lk, reduceIte, Nat.reduceEqDiff]; rfl) ?_)); clear hK4
    refine V_ret ?_
    refine hR _ _ (ret1 rfl rfl ?_)
    rw [putE_arg (n := s.n) (by omega)]
    exact ⟨rfl, r.eq (by unfold putS; rw [putE_arg (n := s.n) (by omega)]; rfl), Ext.refl _ _⟩
  · skip
    simp only [Bool.not_eq_false', decide_eq_true_eq] at g55
    refine S_gt rfl ?_
    refine S_mv rfl ?_
    refine S_gt rfl ?_
    refine S_bin rfl rfl rfl ?_
    refine S_pf rfl rfl ?_
    refine S_nil (hK3 _ _ (V_keep [0, 1, 2, 15] (by simp only [proj, lk, reduceIte, Nat.reduceEqDiff]; rfl) ?_)); clear hK3
    refine V_condp rfl (fun c55 => ?_) (fun c55 => ?_)
    · skip
      refine V_sr T.mix (by kernel_rfl) (fun K5 hK5 => ?_)
      refine S_as rfl ?_
      refine S_nil (hK5 _ _ (V_keep [6] (by simp only [proj, lk, reduceIte, Nat.reduceEqDiff]; rfl) ?_)); clear hK5
      refine V_ret ?_
      refine hR _ _ (ret1 rfl rfl ?_)
      rw [putE_arg (n := s.n) (by omega)]
      exact ⟨rfl, r.eq (by unfold putS; rw [putE_arg (n := s.n) (by omega)]; rfl), Ext.refl _ _⟩
    · skip
      refine V_skipk [0, 1, 2] (by simp only [proj, lk, reduceIte, Nat.reduceEqDiff]; rfl) ?_
      refine hK2 _ _ ?_; clear hK2
      refine V_seq (fun K6 hK6 => ?_)
      refine V_sr T.mix (by kernel_rfl) (fun K7 hK7 => ?_)
      refine S_mv rfl ?_
      refine S_mv rfl ?_
      first | refine S_cvn T.us3 T.in105 rfl rfl (by first | omega | (simp only [IntKind.bits]; omega)) ?_ | refine S_cvu T.us3 T.in105 rfl (by omega) (by omega) ?_ | refine S_cv T.us3 T.in105 rfl ?_
      refine S_nshr v.toNat k.toNat _ rfl rfl (by omega) (by omega) rfl (show k.toNat ≤ 64 by omega) ?_
      refine S_bin rfl rfl rfl ?_
      refine S_nil (hK7 _ _ (V_keep [0, 1, 2, 20] (by simp only [proj, lk, reduceIte, Nat.reduceEqDiff]; rfl) ?_)); clear hK7
      refine V_condp rfl (fun c58 => ?_) (fun c58 => ?_)
      · skip
        refine V_sr T.mix (by kernel_rfl) (fun K8 hK8 => ?_)
        refine S_as rfl ?_
        refine S_nil (hK8 _ _ (V_keep [6] (by simp only [proj, lk, reduceIte, Nat.reduceEqDiff]; rfl) ?_)); clear hK8
        refine V_ret ?_
        refine hR _ _ (ret1 rfl rfl ?_)
        rw [putE_arg (n := s.n) (by omega)]
        exact ⟨rfl, r.eq (by unfold putS; rw [putE_arg (n := s.n) (by omega)]; rfl), Ext.refl _ _⟩
      · skip
        obtain ⟨hvk, hpe⟩ := putE_in (n := s.n) (v := v) (k := k) (by omega) (by omega) (by omega) (by omega)
        obtain ⟨hv16, hw⟩ := put_w (n := s.n) hvk (by omega)
        generalize hW : v.toNat * 2 ^ (s.n % 8) = w at *
        refine V_skipk [0, 1, 2] (by simp only [proj, lk, reduceIte, Nat.reduceEqDiff]; rfl) ?_
        refine hK6 _ _ ?_; clear hK6
        refine V_seq (fun K9 hK9 => ?_)
        refine V_sr T.mix (by kernel_rfl) (fun K10 hK10 => ?_)
        refine S_mv rfl ?_
        refine S_mv rfl ?_
        refine S_nc rfl ?_
        first | refine S_fa0 T.f68_1 rfl ?_ | refine S_fa T.f68_1 rfl ?_
        refine S_ldK T.ag3 rfl (fun K' hK' => ?_)
        simp (disch := omega) only [r0, r1, r2, rb, oP_some, Nat.add_zero]
        refine hK' _ ?_; clear hK' K'
        first | refine S_sub rfl rfl (by omega) (by omega) ?_ | refine S_bin rfl rfl rfl ?_
        refine S_bin rfl rfl rfl ?_
        refine S_nil (hK10 _ _ (V_keep [0, 1, 2, 27] (by simp only [proj, lk, reduceIte, Nat.reduceEqDiff]; rfl) ?_)); clear hK10
        refine V_condp rfl (fun c61 => ?_) (fun c61 => ?_)
        · skip
          refine V_sr T.mix (by kernel_rfl) (fun K11 hK11 => ?_)
          refine S_as rfl ?_
          refine S_nil (hK11 _ _ (V_keep [6] (by simp only [proj, lk, reduceIte, Nat.reduceEqDiff]; rfl) ?_)); clear hK11
          refine V_ret ?_
          refine hR _ _ (ret1 rfl rfl ?_)
          rw [if_pos (by omega)] at hpe
          exact ⟨by rw [hpe]; rfl, r.eq (by unfold putS; rw [hpe]; rfl), Ext.refl _ _⟩
        · skip
          have kok : ∀ j, j < 516 → okPut h ⟨b, j, none⟩ = true := fun j hj => r.bb.okA hj
          have hTh := r.t
          have hEh := Ext.refl (fun x => x = X ∨ x = b) h
          refine V_skipk [0, 1, 2] (by simp only [proj, lk, reduceIte, Nat.reduceEqDiff]; rfl) ?_
          refine hK9 _ _ ?_; clear hK9
          refine V_sr T.mix (by kernel_rfl) (fun K12 hK12 => ?_)
          refine S_mv rfl ?_
          refine S_mv rfl ?_
          refine S_nc rfl ?_
          first | refine S_fa0 T.f68_1 rfl ?_ | refine S_fa T.f68_1 rfl ?_
          refine S_ldK T.ag3 rfl (fun K' hK' => ?_)
          simp (disch := omega) only [r0, r1, r2, rb, oP_some, Nat.add_zero]
          refine hK' _ ?_; clear hK' K'
          first | refine S_andm 7 3 8 rfl rfl rfl (by decide) (by decide) (by omega) (by omega) ?_ | refine S_bin rfl rfl rfl ?_
          first | refine S_cvn T.us3 T.in105 rfl rfl (by first | omega | (simp only [IntKind.bits]; omega)) ?_ | refine S_cvu T.us3 T.in105 rfl (by omega) (by omega) ?_ | refine S_cv T.us3 T.in105 rfl ?_
          refine S_nshl v.toNat (s.n % 8) w rfl rfl (by omega) (by omega) hW (show s.n % 8 ≤ 64 by omega) (top_i64 (by omega)) ?_
          refine S_as rfl ?_
          refine S_nil (hK12 _ _ (V_keep [0, 2, 7] (by simp only [proj, lk, reduceIte, Nat.reduceEqDiff]; rfl) ?_)); clear hK12
          refine V_sr T.mix (by kernel_rfl) (fun K13 hK13 => ?_)
          refine S_mv rfl ?_
          refine S_nc rfl ?_
          first | refine S_fa0 T.f68_1 rfl ?_ | refine S_fa T.f68_1 rfl ?_
          refine S_ldK T.ag3 rfl (fun K' hK' => ?_)
          simp (disch := omega) only [r0, r1, r2, rb, oP_some, Nat.add_zero]
          refine hK' _ ?_; clear hK' K'
          refine S_nshr s.n 3 (s.n / 8) rfl rfl rfl rfl (by omega) (by decide) ?_
          refine S_as rfl ?_
          refine S_nil (hK13 _ _ (V_keep [0, 2, 7, 8] (by simp only [proj, lk, reduceIte, Nat.reduceEqDiff]; rfl) ?_)); clear hK13
          refine V_sr T.mix (by kernel_rfl) (fun K14 hK14 => ?_)
          refine S_mv rfl ?_
          refine S_nc rfl ?_
          first | refine S_fa0 T.f68_0 rfl ?_ | refine S_fa T.f68_0 rfl ?_
          refine S_ldK T.ag55 rfl (fun K' hK' => ?_)
          simp (disch := omega) only [r0, r1, r2, rb, oP_some, Nat.add_zero]
          refine hK' _ ?_; clear hK' K'
          refine S_mv rfl ?_
          refine S_mv rfl ?_
          refine S_nc rfl ?_
          first | refine S_fa0 T.f68_0 rfl ?_ | refine S_fa T.f68_0 rfl ?_
          refine S_ldK T.ag55 rfl (fun K' hK' => ?_)
          simp (disch := omega) only [r0, r1, r2, rb, oP_some, Nat.add_zero]
          refine hK' _ ?_; clear hK' K'
          refine S_mv rfl ?_
          first | refine S_ixn T.el55 rfl rfl (by omega) ?_ | refine S_ix1 T.el55 rfl rfl (by omega) (by omega) ?_ | refine S_ix T.el55 rfl rfl (by omega) (by omega) ?_
          refine S_ldK T.ag5 rfl (fun K' hK' => ?_)
          simp (disch := omega) only [r0, r1, r2, rb, oP_some, Nat.add_zero]
          refine hK' _ ?_; clear hK' K'
          refine S_mv rfl ?_
          refine S_ncv w (w % 256) T.us3 T.in5 rfl rfl rfl (.inl rfl) ?_
          refine S_nor (byteN s.N (s.n / 8)) (w % 256) _ rfl rfl rfl rfl rfl (top_u8 (byteN_lt _ _)) (top_u8 (Nat.mod_lt _ (by decide))) ?_
          first | refine S_ixn T.el55 rfl rfl (by omega) ?_ | refine S_ix1 T.el55 rfl rfl (by omega) (by omega) ?_ | refine S_ix T.el55 rfl rfl (by omega) (by omega) ?_
          refine S_st T.sz5 rfl rfl rfl rfl (by simp (disch := omega) only [kok]) ?_
          generalize hh : putH _ _ _ = h1
          have hBh1 := r.bb.putA (s.n / 8) (.int .u8 ((byteN s.N (s.n / 8) ||| w % 256 : Nat) : Int))
          rw [show putH h ⟨b, s.n / 8, none⟩ _ = h1 from hh] at hBh1
          have hTh1 : B h1 X #[.slice (some ⟨b, 0, none⟩) 516 516, .int .i64 (s.n : Int), .int .i64 (s.p : Int)] 68 := by rw [← hh]; exact hTh.put_ne hne
          have hEh1 : Ext (fun x => x = X ∨ x = b) h h1 := by rw [← hh]; exact hEh.trans (Ext.put _ _ (.inr rfl))
          clear hh r0 r1 r2 rb kok
          have r0 : cellH h1 ⟨X, 0, none⟩ = some (.slice (some ⟨b, 0, none⟩) 516 516) := hTh1.cell 0
          have r1 : cellH h1 ⟨X, 1, none⟩ = some (.int .i64 (s.n : Int)) := hTh1.cell 1
          have r2 := r1
          have kok : ∀ j, j < 516 → okPut h1 ⟨b, j, none⟩ = true := fun j hj => hBh1.okA hj
          have rb : cellH h1 ⟨b, s.n / 8 + 1, none⟩ = some (.int .u8 ((byteN s.N (s.n / 8 + 1) : Nat) : Int)) := by rw [hBh1.cellA (by omega)]; simp
          refine S_nil (hK14 _ _ (V_keep [0, 2, 7, 8] (by simp only [proj, lk, reduceIte, Nat.reduceEqDiff]; rfl) ?_)); clear hK14
          refine V_sr T.mix (by kernel_rfl) (fun K15 hK15 => ?_)
          refine S_mv rfl ?_
          refine S_nc rfl ?_
          first | refine S_fa0 T.f68_0 rfl ?_ | refine S_fa T.f68_0 rfl ?_
          refine S_ldK T.ag55 rfl (fun K' hK' => ?_)
          simp (disch := omega) only [r0, r1, r2, rb, oP_some, Nat.add_zero]
          refine hK' _ ?_; clear hK' K'
          refine S_mv rfl ?_
          refine S_addN (s.n / 8 + 1) rfl rfl (by omega) (by omega) ?_
          refine S_mv rfl ?_
          refine S_nc rfl ?_
          first | refine S_fa0 T.f68_0 rfl ?_ | refine S_fa T.f68_0 rfl ?_
          refine S_ldK T.ag55 rfl (fun K' hK' => ?_)
          simp (disch := omega) only [r0, r1, r2, rb, oP_some, Nat.add_zero]
          refine hK' _ ?_; clear hK' K'
          refine S_mv rfl ?_
          refine S_addN (s.n / 8 + 1) rfl rfl (by omega) (by omega) ?_
          first | refine S_ixn T.el55 rfl rfl (by omega) ?_ | refine S_ix1 T.el55 rfl rfl (by omega) (by omega) ?_ | refine S_ix T.el55 rfl rfl (by omega) (by omega) ?_
          refine S_ldK T.ag5 rfl (fun K' hK' => ?_)
          simp (disch := omega) only [r0, r1, r2, rb, oP_some, Nat.add_zero]
          refine hK' _ ?_; clear hK' K'
          refine S_mv rfl ?_
          refine S_nshr w 8 (w / 256) rfl rfl rfl rfl rfl (by decide) ?_
          refine S_ncv (w / 256) (w / 256 % 256) T.us3 T.in5 rfl rfl rfl (.inl rfl) ?_
          refine S_nor (byteN s.N (s.n / 8 + 1)) (w / 256 % 256) _ rfl rfl rfl rfl rfl (top_u8 (byteN_lt _ _)) (top_u8 (Nat.mod_lt _ (by decide))) ?_
          first | refine S_ixn T.el55 rfl rfl (by omega) ?_ | refine S_ix1 T.el55 rfl rfl (by omega) (by omega) ?_ | refine S_ix T.el55 rfl rfl (by omega) (by omega) ?_
          refine S_st T.sz5 rfl rfl rfl rfl (by simp (disch := omega) only [kok]) ?_
          generalize hh : putH _ _ _ = h2
          have hBh2 := hBh1.putA (s.n / 8 + 1) (.int .u8 ((byteN s.N (s.n / 8 + 1) ||| w / 256 % 256 : Nat) : Int))
          rw [show putH h1 ⟨b, s.n / 8 + 1, none⟩ _ = h2 from hh] at hBh2
          have hTh2 : B h2 X #[.slice (some ⟨b, 0, none⟩) 516 516, .int .i64 (s.n : Int), .int .i64 (s.p : Int)] 68 := by rw [← hh]; exact hTh1.put_ne hne
          have hEh2 : Ext (fun x => x = X ∨ x = b) h h2 := by rw [← hh]; exact hEh1.trans (Ext.put _ _ (.inr rfl))
          clear hh r0 r1 r2 rb kok
          have r0 : cellH h2 ⟨X, 0, none⟩ = some (.slice (some ⟨b, 0, none⟩) 516 516) := hTh2.cell 0
          have r1 : cellH h2 ⟨X, 1, none⟩ = some (.int .i64 (s.n : Int)) := hTh2.cell 1
          have r2 := r1
          have kok : ∀ j, j < 516 → okPut h2 ⟨b, j, none⟩ = true := fun j hj => hBh2.okA hj
          have rb : cellH h2 ⟨b, s.n / 8 + 2, none⟩ = some (.int .u8 ((byteN s.N (s.n / 8 + 2) : Nat) : Int)) := by rw [hBh2.cellA (by omega)]; simp
          refine S_nil (hK15 _ _ (V_keep [0, 2, 7, 8] (by simp only [proj, lk, reduceIte, Nat.reduceEqDiff]; rfl) ?_)); clear hK15
          refine V_sr T.mix (by kernel_rfl) (fun K16 hK16 => ?_)
          refine S_mv rfl ?_
          refine S_nc rfl ?_
          first | refine S_fa0 T.f68_0 rfl ?_ | refine S_fa T.f68_0 rfl ?_
          refine S_ldK T.ag55 rfl (fun K' hK' => ?_)
          simp (disch := omega) only [r0, r1, r2, rb, oP_some, Nat.add_zero]
          refine hK' _ ?_; clear hK' K'
          refine S_mv rfl ?_
          refine S_addN (s.n / 8 + 2) rfl rfl (by omega) (by omega) ?_
          refine S_mv rfl ?_
          refine S_nc rfl ?_
          first | refine S_fa0 T.f68_0 rfl ?_ | refine S_fa T.f68_0 rfl ?_
          refine S_ldK T.ag55 rfl (fun K' hK' => ?_)
          simp (disch := omega) only [r0, r1, r2, rb, oP_some, Nat.add_zero]
          refine hK' _ ?_; clear hK' K'
          refine S_mv rfl ?_
          refine S_addN (s.n / 8 + 2) rfl rfl (by omega) (by omega) ?_
          first | refine S_ixn T.el55 rfl rfl (by omega) ?_ | refine S_ix1 T.el55 rfl rfl (by omega) (by omega) ?_ | refine S_ix T.el55 rfl rfl (by omega) (by omega) ?_
          refine S_ldK T.ag5 rfl (fun K' hK' => ?_)
          simp (disch := omega) only [r0, r1, r2, rb, oP_some, Nat.add_zero]
          refine hK' _ ?_; clear hK' K'
          refine S_mv rfl ?_
          refine S_nshr w 16 (w / 65536) rfl rfl rfl rfl rfl (by decide) ?_
          refine S_ncv (w / 65536) (w / 65536 % 256) T.us3 T.in5 rfl rfl rfl (.inl rfl) ?_
          refine S_nor (byteN s.N (s.n / 8 + 2)) (w / 65536 % 256) _ rfl rfl rfl rfl rfl (top_u8 (byteN_lt _ _)) (top_u8 (Nat.mod_lt _ (by decide))) ?_
          first | refine S_ixn T.el55 rfl rfl (by omega) ?_ | refine S_ix1 T.el55 rfl rfl (by omega) (by omega) ?_ | refine S_ix T.el55 rfl rfl (by omega) (by omega) ?_
          refine S_st T.sz5 rfl rfl rfl rfl (by simp (disch := omega) only [kok]) ?_
          generalize hh : putH _ _ _ = h3
          have hBh3 := hBh2.putA (s.n / 8 + 2) (.int .u8 ((byteN s.N (s.n / 8 + 2) ||| w / 65536 % 256 : Nat) : Int))
          rw [show putH h2 ⟨b, s.n / 8 + 2, none⟩ _ = h3 from hh] at hBh3
          have hTh3 : B h3 X #[.slice (some ⟨b, 0, none⟩) 516 516, .int .i64 (s.n : Int), .int .i64 (s.p : Int)] 68 := by rw [← hh]; exact hTh2.put_ne hne
          have hEh3 : Ext (fun x => x = X ∨ x = b) h h3 := by rw [← hh]; exact hEh2.trans (Ext.put _ _ (.inr rfl))
          clear hh r0 r1 r2 rb kok
          have r0 : cellH h3 ⟨X, 0, none⟩ = some (.slice (some ⟨b, 0, none⟩) 516 516) := hTh3.cell 0
          have r1 : cellH h3 ⟨X, 1, none⟩ = some (.int .i64 (s.n : Int)) := hTh3.cell 1
          have r2 := r1
          have kok : ∀ j, j < 516 → okPut h3 ⟨b, j, none⟩ = true := fun j hj => hBh3.okA hj
          have rb := r1
          clear kok
          have kok : okPut h3 ⟨X, 1, none⟩ = true := hTh3.ok (by simp)
          refine S_nil (hK16 _ _ (V_keep [0, 2] (by simp only [proj, lk, reduceIte, Nat.reduceEqDiff]; rfl) ?_)); clear hK16
          refine V_sr T.mix (by kernel_rfl) (fun K17 hK17 => ?_)
          refine S_mv rfl ?_
          refine S_mv rfl ?_
          refine S_nc rfl ?_
          first | refine S_fa0 T.f68_1 rfl ?_ | refine S_fa T.f68_1 rfl ?_
          refine S_ldK T.ag3 rfl (fun K' hK' => ?_)
          simp (disch := omega) only [r0, r1, r2, rb, oP_some, Nat.add_zero]
          refine hK' _ ?_; clear hK' K'
          refine S_mv rfl ?_
          first | refine S_add rfl rfl (by omega) (by omega) ?_ | refine S_bin rfl rfl rfl ?_
          refine S_nc rfl ?_
          first | refine S_fa0 T.f68_1 rfl ?_ | refine S_fa T.f68_1 rfl ?_
          refine S_st T.sz3 rfl rfl rfl rfl (by simp (disch := omega) only [kok]) ?_
          generalize hh : putH _ _ _ = h4
          have hT4 : B h4 X #[.slice (some ⟨b, 0, none⟩) 516 516, .int .i64 (s.n + k : Int), .int .i64 (s.p : Int)] 68 := by rw [← hh]; exact hTh3.put 1 _
          have hE4 : Ext (fun x => x = X) h3 h4 := by rw [← hh]; exact Ext.put _ _ rfl
          clear hh
          refine S_nil (hK17 _ _ (V_keep [] (by simp only [proj, lk, reduceIte, Nat.reduceEqDiff]; rfl) ?_)); clear hK17
          refine V_sr T.mix (by kernel_rfl) (fun K18 hK18 => ?_)
          refine S_as rfl ?_
          refine S_nil (hK18 _ _ (V_keep [6] (by simp only [proj, lk, reduceIte, Nat.reduceEqDiff]; rfl) ?_)); clear hK18
          refine V_ret ?_
          refine hR _ _ (ret1 rfl rfl ?_)
          rw [if_neg (by omega)] at hpe
          have hps : putS s v k = ⟨putN s.N v.toNat s.n, s.n + k.toNat, s.p⟩ := by unfold putS; rw [if_pos hpe]
          have hok := r.ok.put v k
          rw [hps] at hok ⊢
          refine ⟨by rw [hpe]; rfl, ⟨hT4.cong (by simp; omega), (hBh3.ext hE4 (fun e => hne e.symm)).cong (arr_ext fun j hj => ?_), hne, hok⟩, hEh3.trans (hE4.mono fun _ e => .inl e)⟩
          simp only []
          rw [put_byte hv16, hW]
          by_cases e2 : j = s.n / 8 + 2
          · rw [if_pos e2, if_pos e2]
          · rw [if_neg e2, if_neg e2]
            by_cases e1 : j = s.n / 8 + 1
            · rw [if_pos e1, if_pos e1]
            · rw [if_neg e1, if_neg e1]
              by_cases e0 : j = s.n / 8
              · rw [if_pos e0, if_pos e0]
              · rw [if_neg e0, if_neg e0]
end Go.Proofs.Qxb6500404aGreat.BitW
