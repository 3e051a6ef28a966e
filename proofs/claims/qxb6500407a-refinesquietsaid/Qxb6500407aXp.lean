import Derived.Test.Qxb6500407aXo
set_option linter.unusedVariables false
set_option linter.unusedSimpArgs false
namespace Go.Proofs.Qxb6500407a
open Go.Eng Go.Huf
/-- the script, as it lies in the heap -/
def Scr (base : Nat) (h : Heap) (sa : Option Addr) (n : Nat) : Prop := ∀ i, i < n → ∃ sb so, sa = some ⟨sb, so, none⟩ ∧ sb < base ∧ ∃ k a b c s u, cellsH h ⟨sb, so + i * 6, none⟩ 0 6 = some [.int .i64 k, .int .i64 a, .int .i64 b, .int .i64 c, .string s, .string u]
theorem cellsH_same {h h' : Heap} {b o : Nat} (he : h'[b]? = h[b]?) : ∀ (n i : Nat), cellsH h' ⟨b, o, none⟩ i n = cellsH h ⟨b, o, none⟩ i n
  | 0, _ => rfl
  | n + 1, i => by
    have e : cellH h' ((⟨b, o, none⟩ : Addr).add i) = cellH h ((⟨b, o, none⟩ : Addr).add i) := by rw [add_mk]; unfold cellH; simp only [he]
    simp only [cellsH, e, cellsH_same he n (i + 1)]
theorem Scr.ext {base : Nat} {h h' : Heap} {sa : Option Addr} {n : Nat} (hs : Scr base h sa n) (hb : base ≤ h.size) (he : Ext (fun b => base ≤ b) h h') : Scr base h' sa n := by
  intro i hi
  obtain ⟨sb, so, e, hlt, k, a, b, c, s, u, hc⟩ := hs i hi
  exact ⟨sb, so, e, hlt, k, a, b, c, s, u, by rw [cellsH_same (he.2 sb (by omega) (by omega))]; exact hc⟩

/-- the first world -/
theorem UI.zero {h : Heap} {base X M U : Nat} (hd : B h U #[.slice none 0 0, .slice none 0 0, .slice none 0 0, .slice none 0 0, .slice none 0 0, .slice none 0 0, .slice none 0 0, .slice none 0 0, .int .i64 0, .slice none 0 0, .int .i64 0, .bool false, .slice none 0 0, .bool false, .slice none 0 0] 35) (hc : CB h X HC.z) (hm : MK h M none none (fun _ => 0) 0) (h1 : base ≤ X) (h2 : X + 10 < M) (h3 : M < U) (h4 : U < h.size) : ∃ tg, UI h tg ⟨base, U, X, M⟩ ⟨HC.z, none, none, fun _ => 0, ⟨none, 0, [], none, [], none, [], none, fun _ => (none, 0), 0, 0, false, false⟩⟩ 0 := by
  obtain ⟨tg, t1, t2, t3, t0⟩ : ∃ tg : Nat → Nat, tg U = 1 ∧ (∀ b, X ≤ b → b ≤ X + 10 → tg b = 2) ∧ tg M = 3 ∧ ∀ b, b ≠ U → (b < X ∨ X + 10 < b) → b ≠ M → tg b = 0 := by
    refine ⟨fun b => if b = U then 1 else if X ≤ b ∧ b ≤ X + 10 then 2 else if b = M then 3 else 0, ?_, fun b e1 e2 => ?_, ?_, fun b e1 e2 e3 => ?_⟩
    · simp
    · simp only []; rw [if_neg (by omega), if_pos ⟨e1, e2⟩]
    · simp only []; rw [if_neg (by omega), if_neg (by omega), if_pos trivial]
    · simp only []; rw [if_neg e1, if_neg (by omega), if_neg e3]
  refine ⟨tg, ⟨hd.cong (by simp [dcs]), hc, CK.z, by simp [HC.z], hm, IL.nil _, by simp, IL.nil _, by simp, IL.nil _, by simp, IL.nil _, fun i hi => Kp.nil _, Nat.le_refl _, Nat.le_refl _, t1, fun b hb => t2 b hb.1 hb.2, t3, by simp [blkA], by simp [blkA], by simp [blkA], by simp [blkA], by simp [blkA], by simp [blkA], by simp [blkA], fun b hb => t0 b (by omega) (by omega) (by omega), fun b hb => ?_, ?_⟩⟩
  · simp only [] at hb
    exact t0 b (by omega) (by omega) (by omega)
  · simp only []; omega
set_option maxHeartbeats 3200000 in
theorem walk_spec (h : Heap) (sa : Option Addr) (n cap : Nat) (q : Bool) (hs : Scr h.size h sa n) (hn : n ≤ 9223372036854775807) :
    FC Try.prog 6 (#[.slice sa n cap, .bool (decide (q = true))] : Array Value) h fun v h' => (∃ j : Int, v = .tuple #[.int .i64 (-1), .int .i64 j]) ∧ Ext (fun b => h.size ≤ b) h h' := by
  refine FC_of [(0, .slice sa n cap), (1, .bool (decide (q = true)))] Try.func6 rfl Try.ntmps6 (by simp) rfl (fun R hR => ?_)
  refine V_sr T.mix (by kernel_rfl) (fun K1 hK1 => ?_)
  refine S_as rfl ?_
  refine S_as rfl ?_
  refine S_nil (hK1 _ _ (V_keep [0, 1] (by simp only [proj, lk, reduceIte, Nat.reduceEqDiff]; rfl) ?_)); clear hK1
  refine V_sr T.mix (by kernel_rfl) (fun K2 hK2 => ?_)
  refine S_call T.hb7 rfl ?_
  refine FC.mono (hnew_spec h) ?_
  rintro v' h1 ⟨rfl, hc1, hE1⟩
  refine S_as rfl ?_
  refine S_nil (hK2 _ _ (V_keep [0, 1, 6] (by simp only [proj, lk, reduceIte, Nat.reduceEqDiff]; rfl) ?_)); clear hK2
  refine V_sr T.mix (by kernel_rfl) (fun K3 hK3 => ?_)
  refine S_call T.hb8 rfl ?_
  refine FC.mono (hmnew_spec h1) ?_
  rintro v' h2 ⟨rfl, hm2, hE2⟩
  refine S_as rfl ?_
  refine S_nil (hK3 _ _ (V_keep [0, 1, 6, 7] (by simp only [proj, lk, reduceIte, Nat.reduceEqDiff]; rfl) ?_)); clear hK3
  refine V_sr T.mix (by kernel_rfl) (fun K4 hK4 => ?_)
  refine S_bld rfl (T.bld35) ?_
  refine S_boxA rfl ?_
  generalize hh : Array.push h2 _ = h3
  have hU3 : B h3 h2.size #[.slice none 0 0, .slice none 0 0, .slice none 0 0, .slice none 0 0, .slice none 0 0, .slice none 0 0, .slice none 0 0, .slice none 0 0, .int .i64 0, .slice none 0 0, .int .i64 0, .bool false, .slice none 0 0, .bool false, .slice none 0 0] 35 := by rw [← hh]; exact B.new _ _ _
  have hEh3 : Ext (fun _ => False) h2 h3 := by rw [← hh]; exact Ext.push _ _ _
  have hsh3 : h3.size = h2.size + 1 := by rw [← hh]; simp
  clear hh
  have hXl := hc1.lt
  have hMl := hm2.t.lt
  have hz2 := hE2.1
  obtain ⟨tg1, w1⟩ := UI.zero (base := h.size) hU3 ((hc1.new hE2).new hEh3) (hm2.new hEh3) (Nat.le_refl _) (by omega) (by omega) (by omega)
  have hEs : Ext (fun b => h.size ≤ b) h h3 := ((hE1.trans hE2).trans hEh3).mono fun _ f => f.elim
  generalize hA : (⟨h.size, h2.size, h.size, h1.size⟩ : UA) = A at w1
  have hAb : A.base = h.size := by rw [← hA]
  have hAU : h2.size = A.U := by rw [← hA]
  have hAX : h.size = A.X := by rw [← hA]
  have hAM : h1.size = A.M := by rw [← hA]
  generalize (⟨HC.z, none, none, fun _ => 0, ⟨none, 0, [], none, [], none, [], none, fun _ => (none, 0), 0, 0, false, false⟩⟩ : US) = u1 at w1
  rw [hAU, show (Value.pointer (some ⟨h.size, 0, none⟩)) = .pointer (some ⟨A.X, 0, none⟩) by rw [hAX], show (Value.pointer (some ⟨h1.size, 0, none⟩)) = .pointer (some ⟨A.M, 0, none⟩) by rw [hAM]]
  refine S_as rfl ?_
  refine S_nil (hK4 _ _ (V_keep [0, 1, 6, 7, 8] (by simp only [proj, lk, reduceIte, Nat.reduceEqDiff]; rfl) ?_)); clear hK4
  refine V_seqJ (fun l h' => (True) ∧ l = [(0, .slice sa n cap), (1, .bool (decide (q = true))), (6, .pointer (some ⟨A.X, 0, none⟩)), (7, .pointer (some ⟨A.M, 0, none⟩)), (8, .pointer (some ⟨A.U, 0, none⟩))] ∧ h3 = h') ?_ ?_
  · skip
    refine V_sr T.mix (by kernel_rfl) (fun K6 hK6 => ?_)
    refine S_mv rfl ?_
    refine S_not rfl ?_
    refine S_nil (hK6 _ _ (V_keep [0, 1, 6, 7, 8, 15] (by simp only [proj, lk, reduceIte, Nat.reduceEqDiff]; rfl) ?_)); clear hK6
    refine V_condp rfl (fun c406 => ?_) (fun c406 => ?_)
    · skip
      refine V_sr T.mix (by kernel_rfl) (fun K7 hK7 => ?_)
      refine S_mv rfl ?_
      refine S_mv rfl ?_
      refine S_call T.hb9 rfl ?_
      refine FC.mono (alike_spec h3 A.X u1.c w1.cx u1.lf w1.ck A.M u1.la u1.kb w1.mo w1.fi) ?_
      rintro v' h' ⟨rfl, rfl⟩
      refine S_notb rfl ?_
      refine S_nil (hK7 _ _ (V_keep [0, 1, 6, 7, 8, 19] (by simp only [proj, lk, reduceIte, Nat.reduceEqDiff]; rfl) ?_)); clear hK7
      refine V_condb rfl (fun c407 => ?_) (fun c407 => ?_)
      · skip
        cases c407
      · skip
        refine V_skipk [0, 1, 6, 7, 8] (by simp only [proj, lk, reduceIte, Nat.reduceEqDiff]; rfl) ?_
        exact ⟨trivial, rfl, rfl⟩
    · skip
      refine V_skipk [0, 1, 6, 7, 8] (by simp only [proj, lk, reduceIte, Nat.reduceEqDiff]; rfl) ?_
      exact ⟨trivial, rfl, rfl⟩
  rintro l h' ⟨htt, rfl, rfl⟩
  refine V_seq (fun K8 hK8 => ?_)
  refine V_sr T.mix (by kernel_rfl) (fun K9 hK9 => ?_)
  refine S_as rfl ?_
  refine S_nil (hK9 _ _ (V_keep [0, 1, 6, 7, 8, 9] (by simp only [proj, lk, reduceIte, Nat.reduceEqDiff]; rfl) ?_)); clear hK9
  refine V_block ?_
  refine V_loop (fun m l h' => ∃ (i : Nat) (hk : Heap) (tgk : Nat → Nat) (uk : US), (i ≤ n) ∧ (i ≤ 4398046511104) ∧ (UI hk tgk A uk (2 * i)) ∧ (Ext (fun b => h.size ≤ b) h hk) ∧ m = n - i ∧ l = [(0, .slice sa n cap), (1, .bool (decide (q = true))), (6, .pointer (some ⟨A.X, 0, none⟩)), (7, .pointer (some ⟨A.M, 0, none⟩)), (8, .pointer (some ⟨A.U, 0, none⟩)), (9, .int .i64 i)] ∧ hk = h') _ ⟨0, h3, tg1, u1, by omega, by omega, w1, hEs, rfl, rfl, rfl⟩ ?_
  rintro m l h' ⟨i, hk, tgk, uk, hi, hi2, w, hE, rfl, rfl, rfl⟩ K10 hK10
  refine V_seq (fun K11 hK11 => ?_)
  refine V_sr T.mix (by kernel_rfl) (fun K12 hK12 => ?_)
  refine S_cut (K' := fun l h' => ∃ b : Bool, (b = true ↔ (i < n ∧ i < 4398046511104)) ∧ l = [(0, .slice sa n cap), (1, .bool (decide (q = true))), (6, .pointer (some ⟨A.X, 0, none⟩)), (7, .pointer (some ⟨A.M, 0, none⟩)), (8, .pointer (some ⟨A.U, 0, none⟩)), (9, .int .i64 i), (27, .bool b)] ∧ hk = h') ?_ ?_
  · skip
    refine S_mv rfl ?_
    refine S_mv rfl ?_
    refine S_lenl T.el22 rfl ?_
    refine S_bin rfl rfl rfl ?_
    refine S_mv rfl ?_
    refine S_dec (fun g411 => ?_) (fun g411 => ?_)
    · skip
      refine S_gt rfl ?_
      refine S_mv rfl ?_
      refine S_gt rfl ?_
      refine S_bin rfl rfl rfl ?_
      refine S_pt rfl rfl ?_
      exact S_nilk [0, 1, 6, 7, 8, 9, 27] (by simp only [proj, lk, reduceIte, Nat.reduceEqDiff]; rfl) ⟨_, (by first | (simp [*]; done) | (simp; omega)), rfl, rfl⟩
    · skip
      refine S_gf rfl ?_
      refine S_gf rfl ?_
      refine S_pf rfl rfl ?_
      exact S_nilk [0, 1, 6, 7, 8, 9, 27] (by simp only [proj, lk, reduceIte, Nat.reduceEqDiff]; rfl) ⟨_, (by first | (simp [*]; done) | (simp; omega)), rfl, rfl⟩
  rintro l h' ⟨b, hb411, rfl, rfl⟩
  refine hK12 _ _ ?_; clear hK12
  refine V_condb rfl (fun c411 => ?_) (fun c411 => ?_)
  · replace c411 := hb411.1 c411
    refine V_skipk [0, 1, 6, 7, 8, 9] (by simp only [proj, lk, reduceIte, Nat.reduceEqDiff]; rfl) ?_
    refine hK11 _ _ ?_; clear hK11
    refine V_seq (fun K14 hK14 => ?_)
    refine V_block ?_
    refine V_seq (fun K15 hK15 => ?_)
    refine V_sr T.mix (by kernel_rfl) (fun K16 hK16 => ?_)
    refine S_mv rfl ?_
    refine S_mv rfl ?_
    refine S_mv rfl ?_
    refine S_mv rfl ?_
    refine S_mv rfl ?_
    obtain ⟨sb, so, rfl, hlt, k, oa, ob, oc, os, ot, hc⟩ := (hs.ext (Nat.le_refl _) hE) i (by exact c411.1)
    refine S_ix T.el22 rfl rfl (by omega) (by omega) ?_
    refine S_ldn T.ag39 rfl (by simpa using hc) ?_
    refine S_call T.hb10 rfl ?_
    refine FC.mono (play_spec hk tgk A uk (2 * i) w k oa ob oc os ot (by omega)) ?_
    rintro v' h4 ⟨rfl, tg4, u4, w4, hx4⟩
    have hE4 : Ext (fun b => h.size ≤ b) h h4 := hE.trans (by rw [hAb] at hx4; exact hx4)
    refine S_notb rfl ?_
    refine S_nil (hK16 _ _ (V_keep [0, 1, 6, 7, 8, 9, 38] (by simp only [proj, lk, reduceIte, Nat.reduceEqDiff]; rfl) ?_)); clear hK16
    refine V_condb rfl (fun c412 => ?_) (fun c412 => ?_)
    · skip
      cases c412
    · skip
      refine V_skipk [0, 1, 6, 7, 8, 9] (by simp only [proj, lk, reduceIte, Nat.reduceEqDiff]; rfl) ?_
      refine hK15 _ _ ?_; clear hK15
      refine V_seqJ (fun l h' => (True) ∧ l = [(0, .slice (some ⟨sb, so, none⟩) n cap), (1, .bool (decide (q = true))), (6, .pointer (some ⟨A.X, 0, none⟩)), (7, .pointer (some ⟨A.M, 0, none⟩)), (8, .pointer (some ⟨A.U, 0, none⟩)), (9, .int .i64 i)] ∧ h4 = h') ?_ ?_
      · skip
        refine V_sr T.mix (by kernel_rfl) (fun K18 hK18 => ?_)
        refine S_mv rfl ?_
        refine S_not rfl ?_
        refine S_nil (hK18 _ _ (V_keep [0, 1, 6, 7, 8, 9, 42] (by simp only [proj, lk, reduceIte, Nat.reduceEqDiff]; rfl) ?_)); clear hK18
        refine V_condp rfl (fun c415 => ?_) (fun c415 => ?_)
        · skip
          refine V_sr T.mix (by kernel_rfl) (fun K19 hK19 => ?_)
          refine S_mv rfl ?_
          refine S_mv rfl ?_
          refine S_call T.hb9 rfl ?_
          refine FC.mono (alike_spec h4 A.X u4.c w4.cx u4.lf w4.ck A.M u4.la u4.kb w4.mo w4.fi) ?_
          rintro v' h' ⟨rfl, rfl⟩
          refine S_notb rfl ?_
          refine S_nil (hK19 _ _ (V_keep [0, 1, 6, 7, 8, 9, 46] (by simp only [proj, lk, reduceIte, Nat.reduceEqDiff]; rfl) ?_)); clear hK19
          refine V_condb rfl (fun c416 => ?_) (fun c416 => ?_)
          · skip
            cases c416
          · skip
            refine V_skipk [0, 1, 6, 7, 8, 9] (by simp only [proj, lk, reduceIte, Nat.reduceEqDiff]; rfl) ?_
            exact ⟨trivial, rfl, rfl⟩
        · skip
          refine V_skipk [0, 1, 6, 7, 8, 9] (by simp only [proj, lk, reduceIte, Nat.reduceEqDiff]; rfl) ?_
          exact ⟨trivial, rfl, rfl⟩
      rintro l h' ⟨htt, rfl, rfl⟩
      refine V_sr T.mix (by kernel_rfl) (fun K20 hK20 => ?_)
      refine S_mv rfl ?_
      refine S_call T.hb11 rfl ?_
      refine FC.mono (untouched_spec h4 A.U u4.d w4.dd w4.kp) ?_
      rintro v' h' ⟨rfl, rfl⟩
      refine S_notb rfl ?_
      refine S_nil (hK20 _ _ (V_keep [0, 1, 6, 7, 8, 9, 51] (by simp only [proj, lk, reduceIte, Nat.reduceEqDiff]; rfl) ?_)); clear hK20
      refine V_condb rfl (fun c420 => ?_) (fun c420 => ?_)
      · skip
        cases c420
      · skip
        refine V_skipk [0, 1, 6, 7, 8, 9] (by simp only [proj, lk, reduceIte, Nat.reduceEqDiff]; rfl) ?_
        refine hK14 _ _ ?_; clear hK14
        refine V_reg T.mix (by kernel_rfl) ?_
        refine S_mv rfl ?_
        first | refine S_add rfl rfl (by omega) (by omega) ?_ | refine S_bin rfl rfl rfl ?_
        refine S_as rfl ?_
        refine S_nilk [0, 1, 6, 7, 8, 9] (by simp only [proj, lk, reduceIte, Nat.reduceEqDiff]; rfl) ?_
        exact hK10 _ _ ⟨_, by omega, i + 1, h4, tg4, u4, by omega, by omega, w4, hE4, rfl, rfl, rfl⟩
  · replace c411 : ¬ _ := fun hp => Bool.false_ne_true (c411.symm.trans (hb411.2 hp))
    refine V_exitk [0] rfl (by simp only [proj, lk, reduceIte, Nat.reduceEqDiff]; rfl) ?_
    refine hK8 _ _ ?_; clear hK8
    refine V_seq (fun K21 hK21 => ?_)
    refine V_sr T.mix (by kernel_rfl) (fun K22 hK22 => ?_)
    refine S_mv rfl ?_
    refine S_lenl T.el22 rfl ?_
    refine S_bin rfl rfl rfl ?_
    refine S_nil (hK22 _ _ (V_keep [0, 56] (by simp only [proj, lk, reduceIte, Nat.reduceEqDiff]; rfl) ?_)); clear hK22
    refine V_condp rfl (fun c424 => ?_) (fun c424 => ?_)
    · skip
      refine V_sr T.mix (by kernel_rfl) (fun K23 hK23 => ?_)
      refine S_mv rfl ?_
      refine S_lenl T.el22 rfl ?_
      refine S_as rfl ?_
      refine S_as rfl ?_
      refine S_nil (hK23 _ _ (V_keep [4, 5] (by simp only [proj, lk, reduceIte, Nat.reduceEqDiff]; rfl) ?_)); clear hK23
      refine V_ret ?_
      refine hR _ _ (ret2 rfl rfl rfl ?_)
      exact ⟨⟨_, rfl⟩, hE⟩
    · skip
      refine V_skipk [] (by simp only [proj, lk, reduceIte, Nat.reduceEqDiff]; rfl) ?_
      refine hK21 _ _ ?_; clear hK21
      refine V_sr T.mix (by kernel_rfl) (fun K24 hK24 => ?_)
      refine S_as rfl ?_
      refine S_as rfl ?_
      refine S_nil (hK24 _ _ (V_keep [4, 5] (by simp only [proj, lk, reduceIte, Nat.reduceEqDiff]; rfl) ?_)); clear hK24
      refine V_ret ?_
      refine hR _ _ (ret2 rfl rfl rfl ?_)
      exact ⟨⟨_, rfl⟩, hE⟩
set_option maxHeartbeats 400000 in
theorem rut_spec (h : Heap) (sa : Option Addr) (n cap : Nat) (hs : Scr h.size h sa n) (hn : n ≤ 9223372036854775807) :
    FC Try.prog 5 (#[.slice sa n cap] : Array Value) h fun v h' => v = .int .i64 (-1) ∧ Ext (fun b => h.size ≤ b) h h' := by
  refine FC_of [(0, .slice sa n cap)] Try.func5 rfl Try.ntmps5 (by simp) rfl (fun R hR => ?_)
  refine V_sr T.mix (by kernel_rfl) (fun K1 hK1 => ?_)
  refine S_as rfl ?_
  refine S_nil (hK1 _ _ (V_keep [0] (by simp only [proj, lk, reduceIte, Nat.reduceEqDiff]; rfl) ?_)); clear hK1
  refine V_sr T.mix (by kernel_rfl) (fun K2 hK2 => ?_)
  refine S_mv rfl ?_
  refine S_call T.hb6 rfl ?_
  refine FC.mono (walk_spec h sa n cap false hs hn) ?_
  rintro v h2 ⟨⟨j, rfl⟩, hE⟩
  refine S_mv rfl ?_
  refine S_ex rfl rfl ?_
  refine S_ex rfl rfl ?_
  refine S_as rfl ?_
  refine S_as rfl ?_
  refine S_nil (hK2 _ _ (V_keep [3] (by simp only [proj, lk, reduceIte, Nat.reduceEqDiff]; rfl) ?_)); clear hK2
  refine V_sr T.mix (by kernel_rfl) (fun K3 hK3 => ?_)
  refine S_mv rfl ?_
  refine S_as rfl ?_
  refine S_nil (hK3 _ _ (V_keep [2] (by simp only [proj, lk, reduceIte, Nat.reduceEqDiff]; rfl) ?_)); clear hK3
  refine V_ret ?_
  refine hR _ _ (ret1 rfl rfl ?_)
  exact ⟨rfl, hE⟩
set_option maxHeartbeats 400000 in
theorem ref_spec (h : Heap) (sa : Option Addr) (n cap : Nat) (hs : Scr h.size h sa n) (hn : n ≤ 9223372036854775807) :
    FC Try.prog 3 (#[.slice sa n cap] : Array Value) h fun v h' => v = .bool true ∧ Ext (fun b => h.size ≤ b) h h' := by
  refine FC_of [(0, .slice sa n cap)] Try.func3 rfl Try.ntmps3 (by simp) rfl (fun R hR => ?_)
  refine V_sr T.mix (by kernel_rfl) (fun K1 hK1 => ?_)
  refine S_as rfl ?_
  refine S_nil (hK1 _ _ (V_keep [0] (by simp only [proj, lk, reduceIte, Nat.reduceEqDiff]; rfl) ?_)); clear hK1
  refine V_sr T.mix (by kernel_rfl) (fun K2 hK2 => ?_)
  refine S_mv rfl ?_
  refine S_call T.hb5 rfl ?_
  refine FC.mono (rut_spec h sa n cap hs hn) ?_
  rintro v h2 ⟨rfl, hE⟩
  refine S_bin rfl rfl rfl ?_
  refine S_as rfl ?_
  refine S_nil (hK2 _ _ (V_keep [2] (by simp only [proj, lk, reduceIte, Nat.reduceEqDiff]; rfl) ?_)); clear hK2
  refine V_ret ?_
  refine hR _ _ (ret1 rfl rfl ?_)
  exact ⟨rfl, hE⟩
set_option maxHeartbeats 400000 in
theorem refq_spec (h : Heap) (sa : Option Addr) (n cap : Nat) (hs : Scr h.size h sa n) (hn : n ≤ 9223372036854775807) :
    FC Try.prog 4 (#[.slice sa n cap] : Array Value) h fun v h' => v = .bool true ∧ Ext (fun b => h.size ≤ b) h h' := by
  refine FC_of [(0, .slice sa n cap)] Try.func4 rfl Try.ntmps4 (by simp) rfl (fun R hR => ?_)
  refine V_sr T.mix (by kernel_rfl) (fun K1 hK1 => ?_)
  refine S_as rfl ?_
  refine S_nil (hK1 _ _ (V_keep [0] (by simp only [proj, lk, reduceIte, Nat.reduceEqDiff]; rfl) ?_)); clear hK1
  refine V_sr T.mix (by kernel_rfl) (fun K2 hK2 => ?_)
  refine S_mv rfl ?_
  refine S_call T.hb6 rfl ?_
  refine FC.mono (walk_spec h sa n cap true hs hn) ?_
  rintro v h2 ⟨⟨j, rfl⟩, hE⟩
  refine S_mv rfl ?_
  refine S_ex rfl rfl ?_
  refine S_ex rfl rfl ?_
  refine S_as rfl ?_
  refine S_as rfl ?_
  refine S_nil (hK2 _ _ (V_keep [3] (by simp only [proj, lk, reduceIte, Nat.reduceEqDiff]; rfl) ?_)); clear hK2
  refine V_sr T.mix (by kernel_rfl) (fun K3 hK3 => ?_)
  refine S_mv rfl ?_
  refine S_bin rfl rfl rfl ?_
  refine S_as rfl ?_
  refine S_nil (hK3 _ _ (V_keep [2] (by simp only [proj, lk, reduceIte, Nat.reduceEqDiff]; rfl) ?_)); clear hK3
  refine V_ret ?_
  refine hR _ _ (ret1 rfl rfl ?_)
  exact ⟨rfl, hE⟩
end Go.Proofs.Qxb6500407a
