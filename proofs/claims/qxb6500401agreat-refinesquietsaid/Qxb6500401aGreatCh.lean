import Derived.Test.Qxb6500401aGreatCg
set_option linter.unusedVariables false
set_option linter.unusedSimpArgs false
namespace Go.Proofs.Qxb6500401aGreat.ChkW
open Go.Eng Go.Cnf

theorem bx_end (s : ByteArray) : ccls (bx s s.size) = 1 := by unfold bx; rw [if_neg (by omega)]; rfl
theorem bx_end2 (s : ByteArray) : bx s s.size = 32 := by unfold bx; rw [if_neg (by omega)]
theorem Ans.err {lo : Nat} {h : Heap} {r : Res} {e i : Nat} (hr : r = (e, i, [])) : Ans lo h r #[.int .i64 e, .int .i64 i, .slice none 0 0] :=
  ⟨none, fun b hb => by simp [blkA] at hb, by rw [hr]; rfl, by rw [hr]; exact IL.nil _, fun _ => rfl⟩
theorem OwnR_lo {lo : Nat} {h : Heap} {a : Option Addr} {k cap : Nat} {xs : List Value} {e : TypeId} {size : Nat} (ho : OwnR lo h a k cap xs e size) : OwnR 0 h a k cap xs e size := by
  rcases ho with h1 | ⟨b, cs, h1, _, h2⟩
  · exact .inl h1
  · exact .inr ⟨b, cs, h1, Nat.zero_le _, h2⟩
theorem OwnR_up {lo lo' : Nat} {h : Heap} {a : Option Addr} {k cap : Nat} {xs : List Value} {e : TypeId} {size : Nat} (hl : lo' ≤ lo) (ho : OwnR lo h a k cap xs e size) : OwnR lo' h a k cap xs e size := by
  rcases ho with h1 | ⟨b, cs, h1, h3, h2⟩
  · exact .inl h1
  · exact .inr ⟨b, cs, h1, by omega, h2⟩
theorem norm_u {xs : List Int} {v : Value} {h h' : Heap} (hn : (Taut xs ∧ v = .tuple #[.slice none 0 0, .bool false]) ∨ (¬ Taut xs ∧ ∃ a' cap', v = .tuple #[.slice a' (nrmTo xs 12).length cap', .bool true] ∧ OwnR h.size h' a' (nrmTo xs 12).length cap' (ints (nrmTo xs 12)) 3 1)) :
    ∃ na nc nl kp, v = .tuple #[.slice na (nl : List Int).length nc, .bool (decide (kp = true))] ∧ OwnR h.size h' na nl.length nc (ints nl) 3 1 ∧ nl.length ≤ 24 ∧ (kp = true → ¬ Taut xs ∧ nl = nrmTo xs 12) ∧ (¬ kp = true → Taut xs) := by
  rcases hn with ⟨ht, rfl⟩ | ⟨ht, a', c', rfl, ho⟩
  · exact ⟨none, 0, [], false, rfl, OwnR.nil _ _ _ _, by simp, by simp, fun _ => ht⟩
  · exact ⟨a', c', nrmTo xs 12, true, rfl, ho, by have := nrm_len xs 12; omega, fun _ => ⟨ht, rfl⟩, by simp⟩
def FR (h1 hk : Heap) (a : Option Addr) (c : Nat) (l : List Int) : Prop := OwnR h1.size hk a l.length c (ints l) 3 1
set_option maxHeartbeats 400000 in
theorem mparse_spec (h : Heap) (M : Nat) (u w : Int) (hM : B h M #[.int .i64 u, .int .i64 w] 109) (s : ByteArray) :
    FC Tryz.prog 80 (#[.pointer (some ⟨M, 0, none⟩), .string s] : Array Value) h fun v h' => ∃ cs, v = .agg cs ∧ Ans h.size h' (parseF s) cs ∧ Ext (fun b => b = M) h h' ∧ ∃ u w, B h' M #[.int .i64 u, .int .i64 w] 109 := by
  have hMl := hM.lt
  have hMR : ¬ M = h.size := by omega
  refine FC_of [(0, .pointer (some ⟨M, 0, none⟩)), (1, .string s)] Tryz.func80 rfl Tryz.ntmps80 (by simp) rfl (fun R hR => ?_)
  refine V_sr T.mix (by kernel_rfl) (fun K1 hK1 => ?_)
  refine S_allocA T.z115 ?_
  generalize hh : Array.push h _ = hA
  have hRc : B hA h.size #[.int .i64 0, .int .i64 0, .slice none 0 0] 115 := by rw [← hh]; exact B.new _ _ _
  have hEA : Ext (fun b => b = M) h hA := by rw [← hh]; exact Ext.push _ _ _
  replace hM := hM.ext (show Ext (fun _ => False) h hA by rw [← hh]; exact Ext.push _ _ _) (fun f => f)
  clear hh
  have hM0 : cellH hA ⟨M, 0, none⟩ = some (.int .i64 u) := hM.cell 0
  have hMok : okPut hA ⟨M, 0, none⟩ = true := hM.ok (by simp)
  refine S_nil (hK1 _ _ (V_keep [0, 1, 4] (by simp only [proj, lk, reduceIte, Nat.reduceEqDiff]; rfl) ?_)); clear hK1
  refine V_sr T.mix (by kernel_rfl) (fun K2 hK2 => ?_)
  refine S_mv rfl ?_
  refine S_nc rfl ?_
  first | refine S_fa0 T.f109_0 rfl ?_ | refine S_fa T.f109_0 rfl ?_
  refine S_ldK T.ag3 rfl (fun K' hK' => ?_)
  simp (disch := omega) only [hM0, oP_some, Nat.add_zero]
  refine hK' _ ?_; clear hK' K'
  refine S_bin rfl rfl rfl ?_
  generalize hw2 : IntKind.i64.wrap _ = u2
  refine S_nc rfl ?_
  first | refine S_fa0 T.f109_0 rfl ?_ | refine S_fa T.f109_0 rfl ?_
  refine S_st T.sz3 rfl rfl rfl rfl (by simp (disch := omega) only [hMok]) ?_
  generalize hh : putH _ _ _ = h1
  replace hM : B h1 M #[.int .i64 u2, .int .i64 w] 109 := by rw [← hh]; exact hM.put 0 _
  have hEp : Ext (fun b => b = M) hA h1 := by rw [← hh]; exact Ext.put _ _ rfl
  clear hh hM0 hMok
  have hE1 := hEA.trans hEp
  replace hRc := hRc.ext hEp (fun e => hMR e.symm)
  have hRl := hRc.lt
  have hRok : ∀ j, j < 3 → okPut h1 ⟨h.size, j, none⟩ = true := fun j hj => hRc.ok (by simpa using hj)
  have hE := Ext.refl (fun _ => False) h1
  refine S_nil (hK2 _ _ (V_keep [1, 4] (by simp only [proj, lk, reduceIte, Nat.reduceEqDiff]; rfl) ?_)); clear hK2
  refine V_seq (fun K3 hK3 => ?_)
  refine V_sr T.mix (by kernel_rfl) (fun K4 hK4 => ?_)
  refine S_mv rfl ?_
  refine S_lens T.kd9 rfl ?_
  refine S_bin rfl rfl rfl ?_
  refine S_nil (hK4 _ _ (V_keep [1, 4, 26] (by simp only [proj, lk, reduceIte, Nat.reduceEqDiff]; rfl) ?_)); clear hK4
  refine V_condp rfl (fun c82 => ?_) (fun c82 => ?_)
  · skip
    refine V_sr T.mix (by kernel_rfl) (fun K5 hK5 => ?_)
    refine S_bld rfl (T.bld115_0 _) ?_
    refine S_stl T.sz115 rfl rfl rfl rfl (fun j hj => by simp (disch := omega) only [hRok]) ?_
    generalize hh : putsH _ _ _ _ = h9
    have hRc9 : B h9 h.size #[.int .i64 1, .int .i64 0, .slice none 0 0] 115 := by rw [← hh]; exact B.puts_all (hRc.ext hE (fun f => f)) (cs' := #[.int .i64 1, .int .i64 0, .slice none 0 0]) rfl
    have hE9 : Ext (fun k => k = h.size) h1 h9 := by rw [← hh]; exact Ext.puts (S := fun k => k = h.size) rfl _ _ _
    clear hh
    refine S_nil (hK5 _ _ (V_keep [4] (by simp only [proj, lk, reduceIte, Nat.reduceEqDiff]; rfl) ?_)); clear hK5
    refine V_ret ?_
    refine hR _ _ (retc1 rfl rfl T.ag115 hRc9 (by rfl) ?_)
    have hpf : parseF s = (1, 0, []) := by unfold parseF; rw [if_pos (by omega)]
    exact ⟨_, rfl, Ans.err (e := 1) (i := 0) (hpf), (hE1.step hE (fun b hb f => f.elim)).step hE9 (fun b hb e => by omega), _, _, (hM.ext hE (fun f => f)).ext hE9 (fun e => hMR e)⟩
  · skip
    have hpf : parseF s = outF s.size (run (bx s) (s.size + 1) 0 p0) := by unfold parseF; rw [if_neg (by omega)]
    refine V_skipk [1, 4] (by simp only [proj, lk, reduceIte, Nat.reduceEqDiff]; rfl) ?_
    refine hK3 _ _ ?_; clear hK3
    refine V_sr T.mix (by kernel_rfl) (fun K6 hK6 => ?_)
    refine S_as rfl ?_
    refine S_as rfl ?_
    refine S_nil (hK6 _ _ (V_keep [1, 4, 5, 6] (by simp only [proj, lk, reduceIte, Nat.reduceEqDiff]; rfl) ?_)); clear hK6
    refine V_sr T.mix (by kernel_rfl) (fun K7 hK7 => ?_)
    refine S_as rfl ?_
    refine S_nil (hK7 _ _ (V_keep [1, 4, 5, 6, 7] (by simp only [proj, lk, reduceIte, Nat.reduceEqDiff]; rfl) ?_)); clear hK7
    refine V_sr T.mix (by kernel_rfl) (fun K8 hK8 => ?_)
    refine S_as rfl ?_
    refine S_nil (hK8 _ _ (V_keep [1, 4, 5, 6, 7, 8] (by simp only [proj, lk, reduceIte, Nat.reduceEqDiff]; rfl) ?_)); clear hK8
    refine V_sr T.mix (by kernel_rfl) (fun K9 hK9 => ?_)
    refine S_as rfl ?_
    refine S_nil (hK9 _ _ (V_keep [1, 4, 5, 6, 7, 8, 9] (by simp only [proj, lk, reduceIte, Nat.reduceEqDiff]; rfl) ?_)); clear hK9
    refine V_seq (fun K10 hK10 => ?_)
    refine V_block ?_
    refine V_loop (fun m l h' => ∃ (i : Nat) (hk : Heap) (fa : Option Addr) (fc : Nat) (fl : List Int) (ra : Option Addr) (rc : Nat) (rl : List Int) (dl op : Bool), (i ≤ s.size) ∧ (Sim (bx s) s.size (parseF s) i fl rl dl op) ∧ (FR h1 hk fa fc fl) ∧ (FR h1 hk ra rc rl) ∧ (Ext (fun _ => False) h1 hk) ∧ (∀ b, blkA fa = some b → blkA ra ≠ some b) ∧ (fl.length ≤ 26 * i) ∧ (rl.length ≤ i) ∧ m = s.size - i ∧ l = [(1, .string s), (4, .pointer (some ⟨h.size, 0, none⟩)), (5, .slice fa fl.length fc), (6, .slice ra rl.length rc), (7, .bool (decide (dl = true))), (8, .bool (decide (op = true))), (9, .int .i64 i)] ∧ hk = h') _ ⟨0, h1, none, 0, [], none, 0, [], false, false, by omega, by rw [hpf]; exact Sim.start _ _, OwnR.nil _ _ _ _, OwnR.nil _ _ _ _, hE, fun b hb => by simp [blkA] at hb, by simp, by simp, rfl, rfl, rfl⟩ ?_
    rintro m l h' ⟨i, hk, fa, fc, fl, ra, rc, rl, dl, op, hi, hS, hf, hr, hE, hdj, hfl, hrl, rfl, rfl, rfl⟩ K11 hK11
    clear hRok
    have hRok : ∀ j, j < 3 → okPut hk ⟨h.size, j, none⟩ = true := fun j hj => (hRc.ext hE (fun f => f)).ok (by simpa using hj)
    refine V_seq (fun K12 hK12 => ?_)
    refine V_sr T.mix (by kernel_rfl) (fun K13 hK13 => ?_)
    refine S_mv rfl ?_
    refine S_mv rfl ?_
    refine S_lens T.kd9 rfl ?_
    refine S_bin rfl rfl rfl ?_
    refine S_nil (hK13 _ _ (V_keep [1, 4, 5, 6, 7, 8, 9, 31] (by simp only [proj, lk, reduceIte, Nat.reduceEqDiff]; rfl) ?_)); clear hK13
    refine V_condp rfl (fun c89 => ?_) (fun c89 => ?_)
    · skip
      refine V_skipk [1, 4, 5, 6, 7, 8, 9] (by simp only [proj, lk, reduceIte, Nat.reduceEqDiff]; rfl) ?_
      refine hK12 _ _ ?_; clear hK12
      refine V_block ?_
      refine V_seq (fun K14 hK14 => ?_)
      refine V_sr T.mix (by kernel_rfl) (fun K15 hK15 => ?_)
      refine S_mv rfl ?_
      refine S_mv rfl ?_
      refine S_si T.kd9 rfl rfl (by omega) (by omega) ?_
      rw [show (i : Int).toNat = i by omega, bx_at (by omega)]
      refine S_call T.hb108 rfl ?_
      refine FC.mono (space_spec hk _) ?_
      rintro v h' ⟨rfl, rfl⟩
      refine S_nil (hK15 _ _ (V_keep [1, 4, 5, 6, 7, 8, 9, 35] (by simp only [proj, lk, reduceIte, Nat.reduceEqDiff]; rfl) ?_)); clear hK15
      refine V_condb rfl (fun c90 => ?_) (fun c90 => ?_)
      · skip
        refine V_sr T.mix (by kernel_rfl) (fun K16 hK16 => ?_)
        refine S_mv rfl ?_
        first | refine S_add rfl rfl (by omega) (by omega) ?_ | refine S_bin rfl rfl rfl ?_
        refine S_as rfl ?_
        refine S_nil (hK16 _ _ (V_keep [1, 4, 5, 6, 7, 8, 9] (by simp only [proj, lk, reduceIte, Nat.reduceEqDiff]; rfl) ?_)); clear hK16
        refine V_exitk [1, 4, 5, 6, 7, 8, 9] rfl (by simp only [proj, lk, reduceIte, Nat.reduceEqDiff]; rfl) ?_
        exact hK11 _ _ ⟨_, by omega, i + 1, hk, fa, fc, fl, ra, rc, rl, dl, op, by omega, hS.space (by omega) (by simpa using c90), hf, hr, hE, hdj, by omega, by omega, rfl, rfl, rfl⟩
      · skip
        refine V_skipk [1, 4, 5, 6, 7, 8, 9] (by simp only [proj, lk, reduceIte, Nat.reduceEqDiff]; rfl) ?_
        refine hK14 _ _ ?_; clear hK14
        refine V_seq (fun K17 hK17 => ?_)
        refine V_sr T.mix (by kernel_rfl) (fun K18 hK18 => ?_)
        refine S_mv rfl ?_
        refine S_mv rfl ?_
        refine S_si T.kd9 rfl rfl (by omega) (by omega) ?_
        rw [show (i : Int).toNat = i by omega, bx_at (by omega)]
        refine S_bin rfl rfl rfl ?_
        refine S_nil (hK18 _ _ (V_keep [1, 4, 5, 6, 7, 8, 9, 41] (by simp only [proj, lk, reduceIte, Nat.reduceEqDiff]; rfl) ?_)); clear hK18
        refine V_condp rfl (fun c94 => ?_) (fun c94 => ?_)
        · skip
          refine V_keep [1, 4, 5, 6, 7, 8, 9] (by simp only [proj, lk, reduceIte, Nat.reduceEqDiff]; rfl) ?_
          refine V_seq (fun K19 hK19 => ?_)
          refine V_block ?_
          refine V_loop (fun m l h' => ∃ (k : Nat), (i ≤ k) ∧ (k ≤ s.size) ∧ (∀ m, i ≤ m → m < k → bx s m ≠ 10) ∧ m = s.size - k ∧ l = [(1, .string s), (4, .pointer (some ⟨h.size, 0, none⟩)), (5, .slice fa fl.length fc), (6, .slice ra rl.length rc), (7, .bool (decide (dl = true))), (8, .bool (decide (op = true))), (9, .int .i64 k)] ∧ hk = h') _ ⟨i, by omega, by omega, fun m h1 h2 => by omega, rfl, rfl, rfl⟩ ?_
          rintro m l h' ⟨k, hk1, hk2, hnk, rfl, rfl, rfl⟩ K20 hK20
          refine V_seq (fun K21 hK21 => ?_)
          refine V_sr T.mix (by kernel_rfl) (fun K22 hK22 => ?_)
          refine S_cut (K' := fun l h' => ∃ b : Bool, (b = true ↔ (k < s.size ∧ bx s k ≠ 10)) ∧ l = [(1, .string s), (4, .pointer (some ⟨h.size, 0, none⟩)), (5, .slice fa fl.length fc), (6, .slice ra rl.length rc), (7, .bool (decide (dl = true))), (8, .bool (decide (op = true))), (9, .int .i64 k), (51, .bool b)] ∧ hk = h') ?_ ?_
          · skip
            refine S_mv rfl ?_
            refine S_mv rfl ?_
            refine S_lens T.kd9 rfl ?_
            refine S_bin rfl rfl rfl ?_
            refine S_mv rfl ?_
            refine S_dec (fun g95 => ?_) (fun g95 => ?_)
            · skip
              refine S_gt rfl ?_
              refine S_mv rfl ?_
              refine S_gt rfl ?_
              refine S_mv rfl ?_
              refine S_gt rfl ?_
              refine S_si T.kd9 rfl rfl (by omega) (by omega) ?_
              rw [show (k : Int).toNat = k by omega, bx_at (by omega)]
              refine S_gt rfl ?_
              refine S_bin rfl rfl rfl ?_
              refine S_pt rfl rfl ?_
              exact S_nilk [1, 4, 5, 6, 7, 8, 9, 51] (by simp only [proj, lk, reduceIte, Nat.reduceEqDiff]; rfl) ⟨_, (by first | (simp [*]; done) | (simp; omega)), rfl, rfl⟩
            · skip
              refine S_gf rfl ?_
              refine S_gf rfl ?_
              refine S_gf rfl ?_
              refine S_gf rfl ?_
              refine S_pf rfl rfl ?_
              exact S_nilk [1, 4, 5, 6, 7, 8, 9, 51] (by simp only [proj, lk, reduceIte, Nat.reduceEqDiff]; rfl) ⟨_, (by first | (simp [*]; done) | (simp; omega)), rfl, rfl⟩
          rintro l h' ⟨b, hb95, rfl, rfl⟩
          refine hK22 _ _ ?_; clear hK22
          refine V_condb rfl (fun c95 => ?_) (fun c95 => ?_)
          · replace c95 := hb95.1 c95
            refine V_skipk [1, 4, 5, 6, 7, 8, 9] (by simp only [proj, lk, reduceIte, Nat.reduceEqDiff]; rfl) ?_
            refine hK21 _ _ ?_; clear hK21
            refine V_block ?_
            refine V_reg T.mix (by kernel_rfl) ?_
            refine S_mv rfl ?_
            first | refine S_add rfl rfl (by omega) (by omega) ?_ | refine S_bin rfl rfl rfl ?_
            refine S_as rfl ?_
            refine S_nilk [1, 4, 5, 6, 7, 8, 9] (by simp only [proj, lk, reduceIte, Nat.reduceEqDiff]; rfl) ?_
            exact hK20 _ _ ⟨_, by omega, k + 1, by omega, by omega, fun m h1 h2 => by by_cases e : m = k; (subst e; exact c95.2); (exact hnk m h1 (by omega)), rfl, rfl, rfl⟩
          · replace c95 : ¬ _ := fun hp => Bool.false_ne_true (c95.symm.trans (hb95.2 hp))
            have hek : k < s.size → bx s k = 10 := fun hh => by by_cases e : bx s k = 10; (exact e); (exact absurd ⟨hh, e⟩ c95)
            have hik : i < k := by by_cases e : i < k; (exact e); (have e2 : k = i := by omega); (subst e2; exact absurd ⟨by omega, by omega⟩ c95)
            refine V_exitk [1, 4, 5, 6, 7, 8, 9] rfl (by simp only [proj, lk, reduceIte, Nat.reduceEqDiff]; rfl) ?_
            refine hK19 _ _ ?_; clear hK19
            refine V_exitk [1, 4, 5, 6, 7, 8, 9] rfl (by simp only [proj, lk, reduceIte, Nat.reduceEqDiff]; rfl) ?_
            exact hK11 _ _ ⟨_, by omega, k, hk, fa, fc, fl, ra, rc, rl, dl, op, by omega, hS.comment (by omega) hik (by omega) hnk hek (bx_end2 s), hf, hr, hE, hdj, by omega, by omega, rfl, rfl, rfl⟩
        · skip
          refine V_skipk [1, 4, 5, 6, 7, 8, 9] (by simp only [proj, lk, reduceIte, Nat.reduceEqDiff]; rfl) ?_
          refine hK17 _ _ ?_; clear hK17
          refine V_sr T.mix (by kernel_rfl) (fun K24 hK24 => ?_)
          refine S_mv rfl ?_
          refine S_as rfl ?_
          refine S_nil (hK24 _ _ (V_keep [1, 4, 5, 6, 7, 8, 9, 10] (by simp only [proj, lk, reduceIte, Nat.reduceEqDiff]; rfl) ?_)); clear hK24
          refine V_seq (fun K25 hK25 => ?_)
          refine V_block ?_
          refine V_loop (fun m l h' => ∃ (j : Nat), (i ≤ j) ∧ (j ≤ s.size) ∧ (∀ m, i ≤ m → m < j → ccls (bx s m) ≠ 1) ∧ m = s.size - j ∧ l = [(1, .string s), (4, .pointer (some ⟨h.size, 0, none⟩)), (5, .slice fa fl.length fc), (6, .slice ra rl.length rc), (7, .bool (decide (dl = true))), (8, .bool (decide (op = true))), (9, .int .i64 i), (10, .int .i64 j)] ∧ hk = h') _ ⟨i, by omega, by omega, fun m h1 h2 => by omega, rfl, rfl, rfl⟩ ?_
          rintro m l h' ⟨j, hj1, hj2, hnj, rfl, rfl, rfl⟩ K26 hK26
          refine V_seq (fun K27 hK27 => ?_)
          refine V_sr T.mix (by kernel_rfl) (fun K28 hK28 => ?_)
          refine S_cut (K' := fun l h' => ∃ b : Bool, (b = true ↔ (j < s.size ∧ ccls (bx s j) ≠ 1)) ∧ l = [(1, .string s), (4, .pointer (some ⟨h.size, 0, none⟩)), (5, .slice fa fl.length fc), (6, .slice ra rl.length rc), (7, .bool (decide (dl = true))), (8, .bool (decide (op = true))), (9, .int .i64 i), (10, .int .i64 j), (65, .bool b)] ∧ hk = h') ?_ ?_
          · skip
            refine S_mv rfl ?_
            refine S_mv rfl ?_
            refine S_lens T.kd9 rfl ?_
            refine S_bin rfl rfl rfl ?_
            refine S_mv rfl ?_
            refine S_dec (fun g101 => ?_) (fun g101 => ?_)
            · skip
              refine S_gt rfl ?_
              refine S_mv rfl ?_
              refine S_gt rfl ?_
              refine S_mv rfl ?_
              refine S_gt rfl ?_
              refine S_si T.kd9 rfl rfl (by omega) (by omega) ?_
              rw [show (j : Int).toNat = j by omega, bx_at (by omega)]
              refine S_gt rfl ?_
              refine S_call T.hb108 rfl ?_
              refine FC.mono (space_spec hk _) ?_
              rintro v h' ⟨rfl, rfl⟩
              refine S_gt rfl ?_
              refine S_notb rfl ?_
              refine S_pt rfl rfl ?_
              exact S_nilk [1, 4, 5, 6, 7, 8, 9, 10, 65] (by simp only [proj, lk, reduceIte, Nat.reduceEqDiff]; rfl) ⟨_, (by first | (simp [*]; done) | (simp; omega)), rfl, rfl⟩
            · skip
              refine S_gf rfl ?_
              refine S_gf rfl ?_
              refine S_gf rfl ?_
              refine S_gf rfl ?_
              refine S_gf rfl ?_
              refine S_pf rfl rfl ?_
              exact S_nilk [1, 4, 5, 6, 7, 8, 9, 10, 65] (by simp only [proj, lk, reduceIte, Nat.reduceEqDiff]; rfl) ⟨_, (by first | (simp [*]; done) | (simp; omega)), rfl, rfl⟩
          rintro l h' ⟨b, hb101, rfl, rfl⟩
          refine hK28 _ _ ?_; clear hK28
          refine V_condb rfl (fun c101 => ?_) (fun c101 => ?_)
          · replace c101 := hb101.1 c101
            refine V_skipk [1, 4, 5, 6, 7, 8, 9, 10] (by simp only [proj, lk, reduceIte, Nat.reduceEqDiff]; rfl) ?_
            refine hK27 _ _ ?_; clear hK27
            refine V_block ?_
            refine V_reg T.mix (by kernel_rfl) ?_
            refine S_mv rfl ?_
            first | refine S_add rfl rfl (by omega) (by omega) ?_ | refine S_bin rfl rfl rfl ?_
            refine S_as rfl ?_
            refine S_nilk [1, 4, 5, 6, 7, 8, 9, 10] (by simp only [proj, lk, reduceIte, Nat.reduceEqDiff]; rfl) ?_
            exact hK26 _ _ ⟨_, by omega, j + 1, by omega, by omega, fun m h1 h2 => by by_cases e : m = j; (subst e; exact c101.2); (exact hnj m h1 (by omega)), rfl, rfl, rfl⟩
          · replace c101 : ¬ _ := fun hp => Bool.false_ne_true (c101.symm.trans (hb101.2 hp))
            have hsj : ccls (bx s j) = 1 := by by_cases e : j < s.size; (by_cases e2 : ccls (bx s j) = 1; (exact e2); (exact absurd ⟨e, e2⟩ c101)); (rw [show j = s.size by omega]; exact bx_end s)
            have hij : i < j := by by_cases e : i < j; (exact e); (have e2 : j = i := by omega); (subst e2; exact absurd hsj (by simpa using c90))
            refine V_exitk [1, 4, 5, 6, 7, 8, 9, 10] rfl (by simp only [proj, lk, reduceIte, Nat.reduceEqDiff]; rfl) ?_
            refine hK25 _ _ ?_; clear hK25
            refine V_seq (fun K30 hK30 => ?_)
            refine V_sr T.mix (by kernel_rfl) (fun K31 hK31 => ?_)
            refine S_mv rfl ?_
            refine S_mv rfl ?_
            refine S_si T.kd9 rfl rfl (by omega) (by omega) ?_
            rw [show (i : Int).toNat = i by omega, bx_at (by omega)]
            refine S_bin rfl rfl rfl ?_
            refine S_nil (hK31 _ _ (V_keep [1, 4, 5, 6, 7, 8, 9, 10, 71] (by simp only [proj, lk, reduceIte, Nat.reduceEqDiff]; rfl) ?_)); clear hK31
            refine V_condp rfl (fun c104 => ?_) (fun c104 => ?_)
            · skip
              refine V_seq (fun K32 hK32 => ?_)
              refine V_sr T.mix (by kernel_rfl) (fun K33 hK33 => ?_)
              refine S_mv rfl ?_
              refine S_nil (hK33 _ _ (V_keep [1, 4, 5, 6, 9, 10, 72] (by simp only [proj, lk, reduceIte, Nat.reduceEqDiff]; rfl) ?_)); clear hK33
              refine V_condp rfl (fun c105 => ?_) (fun c105 => ?_)
              · skip
                refine V_sr T.mix (by kernel_rfl) (fun K34 hK34 => ?_)
                refine S_mv rfl ?_
                refine S_bld rfl (T.bld115_0_1 _ _) ?_
                refine S_stl T.sz115 rfl rfl rfl rfl (fun j hj => by simp (disch := omega) only [hRok]) ?_
                generalize hh : putsH _ _ _ _ = h9
                have hRc9 : B h9 h.size #[.int .i64 2, .int .i64 i, .slice none 0 0] 115 := by rw [← hh]; exact B.puts_all (hRc.ext hE (fun f => f)) (cs' := #[.int .i64 2, .int .i64 i, .slice none 0 0]) rfl
                have hE9 : Ext (fun k => k = h.size) hk h9 := by rw [← hh]; exact Ext.puts (S := fun k => k = h.size) rfl _ _ _
                clear hh
                refine S_nil (hK34 _ _ (V_keep [4] (by simp only [proj, lk, reduceIte, Nat.reduceEqDiff]; rfl) ?_)); clear hK34
                refine V_ret ?_
                refine hR _ _ (retc1 rfl rfl T.ag115 hRc9 (by rfl) ?_)
                exact ⟨_, rfl, Ans.err (e := 2) (i := i) ((hS.d (by omega) hij hj2 hnj hsj).1 (by simpa using c105)), (hE1.step hE (fun b hb f => f.elim)).step hE9 (fun b hb e => by omega), _, _, (hM.ext hE (fun f => f)).ext hE9 (fun e => hMR e)⟩
              · skip
                refine V_skipk [1, 4, 5, 6, 9, 10] (by simp only [proj, lk, reduceIte, Nat.reduceEqDiff]; rfl) ?_
                refine hK32 _ _ ?_; clear hK32
                refine V_seq (fun K35 hK35 => ?_)
                refine V_sr T.mix (by kernel_rfl) (fun K36 hK36 => ?_)
                refine S_mv rfl ?_
                refine S_mv rfl ?_
                first | refine S_sub rfl rfl (by omega) (by omega) ?_ | refine S_bin rfl rfl rfl ?_
                refine S_bin rfl rfl rfl ?_
                refine S_nil (hK36 _ _ (V_keep [1, 4, 5, 6, 9, 10, 78] (by simp only [proj, lk, reduceIte, Nat.reduceEqDiff]; rfl) ?_)); clear hK36
                refine V_condp rfl (fun c108 => ?_) (fun c108 => ?_)
                · skip
                  refine V_sr T.mix (by kernel_rfl) (fun K37 hK37 => ?_)
                  refine S_mv rfl ?_
                  first | refine S_add rfl rfl (by omega) (by omega) ?_ | refine S_bin rfl rfl rfl ?_
                  refine S_bld rfl (T.bld115_0_1 _ _) ?_
                  refine S_stl T.sz115 rfl rfl rfl rfl (fun j hj => by simp (disch := omega) only [hRok]) ?_
                  generalize hh : putsH _ _ _ _ = h9
                  have hRc9 : B h9 h.size #[.int .i64 2, .int .i64 ((i + 1 : Nat)), .slice none 0 0] 115 := by rw [← hh]; exact B.puts_all (hRc.ext hE (fun f => f)) (cs' := #[.int .i64 2, .int .i64 ((i + 1 : Nat)), .slice none 0 0]) rfl
                  have hE9 : Ext (fun k => k = h.size) hk h9 := by rw [← hh]; exact Ext.puts (S := fun k => k = h.size) rfl _ _ _
                  clear hh
                  refine S_nil (hK37 _ _ (V_keep [4] (by simp only [proj, lk, reduceIte, Nat.reduceEqDiff]; rfl) ?_)); clear hK37
                  refine V_ret ?_
                  refine hR _ _ (retc1 rfl rfl T.ag115 hRc9 (by rfl) ?_)
                  exact ⟨_, rfl, Ans.err (e := 2) (i := i + 1) ((hS.d (by omega) hij hj2 hnj hsj).2.1 (by simpa using c105) (by omega)), (hE1.step hE (fun b hb f => f.elim)).step hE9 (fun b hb e => by omega), _, _, (hM.ext hE (fun f => f)).ext hE9 (fun e => hMR e)⟩
                · skip
                  refine V_skipk [1, 4, 5, 6, 10] (by simp only [proj, lk, reduceIte, Nat.reduceEqDiff]; rfl) ?_
                  refine hK35 _ _ ?_; clear hK35
                  refine V_sr T.mix (by kernel_rfl) (fun K38 hK38 => ?_)
                  refine S_as rfl ?_
                  refine S_nil (hK38 _ _ (V_keep [1, 4, 5, 6, 7, 10] (by simp only [proj, lk, reduceIte, Nat.reduceEqDiff]; rfl) ?_)); clear hK38
                  refine V_sr T.mix (by kernel_rfl) (fun K39 hK39 => ?_)
                  refine S_as rfl ?_
                  refine S_nil (hK39 _ _ (V_keep [1, 4, 5, 6, 7, 8, 10] (by simp only [proj, lk, reduceIte, Nat.reduceEqDiff]; rfl) ?_)); clear hK39
                  refine V_sr T.mix (by kernel_rfl) (fun K40 hK40 => ?_)
                  refine S_mv rfl ?_
                  refine S_as rfl ?_
                  refine S_nil (hK40 _ _ (V_keep [1, 4, 5, 6, 7, 8, 9] (by simp only [proj, lk, reduceIte, Nat.reduceEqDiff]; rfl) ?_)); clear hK40
                  refine V_exitk [1, 4, 5, 6, 7, 8, 9] rfl (by simp only [proj, lk, reduceIte, Nat.reduceEqDiff]; rfl) ?_
                  exact hK11 _ _ ⟨_, by omega, j, hk, fa, fc, fl, ra, rc, rl, true, true, by omega, (hS.d (by omega) hij hj2 hnj hsj).2.2 (by simpa using c105) (by omega), hf, hr, hE, hdj, by omega, by omega, rfl, rfl, rfl⟩
            · skip
              refine V_skipk [1, 4, 5, 6, 7, 9, 10] (by simp only [proj, lk, reduceIte, Nat.reduceEqDiff]; rfl) ?_
              refine hK30 _ _ ?_; clear hK30
              refine V_sr T.mix (by kernel_rfl) (fun K41 hK41 => ?_)
              refine S_mv rfl ?_
              refine S_mv rfl ?_
              refine S_mv rfl ?_
              refine S_call T.hb109 rfl ?_
              refine FC.mono (mnumber_spec hk s i j hij hj2 (by omega)) ?_
              rintro v h' ⟨⟨vn, neg, e, loc, rfl, hnr⟩, rfl⟩
              obtain ⟨n1, n2, n3⟩ := hS.num (by simpa using c90) (by omega) (by omega) hij hj2 hnj hsj hnr
              refine S_mv rfl ?_
              refine S_ex rfl rfl ?_
              refine S_ex rfl rfl ?_
              refine S_ex rfl rfl ?_
              refine S_ex rfl rfl ?_
              refine S_as rfl ?_
              refine S_as rfl ?_
              refine S_as rfl ?_
              refine S_as rfl ?_
              refine S_nil (hK41 _ _ (V_keep [1, 4, 5, 6, 7, 10, 11, 12, 13, 14] (by simp only [proj, lk, reduceIte, Nat.reduceEqDiff]; rfl) ?_)); clear hK41
              refine V_seq (fun K42 hK42 => ?_)
              refine V_sr T.mix (by kernel_rfl) (fun K43 hK43 => ?_)
              refine S_mv rfl ?_
              refine S_bin rfl rfl rfl ?_
              refine S_nil (hK43 _ _ (V_keep [1, 4, 5, 6, 7, 10, 11, 12, 13, 14, 93] (by simp only [proj, lk, reduceIte, Nat.reduceEqDiff]; rfl) ?_)); clear hK43
              refine V_condp rfl (fun c117 => ?_) (fun c117 => ?_)
              · skip
                refine V_sr T.mix (by kernel_rfl) (fun K44 hK44 => ?_)
                refine S_mv rfl ?_
                refine S_mv rfl ?_
                refine S_bld rfl (T.bld115_0_1 _ _) ?_
                refine S_stl T.sz115 rfl rfl rfl rfl (fun j hj => by simp (disch := omega) only [hRok]) ?_
                generalize hh : putsH _ _ _ _ = h9
                have hRc9 : B h9 h.size #[.int .i64 e, .int .i64 loc, .slice none 0 0] 115 := by rw [← hh]; exact B.puts_all (hRc.ext hE (fun f => f)) (cs' := #[.int .i64 e, .int .i64 loc, .slice none 0 0]) rfl
                have hE9 : Ext (fun k => k = h.size) hk h9 := by rw [← hh]; exact Ext.puts (S := fun k => k = h.size) rfl _ _ _
                clear hh
                refine S_nil (hK44 _ _ (V_keep [4] (by simp only [proj, lk, reduceIte, Nat.reduceEqDiff]; rfl) ?_)); clear hK44
                refine V_ret ?_
                refine hR _ _ (retc1 rfl rfl T.ag115 hRc9 (by rfl) ?_)
                exact ⟨_, rfl, Ans.err (e := e) (i := loc) (n1 (by omega)), (hE1.step hE (fun b hb f => f.elim)).step hE9 (fun b hb e => by omega), _, _, (hM.ext hE (fun f => f)).ext hE9 (fun e => hMR e)⟩
              · skip
                refine V_skipk [1, 4, 5, 6, 7, 10, 11, 12] (by simp only [proj, lk, reduceIte, Nat.reduceEqDiff]; rfl) ?_
                refine hK42 _ _ ?_; clear hK42
                refine V_sr T.mix (by kernel_rfl) (fun K45 hK45 => ?_)
                refine S_mv rfl ?_
                refine S_as rfl ?_
                refine S_nil (hK45 _ _ (V_keep [1, 4, 5, 6, 7, 9, 11, 12] (by simp only [proj, lk, reduceIte, Nat.reduceEqDiff]; rfl) ?_)); clear hK45
                refine V_seq (fun K46 hK46 => ?_)
                refine V_sr T.mix (by kernel_rfl) (fun K47 hK47 => ?_)
                refine S_mv rfl ?_
                refine S_bin rfl rfl rfl ?_
                refine S_nil (hK47 _ _ (V_keep [1, 4, 5, 6, 7, 9, 11, 12, 99] (by simp only [proj, lk, reduceIte, Nat.reduceEqDiff]; rfl) ?_)); clear hK47
                refine V_condp rfl (fun c121 => ?_) (fun c121 => ?_)
                · skip
                  refine V_seqJ (fun l h' => ∃ (vv : Int), (vv = if neg then -(vn : Int) else vn) ∧ l = [(1, .string s), (4, .pointer (some ⟨h.size, 0, none⟩)), (5, .slice fa fl.length fc), (6, .slice ra rl.length rc), (7, .bool (decide (dl = true))), (9, .int .i64 j), (11, .int .i64 vv)] ∧ hk = h') ?_ ?_
                  · skip
                    refine V_sr T.mix (by kernel_rfl) (fun K49 hK49 => ?_)
                    refine S_mv rfl ?_
                    refine S_nil (hK49 _ _ (V_keep [1, 4, 5, 6, 7, 9, 11, 100] (by simp only [proj, lk, reduceIte, Nat.reduceEqDiff]; rfl) ?_)); clear hK49
                    refine V_condb rfl (fun c122 => ?_) (fun c122 => ?_)
                    · skip
                      refine V_reg T.mix (by kernel_rfl) ?_
                      refine S_mv rfl ?_
                      first | refine S_neg rfl (by omega) (by omega) ?_ | refine S_un rfl rfl ?_
                      refine S_as rfl ?_
                      refine S_nilk [1, 4, 5, 6, 7, 9, 11] (by simp only [proj, lk, reduceIte, Nat.reduceEqDiff]; rfl) ?_
                      exact ⟨_, by rw [if_pos (by simpa using c122)], rfl, rfl⟩
                    · skip
                      refine V_skipk [1, 4, 5, 6, 7, 9, 11] (by simp only [proj, lk, reduceIte, Nat.reduceEqDiff]; rfl) ?_
                      exact ⟨_, by rw [if_neg (by simpa using c122)], rfl, rfl⟩
                  rintro l h' ⟨vv, hvv, rfl, rfl⟩
                  refine V_sr T.mix (by kernel_rfl) (fun K50 hK50 => ?_)
                  refine S_mv rfl ?_
                  refine S_mv rfl ?_
                  refine S_bs T.ei49 rfl (by decide) (by decide) (T.bs49_1_0 _) ?_
                  refine S_appx (lo := h1.size) T.ei49 T.ni49 T.us49 rfl rfl rfl (OwnR.ext hr (Ext.push (fun _ => False) _ _) (fun _ _ f => f)) (by have := hE.1; simp; omega) (cellsH_new _ _ _) rfl (by omega) (by decide) (by decide) rfl (fun a1 cap1 h4 ho1 hE4 hb1 => ?_)
                  have hE5 : Ext (fun b => blkA ra = some b) hk h4 := (Ext.push _ _ _).trans hE4
                  have hE4b : Ext (fun _ => False) h1 h4 := hE.step hE5 (fun b hb e => by have := OwnR.blk2 hr e; omega)
                  have hf4 : FR h1 h4 fa fc fl := hf.ext hE5 (fun b hb e => hdj b (by rw [hb]; rfl) e)
                  have hr4 : FR h1 h4 a1 cap1 (rl ++ [vv]) := by unfold FR; rw [ints_snoc, List.length_append]; exact ho1
                  have hdj4 : ∀ b, blkA fa = some b → blkA a1 ≠ some b := fun b hb e => by rcases hb1 with x | x; (exact hdj b hb (x ▸ e)); (rw [x] at e; simp at e; have := OwnR.blk2 hf hb; omega)
                  refine S_as rfl ?_
                  refine S_nil (hK50 _ _ (V_keep [1, 4, 5, 6, 7, 9] (by simp only [proj, lk, reduceIte, Nat.reduceEqDiff]; rfl) ?_)); clear hK50
                  refine V_sr T.mix (by kernel_rfl) (fun K51 hK51 => ?_)
                  refine S_as rfl ?_
                  refine S_nil (hK51 _ _ (V_keep [1, 4, 5, 6, 7, 8, 9] (by simp only [proj, lk, reduceIte, Nat.reduceEqDiff]; rfl) ?_)); clear hK51
                  refine V_exitk [1, 4, 5, 6, 7, 8, 9] rfl (by simp only [proj, lk, reduceIte, Nat.reduceEqDiff]; rfl) ?_
                  exact hK11 _ _ ⟨_, by omega, j, h4, fa, fc, fl, a1, cap1, rl ++ [vv], dl, true, hj2, by rw [hvv]; exact (n2 (by omega) (by omega)).2, hf4, hr4, hE4b, hdj4, by omega, by simp; omega, rfl, by simp, rfl⟩
                · skip
                  refine V_skipk [1, 4, 5, 6, 7, 9] (by simp only [proj, lk, reduceIte, Nat.reduceEqDiff]; rfl) ?_
                  refine hK46 _ _ ?_; clear hK46
                  refine V_sr T.mix (by kernel_rfl) (fun K52 hK52 => ?_)
                  refine S_mv rfl ?_
                  refine S_call T.hb110 rfl ?_
                  refine FC.mono (norm_spec hk ra rc rl (OwnR_lo hr) (by omega)) ?_
                  rintro v h2 ⟨hE2, hnm⟩
                  obtain ⟨na, nc, nl, kp, rfl, hno, hnl, hk1, hk2⟩ := norm_u hnm
                  have hE2b := hE.trans hE2
                  have hf2 : FR h1 h2 fa fc fl := hf.ext hE2 (fun _ _ f => f)
                  have hks := hE.1
                  have hk2s := hE2.1
                  refine S_mv rfl ?_
                  refine S_ex rfl rfl ?_
                  refine S_ex rfl rfl ?_
                  refine S_as rfl ?_
                  refine S_as rfl ?_
                  refine S_nil (hK52 _ _ (V_keep [1, 4, 5, 7, 9, 15, 16] (by simp only [proj, lk, reduceIte, Nat.reduceEqDiff]; rfl) ?_)); clear hK52
                  refine V_seqJ (fun l h' => ∃ (h8 : Heap) (a8 : Option Addr) (c8 : Nat) (ql : List Int), (FR h1 h8 a8 c8 ql) ∧ (Ext (fun _ => False) h1 h8) ∧ (Sim (bx s) s.size (parseF s) j ql [] false false) ∧ (ql.length ≤ fl.length + 26) ∧ l = [(1, .string s), (4, .pointer (some ⟨h.size, 0, none⟩)), (5, .slice a8 ql.length c8), (9, .int .i64 j)] ∧ h8 = h') ?_ ?_
                  · skip
                    refine V_sr T.mix (by kernel_rfl) (fun K54 hK54 => ?_)
                    refine S_mv rfl ?_
                    refine S_nil (hK54 _ _ (V_keep [1, 4, 5, 7, 9, 15, 112] (by simp only [proj, lk, reduceIte, Nat.reduceEqDiff]; rfl) ?_)); clear hK54
                    refine V_condb rfl (fun c130 => ?_) (fun c130 => ?_)
                    · skip
                      refine V_seqJ (fun l h' => ∃ (h5 : Heap) (a5 : Option Addr) (c5 : Nat) (gl : List Int), (FR h1 h5 a5 c5 gl) ∧ (OwnR hk.size h5 na nl.length nc (ints nl) 3 1) ∧ (Ext (fun _ => False) h1 h5) ∧ (gl = fl ++ (if dl then [13] else [])) ∧ (gl.length ≤ fl.length + 1) ∧ l = [(1, .string s), (4, .pointer (some ⟨h.size, 0, none⟩)), (5, .slice a5 gl.length c5), (9, .int .i64 j), (15, .slice na nl.length nc)] ∧ h5 = h') ?_ ?_
                      · skip
                        refine V_sr T.mix (by kernel_rfl) (fun K56 hK56 => ?_)
                        refine S_mv rfl ?_
                        refine S_nil (hK56 _ _ (V_keep [1, 4, 5, 9, 15, 113] (by simp only [proj, lk, reduceIte, Nat.reduceEqDiff]; rfl) ?_)); clear hK56
                        refine V_condp rfl (fun c131 => ?_) (fun c131 => ?_)
                        · skip
                          refine V_reg T.mix (by kernel_rfl) ?_
                          refine S_mv rfl ?_
                          refine S_bs T.ei49 rfl (by decide) (by decide) (T.bs49_1_0 _) ?_
                          refine S_appx (lo := h1.size) T.ei49 T.ni49 T.us49 rfl rfl rfl (OwnR.ext hf2 (Ext.push (fun _ => False) _ _) (fun _ _ f => f)) (by simp; omega) (cellsH_new _ _ _) rfl (by omega) (by decide) (by decide) rfl (fun a1 cap1 h4 ho1 hE4 hb1 => ?_)
                          have hE5 : Ext (fun b => blkA fa = some b) h2 h4 := (Ext.push _ _ _).trans hE4
                          have hE4b : Ext (fun _ => False) h1 h4 := hE2b.step hE5 (fun b hb e => by have := OwnR.blk2 hf2 e; omega)
                          have hf4 : FR h1 h4 a1 cap1 (fl ++ [13]) := by unfold FR; rw [ints_snoc, List.length_append]; exact ho1
                          have hno4 := hno.ext hE5 (fun b hb e => by have := OwnR.blk2 hf e; have := OwnR.blk2 hno (by rw [hb]; rfl : blkA na = some b); omega)
                          refine S_as rfl ?_
                          refine S_nilk [1, 4, 5, 9, 15] (by simp only [proj, lk, reduceIte, Nat.reduceEqDiff]; rfl) ?_
                          exact ⟨h4, a1, cap1, fl ++ [13], hf4, hno4, hE4b, by rw [if_pos (by simpa using c131)], by simp, by simp, rfl⟩
                        · skip
                          refine V_skipk [1, 4, 5, 9, 15] (by simp only [proj, lk, reduceIte, Nat.reduceEqDiff]; rfl) ?_
                          exact ⟨h2, fa, fc, fl, hf2, hno, hE2b, by rw [if_neg (by simpa using c131)]; simp, by omega, rfl, rfl⟩
                      rintro l h' ⟨h5, a5, c5, gl, hf5, hno5, hE5, hgl, hgn, rfl, rfl⟩
                      refine V_sr T.mix (by kernel_rfl) (fun K57 hK57 => ?_)
                      refine S_mv rfl ?_
                      refine S_mv rfl ?_
                      refine S_appx (lo := h1.size) T.ei49 T.ni49 T.us49 rfl rfl rfl hf5 (by have := hE5.1; omega) (OwnR.cells hno5) (by rw [ints_len, Nat.mul_one]) (by omega) (by decide) (by decide) (by rw [List.all_eq_true]; exact ints_one _) (fun a6 cap6 h6 ho6 hE6a hb6 => ?_)
                      have hE6 : Ext (fun _ => False) h1 h6 := hE5.step hE6a (fun b hb e => by have := OwnR.blk2 hf5 e; omega)
                      refine S_as rfl ?_
                      refine S_nil (hK57 _ _ (V_keep [1, 4, 5, 9] (by simp only [proj, lk, reduceIte, Nat.reduceEqDiff]; rfl) ?_)); clear hK57
                      refine V_reg T.mix (by kernel_rfl) ?_
                      refine S_mv rfl ?_
                      refine S_bs T.ei49 rfl (by decide) (by decide) (T.bs49_1_0 _) ?_
                      refine S_appx (lo := h1.size) T.ei49 T.ni49 T.us49 rfl rfl rfl (OwnR.ext ho6 (Ext.push (fun _ => False) _ _) (fun _ _ f => f)) (by have := hE6.1; simp; omega) (cellsH_new _ _ _) rfl (by omega) (by decide) (by decide) rfl (fun a7 cap7 h7 ho7 hE7a hb7 => ?_)
                      have hE7 : Ext (fun _ => False) h1 h7 := (hE6.pushn _).step hE7a (fun b hb e => by have := OwnR.blk2 ho6 e; omega)
                      have hf7 : FR h1 h7 a7 cap7 (gl ++ nl ++ [0]) := by unfold FR; rw [ints_snoc, ints_app, List.length_append, List.length_append]; exact ho7
                      refine S_as rfl ?_
                      refine S_nilk [1, 4, 5, 9] (by simp only [proj, lk, reduceIte, Nat.reduceEqDiff]; rfl) ?_
                      exact ⟨h7, a7, cap7, gl ++ nl ++ [0], hf7, hE7, by have hh := (n3 (by omega) (by omega)).2 (hk1 (by simpa using c130)).1; rw [hgl, (hk1 (by simpa using c130)).2]; simpa using hh, by simp; omega, by simp [Nat.add_assoc], rfl⟩
                    · skip
                      refine V_skipk [1, 4, 5, 9] (by simp only [proj, lk, reduceIte, Nat.reduceEqDiff]; rfl) ?_
                      exact ⟨h2, fa, fc, fl, hf2, hE2b, (n3 (by omega) (by omega)).1 (hk2 (by simpa using c130)), by omega, rfl, rfl⟩
                  rintro l h' ⟨h8, a8, c8, ql, hf8, hE8, hS8, hql, rfl, rfl⟩
                  refine V_sr T.mix (by kernel_rfl) (fun K58 hK58 => ?_)
                  refine S_as rfl ?_
                  refine S_nil (hK58 _ _ (V_keep [1, 4, 5, 6, 9] (by simp only [proj, lk, reduceIte, Nat.reduceEqDiff]; rfl) ?_)); clear hK58
                  refine V_sr T.mix (by kernel_rfl) (fun K59 hK59 => ?_)
                  refine S_as rfl ?_
                  refine S_nil (hK59 _ _ (V_keep [1, 4, 5, 6, 7, 9] (by simp only [proj, lk, reduceIte, Nat.reduceEqDiff]; rfl) ?_)); clear hK59
                  refine V_reg T.mix (by kernel_rfl) ?_
                  refine S_as rfl ?_
                  refine S_nilk [1, 4, 5, 6, 7, 8, 9] (by simp only [proj, lk, reduceIte, Nat.reduceEqDiff]; rfl) ?_
                  exact hK11 _ _ ⟨_, by omega, j, h8, a8, c8, ql, none, 0, [], false, false, hj2, hS8, hf8, OwnR.nil _ _ _ _, hE8, fun b hb => by simp [blkA], by omega, by simp, rfl, rfl, rfl⟩
    · skip
      have hRok : ∀ j, j < 3 → okPut hk ⟨h.size, j, none⟩ = true := fun j hj => (hRc.ext hE (fun f => f)).ok (by simpa using hj)
      refine V_exitk [1, 4, 5, 8] rfl (by simp only [proj, lk, reduceIte, Nat.reduceEqDiff]; rfl) ?_
      refine hK10 _ _ ?_; clear hK10
      refine V_seq (fun K60 hK60 => ?_)
      refine V_sr T.mix (by kernel_rfl) (fun K61 hK61 => ?_)
      refine S_mv rfl ?_
      refine S_nil (hK61 _ _ (V_keep [1, 4, 5, 123] (by simp only [proj, lk, reduceIte, Nat.reduceEqDiff]; rfl) ?_)); clear hK61
      refine V_condp rfl (fun c141 => ?_) (fun c141 => ?_)
      · skip
        refine V_sr T.mix (by kernel_rfl) (fun K62 hK62 => ?_)
        refine S_mv rfl ?_
        refine S_lens T.kd9 rfl ?_
        refine S_bld rfl (T.bld115_0_1 _ _) ?_
        refine S_stl T.sz115 rfl rfl rfl rfl (fun j hj => by simp (disch := omega) only [hRok]) ?_
        generalize hh : putsH _ _ _ _ = h9
        have hRc9 : B h9 h.size #[.int .i64 5, .int .i64 s.size, .slice none 0 0] 115 := by rw [← hh]; exact B.puts_all (hRc.ext hE (fun f => f)) (cs' := #[.int .i64 5, .int .i64 s.size, .slice none 0 0]) rfl
        have hE9 : Ext (fun k => k = h.size) hk h9 := by rw [← hh]; exact Ext.puts (S := fun k => k = h.size) rfl _ _ _
        clear hh
        refine S_nil (hK62 _ _ (V_keep [4] (by simp only [proj, lk, reduceIte, Nat.reduceEqDiff]; rfl) ?_)); clear hK62
        refine V_ret ?_
        refine hR _ _ (retc1 rfl rfl T.ag115 hRc9 (by rfl) ?_)
        have hii : i = s.size := by omega
        subst hii
        have hfin := hS.fin (bx_end s)
        rw [if_pos (by simpa using c141)] at hfin
        exact ⟨_, rfl, Ans.err (e := 5) (i := s.size) (hfin), (hE1.step hE (fun b hb f => f.elim)).step hE9 (fun b hb e => by omega), _, _, (hM.ext hE (fun f => f)).ext hE9 (fun e => hMR e)⟩
      · skip
        refine V_skipk [4, 5] (by simp only [proj, lk, reduceIte, Nat.reduceEqDiff]; rfl) ?_
        refine hK60 _ _ ?_; clear hK60
        refine V_sr T.mix (by kernel_rfl) (fun K63 hK63 => ?_)
        refine S_mv rfl ?_
        refine S_call T.hb87 rfl ?_
        refine FC.mono (copyints_spec hk fa fc fl (OwnR_lo hf) (by omega)) ?_
        rintro v h5 ⟨ca, rfl, hIL, hE5, hfn, hfb⟩
        have hE5b := hE.trans hE5
        have hRok : ∀ j, j < 3 → okPut h5 ⟨h.size, j, none⟩ = true := fun j hj => (hRc.ext hE5b (fun f => f)).ok (by simpa using hj)
        refine S_bld rfl (T.bld115_2 _ _ _) ?_
        refine S_stl T.sz115 rfl rfl rfl rfl (fun j hj => by simp (disch := omega) only [hRok]) ?_
        generalize hh : putsH _ _ _ _ = h9
        have hRc9 : B h9 h.size #[.int .i64 0, .int .i64 0, .slice ca fl.length fl.length] 115 := by rw [← hh]; exact B.puts_all (hRc.ext hE5b (fun f => f)) (cs' := #[.int .i64 0, .int .i64 0, .slice ca fl.length fl.length]) rfl
        have hE9 : Ext (fun k => k = h.size) h5 h9 := by rw [← hh]; exact Ext.puts (S := fun k => k = h.size) rfl _ _ _
        clear hh
        refine S_nil (hK63 _ _ (V_keep [4] (by simp only [proj, lk, reduceIte, Nat.reduceEqDiff]; rfl) ?_)); clear hK63
        refine V_ret ?_
        refine hR _ _ (retc1 rfl rfl T.ag115 hRc9 (by rfl) ?_)
        have hii : i = s.size := by omega
        subst hii
        have hfin := hS.fin (bx_end s)
        rw [if_neg (by simpa using c141)] at hfin
        refine ⟨_, rfl, ?_, (hE1.step hE5b (fun b hb f => f.elim)).step hE9 (fun b hb e => by omega), _, _, (hM.ext hE5b (fun f => f)).ext hE9 (fun e => hMR e)⟩
        rw [hfin]
        have hes := hE.1
        exact ⟨ca, fun b hb => by have := hfb b hb; omega, rfl, hIL.ext hE9 (fun b hb e => by have := hfb b hb; omega), hfn⟩
end Go.Proofs.Qxb6500401aGreat.ChkW
