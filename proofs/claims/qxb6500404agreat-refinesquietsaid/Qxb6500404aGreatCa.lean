import Derived.Test.Qxb6500404aGreatTb
import Derived.Test.Qxb6500404aGreatLq
set_option linter.unusedVariables false
set_option linter.unusedSimpArgs false
namespace Go.Proofs.Qxb6500404aGreat.LzW
open Go.Eng Go.Lz


structure MA where
  m : Nat
  bh : Nat
  bp : Nat
  bt : Nat
/-- the matcher at A, in state st -/
structure Mat (h : Heap) (A : MA) (st : MS) : Prop where
  s : B h A.m #[.slice (some ⟨A.bh, 0, none⟩) 64 64, .slice (some ⟨A.bp, 0, none⟩) 16 16, .slice (some ⟨A.bt, 0, none⟩) 256 256, .int .i64 st.n, .int .i64 st.pr] 73
  hd : B h A.bh (arr 64 fun i => .int .i64 (st.hd i)) 3
  pv : B h A.bp (arr 16 fun i => .int .i64 (st.pv i)) 3
  tk : B h A.bt (arr 768 fun i => .int .i64 (st.tk i)) 174
  n1 : A.m ≠ A.bh
  n2 : A.m ≠ A.bp
  n3 : A.m ≠ A.bt
  n4 : A.bh ≠ A.bp
  n5 : A.bh ≠ A.bt
  n6 : A.bp ≠ A.bt
/-- the matcher's own blocks -/
def ES (A : MA) : Nat → Prop := fun b => b = A.m ∨ b = A.bh ∨ b = A.bp ∨ b = A.bt

section mat
variable {h : Heap} {A : MA} {st : MS}
theorem Mat.c0 (hM : Mat h A st) : cellH h ⟨A.m, 0, none⟩ = some (.slice (some ⟨A.bh, 0, none⟩) 64 64) := hM.s.cell 0
theorem Mat.c1 (hM : Mat h A st) : cellH h ⟨A.m, 1, none⟩ = some (.slice (some ⟨A.bp, 0, none⟩) 16 16) := hM.s.cell 1
theorem Mat.c2 (hM : Mat h A st) : cellH h ⟨A.m, 2, none⟩ = some (.slice (some ⟨A.bt, 0, none⟩) 256 256) := hM.s.cell 2
theorem Mat.c3 (hM : Mat h A st) : cellH h ⟨A.m, 3, none⟩ = some (.int .i64 st.n) := hM.s.cell 3
theorem Mat.c4 (hM : Mat h A st) : cellH h ⟨A.m, 4, none⟩ = some (.int .i64 st.pr) := hM.s.cell 4
theorem Mat.ch (hM : Mat h A st) {i : Nat} (hi : i < 64) : cellH h ⟨A.bh, i, none⟩ = some (.int .i64 (st.hd i)) := hM.hd.cellA hi
theorem Mat.cp (hM : Mat h A st) {i : Nat} (hi : i < 16) : cellH h ⟨A.bp, i, none⟩ = some (.int .i64 (st.pv i)) := hM.pv.cellA hi
theorem Mat.ct (hM : Mat h A st) {i : Nat} (hi : i < 768) : cellH h ⟨A.bt, i, none⟩ = some (.int .i64 (st.tk i)) := hM.tk.cellA hi
theorem Mat.o3 (hM : Mat h A st) : okPut h ⟨A.m, 3, none⟩ = true := hM.s.ok (by simp)
theorem Mat.o4 (hM : Mat h A st) : okPut h ⟨A.m, 4, none⟩ = true := hM.s.ok (by simp)
theorem Mat.oh (hM : Mat h A st) {i : Nat} (hi : i < 64) : okPut h ⟨A.bh, i, none⟩ = true := hM.hd.okA hi
theorem Mat.op (hM : Mat h A st) {i : Nat} (hi : i < 16) : okPut h ⟨A.bp, i, none⟩ = true := hM.pv.okA hi
theorem Mat.ot (hM : Mat h A st) {i : Nat} (hi : i < 768) : okPut h ⟨A.bt, i, none⟩ = true := hM.tk.okA hi
theorem Mat.put_n (hM : Mat h A st) {v : Int} {k : Nat} (hk : v = k) : Mat (putH h ⟨A.m, 3, none⟩ (.int .i64 v)) A { st with n := k } := by
  subst hk
  exact ⟨hM.s.put 3 _, hM.hd.put_ne (Ne.symm hM.n1), hM.pv.put_ne (Ne.symm hM.n2), hM.tk.put_ne (Ne.symm hM.n3), hM.n1, hM.n2, hM.n3, hM.n4, hM.n5, hM.n6⟩
theorem Mat.put_pr (hM : Mat h A st) {v : Int} {k : Nat} (hk : v = k) : Mat (putH h ⟨A.m, 4, none⟩ (.int .i64 v)) A { st with pr := k } := by
  subst hk
  exact ⟨hM.s.put 4 _, hM.hd.put_ne (Ne.symm hM.n1), hM.pv.put_ne (Ne.symm hM.n2), hM.tk.put_ne (Ne.symm hM.n3), hM.n1, hM.n2, hM.n3, hM.n4, hM.n5, hM.n6⟩
theorem upd_val (f : Nat → Int) (i : Nat) (v : Int) : (fun j => if j = i then Value.int .i64 v else .int .i64 (f j)) = fun j => .int .i64 (upd f i v j) := by
  funext j; simp only [upd]; split <;> rfl
theorem Mat.put_hd (hM : Mat h A st) {i : Nat} {v : Int} : Mat (putH h ⟨A.bh, i, none⟩ (.int .i64 v)) A { st with hd := upd st.hd i v } :=
  ⟨hM.s.put_ne hM.n1, by have := hM.hd.putA i (.int .i64 v); rwa [upd_val] at this, hM.pv.put_ne (Ne.symm hM.n4), hM.tk.put_ne (Ne.symm hM.n5), hM.n1, hM.n2, hM.n3, hM.n4, hM.n5, hM.n6⟩
theorem Mat.put_pv (hM : Mat h A st) {i : Nat} {v : Int} : Mat (putH h ⟨A.bp, i, none⟩ (.int .i64 v)) A { st with pv := upd st.pv i v } :=
  ⟨hM.s.put_ne hM.n2, hM.hd.put_ne hM.n4, by have := hM.pv.putA i (.int .i64 v); rwa [upd_val] at this, hM.tk.put_ne (Ne.symm hM.n6), hM.n1, hM.n2, hM.n3, hM.n4, hM.n5, hM.n6⟩
theorem Mat.put_tk (hM : Mat h A st) {i : Nat} {v : Int} : Mat (putH h ⟨A.bt, i, none⟩ (.int .i64 v)) A { st with tk := upd st.tk i v } :=
  ⟨hM.s.put_ne hM.n3, hM.hd.put_ne hM.n5, hM.pv.put_ne hM.n6, by have := hM.tk.putA i (.int .i64 v); rwa [upd_val] at this, hM.n1, hM.n2, hM.n3, hM.n4, hM.n5, hM.n6⟩
theorem Mat.put_tok (hM : Mat h A st) {k : Nat} {a b c : Int} : Mat (putsH h A.bt (k * 3) [.int .i64 a, .int .i64 b, .int .i64 c]) A { st with tk := updT st.tk k a b c } :=
  ((hM.put_tk (i := k * 3) (v := a)).put_tk (i := k * 3 + 1) (v := b)).put_tk (i := k * 3 + 2) (v := c)
theorem Mat.ext {h' : Heap} {S : Nat → Prop} (hM : Mat h A st) (he : Ext S h h') (hS : ∀ b, ES A b → ¬ S b) : Mat h' A st :=
  ⟨hM.s.ext he (hS _ (.inl rfl)), hM.hd.ext he (hS _ (.inr (.inl rfl))), hM.pv.ext he (hS _ (.inr (.inr (.inl rfl)))), hM.tk.ext he (hS _ (.inr (.inr (.inr rfl)))), hM.n1, hM.n2, hM.n3, hM.n4, hM.n5, hM.n6⟩
theorem Mat.push (hM : Mat h A st) (o : Obj) : Mat (h.push o) A st := hM.ext (Ext.push (fun _ => False) h o) (fun _ _ h => h)
theorem Mat.lt (hM : Mat h A st) {b : Nat} (hb : ES A b) : b < h.size := by
  rcases hb with e | e | e | e <;> subst e
  · exact hM.s.lt
  · exact hM.hd.lt
  · exact hM.pv.lt
  · exact hM.tk.lt
end mat
/-- a list of tokens, laid in a block of its own -/
def TokB (h : Heap) (b : Nat) (ts : List Tok) : Prop := B h b (arr (ts.length * 3) fun j => .int .i64 (fl ts j)) 174
def lid0 (s : ByteArray) (level : Int) : Nat := if level = 0 then 0 else lidF s level (toks s level) 0
set_option maxHeartbeats 400000 in
theorem hash_spec (s : ByteArray) (p : Int) (h : Heap) (h0 : 0 ≤ p) (h1 : p + 3 ≤ s.size) (hs : s.size ≤ 256) :
    FC Tryz.prog 177 (#[.string s, .int .i64 p] : Array Value) h fun v h' => v = .int .i64 (hashF s p.toNat) ∧ h = h' := by
  have b0 := bAt_lt s p.toNat
  have b1 := bAt_lt s (p + 1).toNat
  have b2 := bAt_lt s (p + 2).toNat
  refine FC_of [(0, .string s), (1, .int .i64 p)] Tryz.func177 rfl Tryz.ntmps177 (by simp) rfl (fun R hR => ?_)
  refine V_sr T.mix (by kernel_rfl) (fun K1 hK1 => ?_)
  refine S_as rfl ?_
  refine S_nil (hK1 _ _ (V_keep [0, 1] (by simp only [proj, lk, reduceIte, Nat.reduceEqDiff]; rfl) ?_)); clear hK1
  refine V_sr T.mix (by kernel_rfl) (fun K2 hK2 => ?_)
  refine S_mv rfl ?_
  refine S_mv rfl ?_
  refine S_si T.kd9 rfl rfl (by omega) (by omega) ?_
  first | refine S_cvi T.us5 T.in3 rfl (by omega) (by omega) ?_ | refine S_cv T.us5 T.in3 rfl ?_
  refine S_as rfl ?_
  refine S_nil (hK2 _ _ (V_keep [0, 1, 5] (by simp only [proj, lk, reduceIte, Nat.reduceEqDiff]; rfl) ?_)); clear hK2
  refine V_sr T.mix (by kernel_rfl) (fun K3 hK3 => ?_)
  refine S_mv rfl ?_
  refine S_mv rfl ?_
  first | refine S_add rfl rfl (by omega) (by omega) ?_ | refine S_bin rfl rfl rfl ?_
  refine S_si T.kd9 rfl rfl (by omega) (by omega) ?_
  first | refine S_cvi T.us5 T.in3 rfl (by omega) (by omega) ?_ | refine S_cv T.us5 T.in3 rfl ?_
  refine S_as rfl ?_
  refine S_nil (hK3 _ _ (V_keep [0, 1, 5, 6] (by simp only [proj, lk, reduceIte, Nat.reduceEqDiff]; rfl) ?_)); clear hK3
  refine V_sr T.mix (by kernel_rfl) (fun K4 hK4 => ?_)
  refine S_mv rfl ?_
  refine S_mv rfl ?_
  first | refine S_add rfl rfl (by omega) (by omega) ?_ | refine S_bin rfl rfl rfl ?_
  refine S_si T.kd9 rfl rfl (by omega) (by omega) ?_
  first | refine S_cvi T.us5 T.in3 rfl (by omega) (by omega) ?_ | refine S_cv T.us5 T.in3 rfl ?_
  refine S_as rfl ?_
  refine S_nil (hK4 _ _ (V_keep [5, 6, 7] (by simp only [proj, lk, reduceIte, Nat.reduceEqDiff]; rfl) ?_)); clear hK4
  refine V_sr T.mix (by kernel_rfl) (fun K5 hK5 => ?_)
  refine S_mv rfl ?_
  refine S_bin rfl rfl rfl ?_
  refine S_mv rfl ?_
  refine S_bin rfl rfl rfl ?_
  refine S_bin rfl rfl rfl ?_
  refine S_mv rfl ?_
  refine S_bin rfl rfl rfl ?_
  first | refine S_andm 63 6 64 rfl rfl rfl (by decide) (by decide) (by omega) (by omega) ?_ | refine S_bin rfl rfl rfl ?_
  refine S_as rfl ?_
  refine S_nil (hK5 _ _ (V_keep [4] (by simp only [proj, lk, reduceIte, Nat.reduceEqDiff]; rfl) ?_)); clear hK5
  refine V_ret ?_
  refine hR _ _ (ret1 rfl rfl ?_)
  refine ⟨?_, rfl⟩
  rw [hashF, show p.toNat + 1 = (p + 1).toNat by omega, show p.toNat + 2 = (p + 2).toNat by omega]
  rfl
set_option maxHeartbeats 400000 in
theorem span_spec (s : ByteArray) (c i lim : Int) (h : Heap) (h0 : 0 ≤ c) (h1 : c ≤ i) (h2 : 0 ≤ lim) (h3 : i + lim ≤ s.size) (hs : s.size ≤ 256) :
    FC Tryz.prog 178 (#[.string s, .int .i64 c, .int .i64 i, .int .i64 lim] : Array Value) h fun v h' => v = .int .i64 (spanF s c.toNat i.toNat lim.toNat) ∧ h = h' := by
  refine FC_of [(0, .string s), (1, .int .i64 c), (2, .int .i64 i), (3, .int .i64 lim)] Tryz.func178 rfl Tryz.ntmps178 (by simp) rfl (fun R hR => ?_)
  refine V_sr T.mix (by kernel_rfl) (fun K1 hK1 => ?_)
  refine S_as rfl ?_
  refine S_nil (hK1 _ _ (V_keep [0, 1, 2, 3] (by simp only [proj, lk, reduceIte, Nat.reduceEqDiff]; rfl) ?_)); clear hK1
  refine V_sr T.mix (by kernel_rfl) (fun K2 hK2 => ?_)
  refine S_as rfl ?_
  refine S_nil (hK2 _ _ (V_keep [0, 1, 2, 3, 9] (by simp only [proj, lk, reduceIte, Nat.reduceEqDiff]; rfl) ?_)); clear hK2
  refine V_seq (fun K3 hK3 => ?_)
  refine V_block ?_
  refine V_loop (fun m l h' => ∃ (k : Nat), ((k : Int) ≤ lim) ∧ (∀ j : Nat, j < k → bAt s (c.toNat + j) = bAt s (i.toNat + j)) ∧ m = (lim - k).toNat ∧ l = [(0, .string s), (1, .int .i64 c), (2, .int .i64 i), (3, .int .i64 lim), (9, .int .i64 k)] ∧ h = h') _ ⟨0, by omega, fun j hj => by omega, rfl, rfl, rfl⟩ ?_
  rintro m l h' ⟨k, hk, ha, rfl, rfl, rfl⟩ K4 hK4
  refine V_seq (fun K5 hK5 => ?_)
  refine V_sr T.mix (by kernel_rfl) (fun K6 hK6 => ?_)
  refine S_cut (K' := fun l h' => ∃ b : Bool, (b = true ↔ ((k : Int) < lim ∧ (bAt s (c + k).toNat : Int) = bAt s (i + k).toNat)) ∧ l = [(0, .string s), (1, .int .i64 c), (2, .int .i64 i), (3, .int .i64 lim), (9, .int .i64 k), (25, .bool b)] ∧ h = h') ?_ ?_
  · skip
    refine S_mv rfl ?_
    refine S_mv rfl ?_
    refine S_bin rfl rfl rfl ?_
    refine S_mv rfl ?_
    refine S_dec (fun g49 => ?_) (fun g49 => ?_)
    · skip
      refine S_gt rfl ?_
      refine S_mv rfl ?_
      refine S_gt rfl ?_
      refine S_mv rfl ?_
      refine S_gt rfl ?_
      refine S_mv rfl ?_
      refine S_gt rfl ?_
      first | refine S_add rfl rfl (by omega) (by omega) ?_ | refine S_bin rfl rfl rfl ?_
      refine S_gt rfl ?_
      refine S_si T.kd9 rfl rfl (by omega) (by omega) ?_
      refine S_gt rfl ?_
      refine S_mv rfl ?_
      refine S_gt rfl ?_
      refine S_mv rfl ?_
      refine S_gt rfl ?_
      refine S_mv rfl ?_
      refine S_gt rfl ?_
      first | refine S_add rfl rfl (by omega) (by omega) ?_ | refine S_bin rfl rfl rfl ?_
      refine S_gt rfl ?_
      refine S_si T.kd9 rfl rfl (by omega) (by omega) ?_
      refine S_gt rfl ?_
      refine S_bin rfl rfl rfl ?_
      refine S_pt rfl rfl ?_
      exact S_nilk [0, 1, 2, 3, 9, 25] (by simp only [proj, lk, reduceIte, Nat.reduceEqDiff]; rfl) ⟨_, (by first | (simp [*]; done) | (simp; omega)), rfl, rfl⟩
    · skip
      refine S_gf rfl ?_
      refine S_gf rfl ?_
      refine S_gf rfl ?_
      refine S_gf rfl ?_
      refine S_gf rfl ?_
      refine S_gf rfl ?_
      refine S_gf rfl ?_
      refine S_gf rfl ?_
      refine S_gf rfl ?_
      refine S_gf rfl ?_
      refine S_gf rfl ?_
      refine S_pf rfl rfl ?_
      exact S_nilk [0, 1, 2, 3, 9, 25] (by simp only [proj, lk, reduceIte, Nat.reduceEqDiff]; rfl) ⟨_, (by first | (simp [*]; done) | (simp; omega)), rfl, rfl⟩
  rintro l h' ⟨b, hb49, rfl, rfl⟩
  refine hK6 _ _ ?_; clear hK6
  refine V_condb rfl (fun c49 => ?_) (fun c49 => ?_)
  · replace c49 := hb49.1 c49
    refine V_skipk [0, 1, 2, 3, 9] (by simp only [proj, lk, reduceIte, Nat.reduceEqDiff]; rfl) ?_
    refine hK5 _ _ ?_; clear hK5
    refine V_block ?_
    refine V_reg T.mix (by kernel_rfl) ?_
    refine S_mv rfl ?_
    first | refine S_add rfl rfl (by omega) (by omega) ?_ | refine S_bin rfl rfl rfl ?_
    refine S_as rfl ?_
    refine S_nilk [0, 1, 2, 3, 9] (by simp only [proj, lk, reduceIte, Nat.reduceEqDiff]; rfl) ?_
    exact hK4 _ _ ⟨_, by omega, k + 1, by omega, fun j hj => by
      by_cases e : j = k
      · subst e; have := (c49.2); simp only [Int.natCast_inj] at this; rw [show c.toNat + j = (c + j).toNat by omega, show i.toNat + j = (i + j).toNat by omega]; omega
      · exact ha j (by omega), rfl, rfl, rfl⟩
  · replace c49 : ¬ _ := fun hp => Bool.false_ne_true (c49.symm.trans (hb49.2 hp))
    refine V_exitk [9] rfl (by simp only [proj, lk, reduceIte, Nat.reduceEqDiff]; rfl) ?_
    refine hK3 _ _ ?_; clear hK3
    refine V_sr T.mix (by kernel_rfl) (fun K8 hK8 => ?_)
    refine S_mv rfl ?_
    refine S_as rfl ?_
    refine S_nil (hK8 _ _ (V_keep [8] (by simp only [proj, lk, reduceIte, Nat.reduceEqDiff]; rfl) ?_)); clear hK8
    refine V_ret ?_
    refine hR _ _ (ret1 rfl rfl ?_)
    refine ⟨?_, rfl⟩
    rw [span_uniq (n := k) (by omega) ha ?_]
    by_cases e : (k : Int) = lim
    · left; omega
    · right; intro he; exact c49 ⟨by omega, by rw [show (c + (k : Int)).toNat = c.toNat + k by omega, show (i + (k : Int)).toNat = i.toNat + k by omega, he]⟩
set_option maxHeartbeats 400000 in
theorem wipe_spec (A : MA) (st : MS) (h : Heap) (hM : Mat h A st) :
    FC Tryz.prog 23 (#[.pointer (some ⟨A.m, 0, none⟩)] : Array Value) h fun v h' => v = .tuple #[] ∧ ∃ st', Mat h' A st' ∧ Ext (ES A) h h' ∧ (∀ j, j < 64 → st'.hd j = -1) ∧ st'.tk = st.tk ∧ st'.n = st.n ∧ st'.pr = st.pr ∧ st'.pv = st.pv := by
  refine FC_of [(0, .pointer (some ⟨A.m, 0, none⟩))] Tryz.func23 rfl Tryz.ntmps23 (by simp) rfl (fun R hR => ?_)
  refine V_sr T.mix (by kernel_rfl) (fun K1 hK1 => ?_)
  refine S_as rfl ?_
  refine S_nil (hK1 _ _ (V_keep [0, 2] (by simp only [proj, lk, reduceIte, Nat.reduceEqDiff]; rfl) ?_)); clear hK1
  refine V_block ?_
  refine V_loop (fun m l h' => ∃ (k : Nat) (hk : Heap) (sk : MS), (k ≤ 64) ∧ (Mat hk A sk) ∧ (Ext (ES A) h hk) ∧ (∀ j, j < k → sk.hd j = -1) ∧ (sk.tk = st.tk) ∧ (sk.n = st.n) ∧ (sk.pr = st.pr) ∧ (sk.pv = st.pv) ∧ m = 64 - k ∧ l = [(0, .pointer (some ⟨A.m, 0, none⟩)), (2, .int .i64 k)] ∧ hk = h') _ ⟨0, h, st, by omega, hM, Ext.refl _ _, fun j hj => by omega, rfl, rfl, rfl, rfl, rfl, rfl, rfl⟩ ?_
  rintro m l h' ⟨k, hk, sk, hk64, hMk, hEk, hall, hs1, hs2, hs3, hs4, rfl, rfl, rfl⟩ K2 hK2
  refine V_seq (fun K3 hK3 => ?_)
  refine V_sr T.mix (by kernel_rfl) (fun K4 hK4 => ?_)
  refine S_mv rfl ?_
  refine S_bin rfl rfl rfl ?_
  refine S_nil (hK4 _ _ (V_keep [0, 2, 4] (by simp only [proj, lk, reduceIte, Nat.reduceEqDiff]; rfl) ?_)); clear hK4
  refine V_condp rfl (fun c24 => ?_) (fun c24 => ?_)
  · skip
    refine V_skipk [0, 2] (by simp only [proj, lk, reduceIte, Nat.reduceEqDiff]; rfl) ?_
    refine hK3 _ _ ?_; clear hK3
    refine V_seq (fun K5 hK5 => ?_)
    refine V_block ?_
    refine V_reg T.mix (by kernel_rfl) ?_
    refine S_mv rfl ?_
    refine S_nc rfl ?_
    first | refine S_fa0 T.f73_0 rfl ?_ | refine S_fa T.f73_0 rfl ?_
    refine S_ldK T.ag56 rfl (fun K' hK' => ?_)
    simp (disch := omega) only [hMk.c0, hMk.c1, hMk.c2, hMk.c3, hMk.c4, hMk.ch, hMk.cp, hMk.ct, oP_some, Nat.add_zero]
    refine hK' _ ?_; clear hK' K'
    refine S_mv rfl ?_
    first | refine S_ixn T.el56 rfl rfl (by omega) ?_ | refine S_ix1 T.el56 rfl rfl (by omega) (by omega) ?_ | refine S_ix T.el56 rfl rfl (by omega) (by omega) ?_
    refine S_st T.sz3 rfl rfl rfl rfl (by simp (disch := omega) only [hMk.o3, hMk.o4, hMk.oh, hMk.op, hMk.ot]) ?_
    generalize hh : putH _ _ _ = h1
    have hMh1 : Mat h1 A { sk with hd := upd sk.hd k (-1) } := by rw [← hh]; exact hMk.put_hd
    have hEh1 : Ext (ES A) hk h1 := by rw [← hh]; exact Ext.put _ _ (.inr (.inl rfl))
    clear hh
    refine S_nilk [0, 2] (by simp only [proj, lk, reduceIte, Nat.reduceEqDiff]; rfl) ?_
    refine hK5 _ _ ?_; clear hK5
    refine V_reg T.mix (by kernel_rfl) ?_
    refine S_mv rfl ?_
    first | refine S_add rfl rfl (by omega) (by omega) ?_ | refine S_bin rfl rfl rfl ?_
    refine S_as rfl ?_
    refine S_nilk [0, 2] (by simp only [proj, lk, reduceIte, Nat.reduceEqDiff]; rfl) ?_
    exact hK2 _ _ ⟨_, by omega, k + 1, _, _, by omega, hMh1, hEk.trans hEh1, fun j hj => by
      simp only [upd]
      split
      · rfl
      · exact hall j (by omega), hs1, hs2, hs3, hs4, rfl, rfl, rfl⟩
  · skip
    refine V_exitk [] rfl (by simp only [proj, lk, reduceIte, Nat.reduceEqDiff]; rfl) ?_
    -- end
    refine hR _ _ (ret0 rfl ?_)
    exact ⟨rfl, sk, hMk, hEk, fun j hj => hall j (by omega), hs1, hs2, hs3, hs4⟩
set_option maxHeartbeats 400000 in
theorem enter_spec (A : MA) (st : MS) (h : Heap) (hM : Mat h A st) (s : ByteArray) (p : Int) (h0 : 0 ≤ p) (hp : p ≤ 256) (hs : s.size ≤ 256) :
    FC Tryz.prog 155 (#[.pointer (some ⟨A.m, 0, none⟩), .string s, .int .i64 p] : Array Value) h fun v h' => v = .tuple #[] ∧ Mat h' A (enterF s p.toNat st) ∧ Ext (ES A) h h' := by
  obtain ⟨p, rfl⟩ := Int.eq_ofNat_of_zero_le h0
  simp only [Int.toNat_natCast]
  have hr := hash_range s p
  refine FC_of [(0, .pointer (some ⟨A.m, 0, none⟩)), (1, .string s), (2, .int .i64 p)] Tryz.func155 rfl Tryz.ntmps155 (by simp) rfl (fun R hR => ?_)
  refine V_seq (fun K1 hK1 => ?_)
  refine V_sr T.mix (by kernel_rfl) (fun K2 hK2 => ?_)
  refine S_mv rfl ?_
  first | refine S_add rfl rfl (by omega) (by omega) ?_ | refine S_bin rfl rfl rfl ?_
  refine S_mv rfl ?_
  refine S_lens T.kd9 rfl ?_
  refine S_bin rfl rfl rfl ?_
  refine S_nil (hK2 _ _ (V_keep [0, 1, 2, 11] (by simp only [proj, lk, reduceIte, Nat.reduceEqDiff]; rfl) ?_)); clear hK2
  refine V_condp rfl (fun c31 => ?_) (fun c31 => ?_)
  · skip
    refine V_ret ?_
    refine hR _ _ (ret0 rfl ?_)
    exact ⟨rfl, by unfold enterF; rw [if_neg (by omega)]; exact hM, Ext.refl _ _⟩
  · skip
    refine V_skipk [0, 1, 2] (by simp only [proj, lk, reduceIte, Nat.reduceEqDiff]; rfl) ?_
    refine hK1 _ _ ?_; clear hK1
    refine V_sr T.mix (by kernel_rfl) (fun K3 hK3 => ?_)
    refine S_mv rfl ?_
    refine S_mv rfl ?_
    refine S_call T.hb177 rfl ?_
    refine FC.mono (hash_spec s p h (by omega) (by omega) (by omega)) ?_
    rintro v h' ⟨rfl, rfl⟩
    simp only [Int.toNat_natCast]
    refine S_as rfl ?_
    refine S_nil (hK3 _ _ (V_keep [0, 2, 6] (by simp only [proj, lk, reduceIte, Nat.reduceEqDiff]; rfl) ?_)); clear hK3
    refine V_sr T.mix (by kernel_rfl) (fun K4 hK4 => ?_)
    refine S_mv rfl ?_
    refine S_nc rfl ?_
    first | refine S_fa0 T.f73_1 rfl ?_ | refine S_fa T.f73_1 rfl ?_
    refine S_ldK T.ag56 rfl (fun K' hK' => ?_)
    simp (disch := omega) only [hM.c0, hM.c1, hM.c2, hM.c3, hM.c4, hM.ch, hM.cp, hM.ct, oP_some, Nat.add_zero]
    refine hK' _ ?_; clear hK' K'
    refine S_mv rfl ?_
    first | refine S_andm 15 4 16 rfl rfl rfl (by decide) (by decide) (by omega) (by omega) ?_ | refine S_bin rfl rfl rfl ?_
    refine S_mv rfl ?_
    refine S_nc rfl ?_
    first | refine S_fa0 T.f73_0 rfl ?_ | refine S_fa T.f73_0 rfl ?_
    refine S_ldK T.ag56 rfl (fun K' hK' => ?_)
    simp (disch := omega) only [hM.c0, hM.c1, hM.c2, hM.c3, hM.c4, hM.ch, hM.cp, hM.ct, oP_some, Nat.add_zero]
    refine hK' _ ?_; clear hK' K'
    refine S_mv rfl ?_
    first | refine S_ixn T.el56 rfl rfl (by omega) ?_ | refine S_ix1 T.el56 rfl rfl (by omega) (by omega) ?_ | refine S_ix T.el56 rfl rfl (by omega) (by omega) ?_
    refine S_ldK T.ag3 rfl (fun K' hK' => ?_)
    simp (disch := omega) only [hM.c0, hM.c1, hM.c2, hM.c3, hM.c4, hM.ch, hM.cp, hM.ct, oP_some, Nat.add_zero]
    refine hK' _ ?_; clear hK' K'
    first | refine S_ixn T.el56 rfl rfl (by omega) ?_ | refine S_ix1 T.el56 rfl rfl (by omega) (by omega) ?_ | refine S_ix T.el56 rfl rfl (by omega) (by omega) ?_
    refine S_st T.sz3 rfl rfl rfl rfl (by simp (disch := omega) only [hM.o3, hM.o4, hM.oh, hM.op, hM.ot]) ?_
    generalize hh : putH _ _ _ = h1
    have hMh1 : Mat h1 A { st with pv := upd st.pv (p % 16) (st.hd (hashF s p).toNat) } := by rw [← hh]; exact (show ((p : Int) % 16).toNat = p % 16 by omega) ▸ hM.put_pv
    have hEh1 : Ext (ES A) h h1 := by rw [← hh]; exact Ext.put _ _ (.inr (.inr (.inl rfl)))
    clear hh
    replace hM := hMh1
    refine S_nil (hK4 _ _ (V_keep [0, 2, 6] (by simp only [proj, lk, reduceIte, Nat.reduceEqDiff]; rfl) ?_)); clear hK4
    refine V_reg T.mix (by kernel_rfl) ?_
    refine S_mv rfl ?_
    refine S_nc rfl ?_
    first | refine S_fa0 T.f73_0 rfl ?_ | refine S_fa T.f73_0 rfl ?_
    refine S_ldK T.ag56 rfl (fun K' hK' => ?_)
    simp (disch := omega) only [hM.c0, hM.c1, hM.c2, hM.c3, hM.c4, hM.ch, hM.cp, hM.ct, oP_some, Nat.add_zero]
    refine hK' _ ?_; clear hK' K'
    refine S_mv rfl ?_
    refine S_mv rfl ?_
    first | refine S_ixn T.el56 rfl rfl (by omega) ?_ | refine S_ix1 T.el56 rfl rfl (by omega) (by omega) ?_ | refine S_ix T.el56 rfl rfl (by omega) (by omega) ?_
    refine S_st T.sz3 rfl rfl rfl rfl (by simp (disch := omega) only [hM.o3, hM.o4, hM.oh, hM.op, hM.ot]) ?_
    generalize hh : putH _ _ _ = h2
    have hMh2 : Mat h2 A { st with pv := upd st.pv (p % 16) (st.hd (hashF s p).toNat), hd := upd st.hd (hashF s p).toNat p } := by rw [← hh]; exact hM.put_hd
    have hEh2 : Ext (ES A) h1 h2 := by rw [← hh]; exact Ext.put _ _ (.inr (.inl rfl))
    clear hh
    refine S_nilk [] (by simp only [proj, lk, reduceIte, Nat.reduceEqDiff]; rfl) ?_
    -- end
    refine hR _ _ (ret0 rfl ?_)
    exact ⟨rfl, by unfold enterF; rw [if_pos (by omega)]; exact hMh2, hEh1.trans hEh2⟩
set_option maxHeartbeats 400000 in
theorem enterAll_spec (A : MA) (st : MS) (h : Heap) (hM : Mat h A st) (s : ByteArray) (p q : Int) (h0 : 0 ≤ p) (hpq : p ≤ q) (hq : q ≤ 257) (hs : s.size ≤ 256) :
    FC Tryz.prog 154 (#[.pointer (some ⟨A.m, 0, none⟩), .string s, .int .i64 p, .int .i64 q] : Array Value) h fun v h' => v = .tuple #[] ∧ Mat h' A (enterTo s p.toNat (q - p).toNat st) ∧ Ext (ES A) h h' := by
  obtain ⟨p, rfl⟩ := Int.eq_ofNat_of_zero_le h0
  simp only [Int.toNat_natCast]
  refine FC_of [(0, .pointer (some ⟨A.m, 0, none⟩)), (1, .string s), (2, .int .i64 p), (3, .int .i64 q)] Tryz.func154 rfl Tryz.ntmps154 (by simp) rfl (fun R hR => ?_)
  refine V_sr T.mix (by kernel_rfl) (fun K1 hK1 => ?_)
  refine S_mv rfl ?_
  refine S_as rfl ?_
  refine S_nil (hK1 _ _ (V_keep [0, 1, 3, 8] (by simp only [proj, lk, reduceIte, Nat.reduceEqDiff]; rfl) ?_)); clear hK1
  refine V_block ?_
  refine V_loop (fun m l h' => ∃ (k : Nat) (hk : Heap), ((p : Int) + k ≤ q) ∧ (Mat hk A (enterTo s p k st)) ∧ (Ext (ES A) h hk) ∧ m = (q - p - k).toNat ∧ l = [(0, .pointer (some ⟨A.m, 0, none⟩)), (1, .string s), (3, .int .i64 q), (8, .int .i64 ((p : Int) + k))] ∧ hk = h') _ ⟨0, h, by omega, hM, Ext.refl _ _, rfl, rfl, rfl⟩ ?_
  rintro m l h' ⟨k, hk, hkq, hMk, hEk, rfl, rfl, rfl⟩ K2 hK2
  refine V_seq (fun K3 hK3 => ?_)
  refine V_sr T.mix (by kernel_rfl) (fun K4 hK4 => ?_)
  refine S_mv rfl ?_
  refine S_mv rfl ?_
  refine S_bin rfl rfl rfl ?_
  refine S_nil (hK4 _ _ (V_keep [0, 1, 3, 8, 12] (by simp only [proj, lk, reduceIte, Nat.reduceEqDiff]; rfl) ?_)); clear hK4
  refine V_condp rfl (fun c41 => ?_) (fun c41 => ?_)
  · skip
    refine V_skipk [0, 1, 3, 8] (by simp only [proj, lk, reduceIte, Nat.reduceEqDiff]; rfl) ?_
    refine hK3 _ _ ?_; clear hK3
    refine V_seq (fun K5 hK5 => ?_)
    refine V_block ?_
    refine V_reg T.mix (by kernel_rfl) ?_
    refine S_mv rfl ?_
    refine S_mv rfl ?_
    refine S_mv rfl ?_
    refine S_call T.hb155 rfl ?_
    refine FC.mono (enter_spec A _ _ hMk s _ (by omega) (by omega) (by omega)) ?_
    rintro v h1 ⟨rfl, hM1, hE1⟩
    rw [show ((p : Int) + (k : Int)).toNat = p + k by omega] at hM1
    refine S_nilk [0, 1, 3, 8] (by simp only [proj, lk, reduceIte, Nat.reduceEqDiff]; rfl) ?_
    refine hK5 _ _ ?_; clear hK5
    refine V_reg T.mix (by kernel_rfl) ?_
    refine S_mv rfl ?_
    first | refine S_add rfl rfl (by omega) (by omega) ?_ | refine S_bin rfl rfl rfl ?_
    refine S_as rfl ?_
    refine S_nilk [0, 1, 3, 8] (by simp only [proj, lk, reduceIte, Nat.reduceEqDiff]; rfl) ?_
    exact hK2 _ _ ⟨_, by omega, k + 1, _, by omega, hM1, hEk.trans hE1, rfl, rfl, rfl⟩
  · skip
    refine V_exitk [] rfl (by simp only [proj, lk, reduceIte, Nat.reduceEqDiff]; rfl) ?_
    -- end
    refine hR _ _ (ret0 rfl ?_)
    exact ⟨rfl, by rw [show (q - (p : Int)).toNat = k by omega]; exact hMk, hEk⟩
set_option maxHeartbeats 400000 in
theorem seek_spec (A : MA) (st : MS) (h : Heap) (hM : Mat h A st) (s : ByteArray) (i : Int) (h0 : 0 ≤ i) (hi : i ≤ s.size) (hs : s.size ≤ 256) (hc : Ch s i.toNat st) (hpr : st.pr ≤ 1000000) :
    FC Tryz.prog 152 (#[.pointer (some ⟨A.m, 0, none⟩), .string s, .int .i64 i] : Array Value) h fun v h' => v = .tuple #[.int .i64 (bestF s i.toNat).1, .int .i64 (bestF s i.toNat).2] ∧ ∃ k, k ≤ roomF s i.toNat ∧ Mat h' A { st with pr := st.pr + k } ∧ Ext (ES A) h h' := by
  obtain ⟨i, rfl⟩ := Int.eq_ofNat_of_zero_le h0
  simp only [Int.toNat_natCast] at *
  have hr := hash_range s i
  refine FC_of [(0, .pointer (some ⟨A.m, 0, none⟩)), (1, .string s), (2, .int .i64 i)] Tryz.func152 rfl Tryz.ntmps152 (by simp) rfl (fun R hR => ?_)
  refine V_sr T.mix (by kernel_rfl) (fun K1 hK1 => ?_)
  refine S_as rfl ?_
  refine S_as rfl ?_
  refine S_nil (hK1 _ _ (V_keep [0, 1, 2] (by simp only [proj, lk, reduceIte, Nat.reduceEqDiff]; rfl) ?_)); clear hK1
  refine V_seq (fun K2 hK2 => ?_)
  refine V_sr T.mix (by kernel_rfl) (fun K3 hK3 => ?_)
  refine S_mv rfl ?_
  first | refine S_add rfl rfl (by omega) (by omega) ?_ | refine S_bin rfl rfl rfl ?_
  refine S_mv rfl ?_
  refine S_lens T.kd9 rfl ?_
  refine S_bin rfl rfl rfl ?_
  refine S_nil (hK3 _ _ (V_keep [0, 1, 2, 18] (by simp only [proj, lk, reduceIte, Nat.reduceEqDiff]; rfl) ?_)); clear hK3
  refine V_condp rfl (fun c59 => ?_) (fun c59 => ?_)
  · skip
    refine V_sr T.mix (by kernel_rfl) (fun K4 hK4 => ?_)
    refine S_as rfl ?_
    refine S_as rfl ?_
    refine S_nil (hK4 _ _ (V_keep [6, 7] (by simp only [proj, lk, reduceIte, Nat.reduceEqDiff]; rfl) ?_)); clear hK4
    refine V_ret ?_
    refine hR _ _ (ret2 rfl rfl rfl ?_)
    exact ⟨by rw [best_zero (by omega)]; rfl, 0, Nat.zero_le _, hM, Ext.refl _ _⟩
  · skip
    refine V_skipk [0, 1, 2] (by simp only [proj, lk, reduceIte, Nat.reduceEqDiff]; rfl) ?_
    refine hK2 _ _ ?_; clear hK2
    refine V_sr T.mix (by kernel_rfl) (fun K5 hK5 => ?_)
    refine S_mv rfl ?_
    refine S_lens T.kd9 rfl ?_
    refine S_mv rfl ?_
    first | refine S_sub rfl rfl (by omega) (by omega) ?_ | refine S_bin rfl rfl rfl ?_
    refine S_as rfl ?_
    refine S_nil (hK5 _ _ (V_keep [0, 1, 2, 8] (by simp only [proj, lk, reduceIte, Nat.reduceEqDiff]; rfl) ?_)); clear hK5
    refine V_seqJ (fun l h' => (i + 3 ≤ s.size) ∧ l = [(0, .pointer (some ⟨A.m, 0, none⟩)), (1, .string s), (2, .int .i64 i), (8, .int .i64 (limF s i))] ∧ h = h') ?_ ?_
    · skip
      refine V_sr T.mix (by kernel_rfl) (fun K7 hK7 => ?_)
      refine S_mv rfl ?_
      refine S_bin rfl rfl rfl ?_
      refine S_nil (hK7 _ _ (V_keep [0, 1, 2, 8, 24] (by simp only [proj, lk, reduceIte, Nat.reduceEqDiff]; rfl) ?_)); clear hK7
      refine V_condp rfl (fun c63 => ?_) (fun c63 => ?_)
      · skip
        refine V_reg T.mix (by kernel_rfl) ?_
        refine S_as rfl ?_
        refine S_nilk [0, 1, 2, 8] (by simp only [proj, lk, reduceIte, Nat.reduceEqDiff]; rfl) ?_
        have e : ((limF s i : Nat) : Int) = 10 := by unfold limF; omega
        refine ⟨by omega, ?_, rfl⟩
        simp only [e]
      · skip
        refine V_skipk [0, 1, 2, 8] (by simp only [proj, lk, reduceIte, Nat.reduceEqDiff]; rfl) ?_
        have e : ((limF s i : Nat) : Int) = (s.size : Int) - i := by unfold limF; omega
        refine ⟨by omega, ?_, rfl⟩
        simp only [e]
    rintro l h' ⟨h3, rfl, rfl⟩
    have hl3 : 3 ≤ limF s i ∧ limF s i ≤ 10 ∧ i + limF s i ≤ s.size := by unfold limF; omega
    refine V_sr T.mix (by kernel_rfl) (fun K8 hK8 => ?_)
    refine S_mv rfl ?_
    refine S_mv rfl ?_
    refine S_call T.hb177 rfl ?_
    refine FC.mono (hash_spec s i h (by omega) (by omega) (by omega)) ?_
    rintro v h' ⟨rfl, rfl⟩
    simp only [Int.toNat_natCast]
    refine S_as rfl ?_
    refine S_nil (hK8 _ _ (V_keep [0, 1, 2, 8, 9] (by simp only [proj, lk, reduceIte, Nat.reduceEqDiff]; rfl) ?_)); clear hK8
    refine V_sr T.mix (by kernel_rfl) (fun K9 hK9 => ?_)
    refine S_mv rfl ?_
    refine S_nc rfl ?_
    first | refine S_fa0 T.f73_0 rfl ?_ | refine S_fa T.f73_0 rfl ?_
    refine S_ldK T.ag56 rfl (fun K' hK' => ?_)
    simp (disch := omega) only [hM.c0, hM.c1, hM.c2, hM.c3, hM.c4, hM.ch, hM.cp, hM.ct, oP_some, Nat.add_zero]
    refine hK' _ ?_; clear hK' K'
    refine S_mv rfl ?_
    first | refine S_ixn T.el56 rfl rfl (by omega) ?_ | refine S_ix1 T.el56 rfl rfl (by omega) (by omega) ?_ | refine S_ix T.el56 rfl rfl (by omega) (by omega) ?_
    refine S_ldK T.ag3 rfl (fun K' hK' => ?_)
    simp (disch := omega) only [hM.c0, hM.c1, hM.c2, hM.c3, hM.c4, hM.ch, hM.cp, hM.ct, oP_some, Nat.add_zero]
    refine hK' _ ?_; clear hK' K'
    refine S_as rfl ?_
    refine S_nil (hK9 _ _ (V_keep [0, 1, 2, 8, 10] (by simp only [proj, lk, reduceIte, Nat.reduceEqDiff]; rfl) ?_)); clear hK9
    refine V_sr T.mix (by kernel_rfl) (fun K10 hK10 => ?_)
    refine S_as rfl ?_
    refine S_nil (hK10 _ _ (V_keep [0, 1, 2, 8, 10, 11] (by simp only [proj, lk, reduceIte, Nat.reduceEqDiff]; rfl) ?_)); clear hK10
    refine V_sr T.mix (by kernel_rfl) (fun K11 hK11 => ?_)
    refine S_as rfl ?_
    refine S_nil (hK11 _ _ (V_keep [0, 1, 2, 8, 10, 11, 12] (by simp only [proj, lk, reduceIte, Nat.reduceEqDiff]; rfl) ?_)); clear hK11
    refine V_seq (fun K12 hK12 => ?_)
    refine V_block ?_
    refine V_loop (fun m l h' => ∃ (c : Int) (best dist k : Nat) (hk : Heap), (SeekI s i c best dist k) ∧ (Mat hk A { st with pr := st.pr + k }) ∧ (Ext (ES A) h hk) ∧ m = (c + 1).toNat ∧ l = [(0, .pointer (some ⟨A.m, 0, none⟩)), (1, .string s), (2, .int .i64 i), (8, .int .i64 (limF s i)), (10, .int .i64 c), (11, .int .i64 best), (12, .int .i64 dist)] ∧ hk = h') _ ⟨_, 2, 0, 0, h, seek_start hc h3, hM, Ext.refl _ _, rfl, rfl, rfl⟩ ?_
    rintro m l h' ⟨c, best, dist, k, hk, hS, hM, hE, rfl, rfl, rfl⟩ K13 hK13
    have hbd := seek_best hS
    have hlo := hS.lo
    have hhi := hS.hi
    refine V_seq (fun K14 hK14 => ?_)
    refine V_sr T.mix (by kernel_rfl) (fun K15 hK15 => ?_)
    refine S_cut (K' := fun l h' => ∃ b : Bool, (b = true ↔ (c ≠ -1 ∧ (i : Int) - c ≤ 16 ∧ (best : Int) < limF s i)) ∧ l = [(0, .pointer (some ⟨A.m, 0, none⟩)), (1, .string s), (2, .int .i64 i), (8, .int .i64 (limF s i)), (10, .int .i64 c), (11, .int .i64 best), (12, .int .i64 dist), (47, .bool b)] ∧ hk = h') ?_ ?_
    · skip
      refine S_mv rfl ?_
      refine S_bin rfl rfl rfl ?_
      refine S_mv rfl ?_
      refine S_dec (fun g70 => ?_) (fun g70 => ?_)
      · skip
        refine S_gt rfl ?_
        refine S_mv rfl ?_
        refine S_gt rfl ?_
        refine S_mv rfl ?_
        refine S_gt rfl ?_
        first | refine S_sub rfl rfl (by omega) (by omega) ?_ | refine S_bin rfl rfl rfl ?_
        refine S_gt rfl ?_
        refine S_bin rfl rfl rfl ?_
        refine S_pt rfl rfl ?_
        refine S_mv rfl ?_
        refine S_dec (fun g70a => ?_) (fun g70a => ?_)
        · skip
          refine S_gt rfl ?_
          refine S_mv rfl ?_
          refine S_gt rfl ?_
          refine S_mv rfl ?_
          refine S_gt rfl ?_
          refine S_bin rfl rfl rfl ?_
          refine S_pt rfl rfl ?_
          exact S_nilk [0, 1, 2, 8, 10, 11, 12, 47] (by simp only [proj, lk, reduceIte, Nat.reduceEqDiff]; rfl) ⟨_, (by first | (simp [*]; done) | (simp; omega)), rfl, rfl⟩
        · skip
          refine S_gf rfl ?_
          refine S_gf rfl ?_
          refine S_gf rfl ?_
          refine S_pf rfl rfl ?_
          exact S_nilk [0, 1, 2, 8, 10, 11, 12, 47] (by simp only [proj, lk, reduceIte, Nat.reduceEqDiff]; rfl) ⟨_, (by first | (simp [*]; done) | (simp; omega)), rfl, rfl⟩
      · skip
        refine S_gf rfl ?_
        refine S_gf rfl ?_
        refine S_gf rfl ?_
        refine S_gf rfl ?_
        refine S_pf rfl rfl ?_
        refine S_mv rfl ?_
        refine S_gf rfl ?_
        refine S_gf rfl ?_
        refine S_gf rfl ?_
        refine S_pf rfl rfl ?_
        exact S_nilk [0, 1, 2, 8, 10, 11, 12, 47] (by simp only [proj, lk, reduceIte, Nat.reduceEqDiff]; rfl) ⟨_, (by first | (simp [*]; done) | (simp; omega)), rfl, rfl⟩
    rintro l h' ⟨b, hb70, rfl, rfl⟩
    refine hK15 _ _ ?_; clear hK15
    refine V_condb rfl (fun c70 => ?_) (fun c70 => ?_)
    · replace c70 := hb70.1 c70
      have hc0 : 0 ≤ c := by omega
      have hdesc := seek_desc hc h3 hS c70.1 c70.2.1
      refine V_skipk [0, 1, 2, 8, 10, 11, 12] (by simp only [proj, lk, reduceIte, Nat.reduceEqDiff]; rfl) ?_
      refine hK14 _ _ ?_; clear hK14
      refine V_block ?_
      refine V_sr T.mix (by kernel_rfl) (fun K17 hK17 => ?_)
      refine S_mv rfl ?_
      refine S_nc rfl ?_
      first | refine S_fa0 T.f73_4 rfl ?_ | refine S_fa T.f73_4 rfl ?_
      refine S_ldK T.ag3 rfl (fun K' hK' => ?_)
      simp (disch := omega) only [hM.c0, hM.c1, hM.c2, hM.c3, hM.c4, hM.ch, hM.cp, hM.ct, oP_some, Nat.add_zero]
      refine hK' _ ?_; clear hK' K'
      first | refine S_add rfl rfl (by omega) (by omega) ?_ | refine S_bin rfl rfl rfl ?_
      refine S_nc rfl ?_
      first | refine S_fa0 T.f73_4 rfl ?_ | refine S_fa T.f73_4 rfl ?_
      refine S_st T.sz3 rfl rfl rfl rfl (by simp (disch := omega) only [hM.o3, hM.o4, hM.oh, hM.op, hM.ot]) ?_
      generalize hh : putH _ _ _ = h1
      have hMh1 : Mat h1 A { st with pr := st.pr + (k + 1) } := by rw [← hh]; exact hM.put_pr (by simp only [Int.natCast_add]; omega)
      have hEh1 : Ext (ES A) hk h1 := by rw [← hh]; exact Ext.put _ _ (.inl rfl)
      clear hh
      replace hM := hMh1
      refine S_nil (hK17 _ _ (V_keep [0, 1, 2, 8, 10, 11, 12] (by simp only [proj, lk, reduceIte, Nat.reduceEqDiff]; rfl) ?_)); clear hK17
      refine V_seq (fun K18 hK18 => ?_)
      refine V_sr T.mix (by kernel_rfl) (fun K19 hK19 => ?_)
      refine S_mv rfl ?_
      refine S_mv rfl ?_
      refine S_mv rfl ?_
      first | refine S_add rfl rfl (by omega) (by omega) ?_ | refine S_bin rfl rfl rfl ?_
      refine S_si T.kd9 rfl rfl (by omega) (by omega) ?_
      refine S_mv rfl ?_
      refine S_mv rfl ?_
      refine S_mv rfl ?_
      first | refine S_add rfl rfl (by omega) (by omega) ?_ | refine S_bin rfl rfl rfl ?_
      refine S_si T.kd9 rfl rfl (by omega) (by omega) ?_
      refine S_bin rfl rfl rfl ?_
      refine S_nil (hK19 _ _ (V_keep [0, 1, 2, 8, 10, 11, 12, 65] (by simp only [proj, lk, reduceIte, Nat.reduceEqDiff]; rfl) ?_)); clear hK19
      refine V_condp rfl (fun c72 => ?_) (fun c72 => ?_)
      · skip
        refine V_sr T.mix (by kernel_rfl) (fun K20 hK20 => ?_)
        refine S_mv rfl ?_
        refine S_mv rfl ?_
        refine S_mv rfl ?_
        refine S_mv rfl ?_
        refine S_call T.hb178 rfl ?_
        refine FC.mono (span_spec s c i (limF s i) h1 (by omega) (by omega) (by omega) (by omega) (by omega)) ?_
        rintro v h' ⟨rfl, rfl⟩
        simp only [Int.toNat_natCast]
        have hsp := span_le s (limF s i) c.toNat i
        refine S_as rfl ?_
        refine S_nil (hK20 _ _ (V_keep [0, 1, 2, 8, 10, 11, 12, 13] (by simp only [proj, lk, reduceIte, Nat.reduceEqDiff]; rfl) ?_)); clear hK20
        refine V_sr T.mix (by kernel_rfl) (fun K21 hK21 => ?_)
        refine S_mv rfl ?_
        refine S_mv rfl ?_
        refine S_bin rfl rfl rfl ?_
        refine S_nil (hK21 _ _ (V_keep [0, 1, 2, 8, 10, 11, 12, 13, 73] (by simp only [proj, lk, reduceIte, Nat.reduceEqDiff]; rfl) ?_)); clear hK21
        refine V_condp rfl (fun c74 => ?_) (fun c74 => ?_)
        · skip
          refine V_sr T.mix (by kernel_rfl) (fun K22 hK22 => ?_)
          refine S_mv rfl ?_
          refine S_as rfl ?_
          refine S_nil (hK22 _ _ (V_keep [0, 1, 2, 8, 10, 11] (by simp only [proj, lk, reduceIte, Nat.reduceEqDiff]; rfl) ?_)); clear hK22
          refine V_reg T.mix (by kernel_rfl) ?_
          refine S_mv rfl ?_
          refine S_mv rfl ?_
          first | refine S_sub rfl rfl (by omega) (by omega) ?_ | refine S_bin rfl rfl rfl ?_
          refine S_as rfl ?_
          refine S_nilk [0, 1, 2, 8, 10, 11, 12] (by simp only [proj, lk, reduceIte, Nat.reduceEqDiff]; rfl) ?_
          refine hK18 _ _ ?_; clear hK18
          refine V_reg T.mix (by kernel_rfl) ?_
          refine S_mv rfl ?_
          refine S_nc rfl ?_
          first | refine S_fa0 T.f73_1 rfl ?_ | refine S_fa T.f73_1 rfl ?_
          refine S_ldK T.ag56 rfl (fun K' hK' => ?_)
          simp (disch := omega) only [hM.c0, hM.c1, hM.c2, hM.c3, hM.c4, hM.ch, hM.cp, hM.ct, oP_some, Nat.add_zero]
          refine hK' _ ?_; clear hK' K'
          refine S_mv rfl ?_
          first | refine S_andm 15 4 16 rfl rfl rfl (by decide) (by decide) (by omega) (by omega) ?_ | refine S_bin rfl rfl rfl ?_
          first | refine S_ixn T.el56 rfl rfl (by omega) ?_ | refine S_ix1 T.el56 rfl rfl (by omega) (by omega) ?_ | refine S_ix T.el56 rfl rfl (by omega) (by omega) ?_
          refine S_ldK T.ag3 rfl (fun K' hK' => ?_)
          simp (disch := omega) only [hM.c0, hM.c1, hM.c2, hM.c3, hM.c4, hM.ch, hM.cp, hM.ct, oP_some, Nat.add_zero]
          refine hK' _ ?_; clear hK' K'
          refine S_as rfl ?_
          refine S_nilk [0, 1, 2, 8, 10, 11, 12] (by simp only [proj, lk, reduceIte, Nat.reduceEqDiff]; rfl) ?_
          rw [show (c % 16).toNat = c.toNat % 16 by omega]
          rw [show (i : Int) - c = ((i - c.toNat : Nat) : Int) by omega]
          exact hK13 _ _ ⟨_, by omega, _, _, _, k + 1, _, seek_step hc h3 hS c70.1 c70.2.1 (.inl ⟨by omega, rfl, rfl⟩), hM, hE.trans hEh1, rfl, rfl, rfl⟩
        · skip
          refine V_skipk [0, 1, 2, 8, 10, 11, 12] (by simp only [proj, lk, reduceIte, Nat.reduceEqDiff]; rfl) ?_
          refine hK18 _ _ ?_; clear hK18
          refine V_reg T.mix (by kernel_rfl) ?_
          refine S_mv rfl ?_
          refine S_nc rfl ?_
          first | refine S_fa0 T.f73_1 rfl ?_ | refine S_fa T.f73_1 rfl ?_
          refine S_ldK T.ag56 rfl (fun K' hK' => ?_)
          simp (disch := omega) only [hM.c0, hM.c1, hM.c2, hM.c3, hM.c4, hM.ch, hM.cp, hM.ct, oP_some, Nat.add_zero]
          refine hK' _ ?_; clear hK' K'
          refine S_mv rfl ?_
          first | refine S_andm 15 4 16 rfl rfl rfl (by decide) (by decide) (by omega) (by omega) ?_ | refine S_bin rfl rfl rfl ?_
          first | refine S_ixn T.el56 rfl rfl (by omega) ?_ | refine S_ix1 T.el56 rfl rfl (by omega) (by omega) ?_ | refine S_ix T.el56 rfl rfl (by omega) (by omega) ?_
          refine S_ldK T.ag3 rfl (fun K' hK' => ?_)
          simp (disch := omega) only [hM.c0, hM.c1, hM.c2, hM.c3, hM.c4, hM.ch, hM.cp, hM.ct, oP_some, Nat.add_zero]
          refine hK' _ ?_; clear hK' K'
          refine S_as rfl ?_
          refine S_nilk [0, 1, 2, 8, 10, 11, 12] (by simp only [proj, lk, reduceIte, Nat.reduceEqDiff]; rfl) ?_
          rw [show (c % 16).toNat = c.toNat % 16 by omega]
          exact hK13 _ _ ⟨_, by omega, _, _, _, k + 1, _, seek_step hc h3 hS c70.1 c70.2.1 (.inr ⟨by omega, rfl, rfl⟩), hM, hE.trans hEh1, rfl, rfl, rfl⟩
      · skip
        refine V_skipk [0, 1, 2, 8, 10, 11, 12] (by simp only [proj, lk, reduceIte, Nat.reduceEqDiff]; rfl) ?_
        refine hK18 _ _ ?_; clear hK18
        refine V_reg T.mix (by kernel_rfl) ?_
        refine S_mv rfl ?_
        refine S_nc rfl ?_
        first | refine S_fa0 T.f73_1 rfl ?_ | refine S_fa T.f73_1 rfl ?_
        refine S_ldK T.ag56 rfl (fun K' hK' => ?_)
        simp (disch := omega) only [hM.c0, hM.c1, hM.c2, hM.c3, hM.c4, hM.ch, hM.cp, hM.ct, oP_some, Nat.add_zero]
        refine hK' _ ?_; clear hK' K'
        refine S_mv rfl ?_
        first | refine S_andm 15 4 16 rfl rfl rfl (by decide) (by decide) (by omega) (by omega) ?_ | refine S_bin rfl rfl rfl ?_
        first | refine S_ixn T.el56 rfl rfl (by omega) ?_ | refine S_ix1 T.el56 rfl rfl (by omega) (by omega) ?_ | refine S_ix T.el56 rfl rfl (by omega) (by omega) ?_
        refine S_ldK T.ag3 rfl (fun K' hK' => ?_)
        simp (disch := omega) only [hM.c0, hM.c1, hM.c2, hM.c3, hM.c4, hM.ch, hM.cp, hM.ct, oP_some, Nat.add_zero]
        refine hK' _ ?_; clear hK' K'
        refine S_as rfl ?_
        refine S_nilk [0, 1, 2, 8, 10, 11, 12] (by simp only [proj, lk, reduceIte, Nat.reduceEqDiff]; rfl) ?_
        rw [show (c % 16).toNat = c.toNat % 16 by omega]
        have hq : spanF s c.toNat i (limF s i) ≤ best := quick (by omega) (fun he => c72 (by rw [show (c + (best : Int)).toNat = c.toNat + best by omega, show ((i : Int) + (best : Int)).toNat = i + best by omega, he]))
        exact hK13 _ _ ⟨_, by omega, _, _, _, k + 1, _, seek_step hc h3 hS c70.1 c70.2.1 (.inr ⟨hq, rfl, rfl⟩), hM, hE.trans hEh1, rfl, rfl, rfl⟩
    · replace c70 : ¬ _ := fun hp => Bool.false_ne_true (c70.symm.trans (hb70.2 hp))
      refine V_exitk [11, 12] rfl (by simp only [proj, lk, reduceIte, Nat.reduceEqDiff]; rfl) ?_
      refine hK12 _ _ ?_; clear hK12
      refine V_seq (fun K23 hK23 => ?_)
      refine V_sr T.mix (by kernel_rfl) (fun K24 hK24 => ?_)
      refine S_mv rfl ?_
      refine S_bin rfl rfl rfl ?_
      refine S_nil (hK24 _ _ (V_keep [11, 12, 87] (by simp only [proj, lk, reduceIte, Nat.reduceEqDiff]; rfl) ?_)); clear hK24
      refine V_condp rfl (fun c81 => ?_) (fun c81 => ?_)
      · skip
        refine V_sr T.mix (by kernel_rfl) (fun K25 hK25 => ?_)
        refine S_as rfl ?_
        refine S_as rfl ?_
        refine S_nil (hK25 _ _ (V_keep [6, 7] (by simp only [proj, lk, reduceIte, Nat.reduceEqDiff]; rfl) ?_)); clear hK25
        refine V_ret ?_
        refine hR _ _ (ret2 rfl rfl rfl ?_)
        obtain ⟨e1, e2⟩ := seek_end h3 hS (by omega)
        exact ⟨by rw [e1, if_pos (by omega)]; rfl, k, e2, hM, hE⟩
      · skip
        refine V_skipk [11, 12] (by simp only [proj, lk, reduceIte, Nat.reduceEqDiff]; rfl) ?_
        refine hK23 _ _ ?_; clear hK23
        refine V_sr T.mix (by kernel_rfl) (fun K26 hK26 => ?_)
        refine S_mv rfl ?_
        refine S_mv rfl ?_
        refine S_as rfl ?_
        refine S_as rfl ?_
        refine S_nil (hK26 _ _ (V_keep [6, 7] (by simp only [proj, lk, reduceIte, Nat.reduceEqDiff]; rfl) ?_)); clear hK26
        refine V_ret ?_
        refine hR _ _ (ret2 rfl rfl rfl ?_)
        obtain ⟨e1, e2⟩ := seek_end h3 hS (by omega)
        exact ⟨by rw [e1, if_neg (by omega)], k, e2, hM, hE⟩
end Go.Proofs.Qxb6500404aGreat.LzW
