import Derived.Test.Qxb6500400aGreatYg
set_option linter.unusedVariables false
set_option linter.unusedSimpArgs false
namespace Go.Proofs.Qxb6500400aGreat
open Go.Eng Go.Trl Go.Chk Go.Wat

/-- the model learner's record -/
structure LC where
  calls : Nat
  ba : Option Addr
  bc : Nat
  backs : List Int
  sa : Option Addr
  sc : Nat
  said : List Int
def LC.z : LC := ⟨0, none, 0, [], none, 0, []⟩
def lcs (Y M : Nat) (q : LC) : Array Value := #[.pointer (some ⟨Y, 0, none⟩), .pointer (some ⟨M, 0, none⟩), .int .i64 (q.calls : Int), .slice q.ba q.backs.length q.bc, .slice q.sa q.said.length q.sc]
theorem lmq {h : Heap} {D Y M : Nat} {q : LC} (hB : B h D (lcs Y M q) 63) : cellH h ⟨D, 0, none⟩ = some (.pointer (some ⟨Y, 0, none⟩)) ∧ cellH h ⟨D, 1, none⟩ = some (.pointer (some ⟨M, 0, none⟩)) ∧ cellH h ⟨D, 2, none⟩ = some (.int .i64 (q.calls : Int)) ∧ cellH h ⟨D, 3, none⟩ = some (.slice q.ba q.backs.length q.bc) ∧ cellH h ⟨D, 4, none⟩ = some (.slice q.sa q.said.length q.sc) ∧ ∀ j, j < 5 → okPut h ⟨D, j, none⟩ = true :=
  ⟨hB.cell 0, hB.cell 1, hB.cell 2, hB.cell 3, hB.cell 4, fun j hj => hB.ok (by simpa [lcs] using hj)⟩
structure LM (h : Heap) (D Y M : Nat) (q : LC) : Prop where
  b : B h D (lcs Y M q) 63
  bo : IL h q.ba q.bc q.backs
  so : IL h q.sa q.sc q.said
  nb : ∀ b, blkA q.ba = some b → b ≠ D
  ns : ∀ b, blkA q.sa = some b → b ≠ D
  bs : ∀ b, blkA q.ba = some b → blkA q.sa ≠ some b
  sl : q.said.length ≤ 262157
  bl : q.backs.length ≤ q.said.length
def LT (q : LC) (D b : Nat) : Prop := b = D ∨ blkA q.ba = some b ∨ blkA q.sa = some b
theorem LM.ext {h h' : Heap} {D Y M : Nat} {q : LC} {S : Nat → Prop} (w : LM h D Y M q) (he : Ext S h h') (hs : ∀ b, LT q D b → ¬ S b) : LM h' D Y M q :=
  ⟨w.b.ext he (hs D (.inl rfl)), w.bo.ext he (fun b e => hs b (.inr (.inl e))), w.so.ext he (fun b e => hs b (.inr (.inr e))), w.nb, w.ns, w.bs, w.sl, w.bl⟩
theorem LM.new {h h' : Heap} {D Y M : Nat} {q : LC} (w : LM h D Y M q) (he : Ext (fun _ => False) h h') : LM h' D Y M q := w.ext he (fun _ _ f => f)
theorem LM.lt {h : Heap} {D Y M : Nat} {q : LC} (w : LM h D Y M q) {b : Nat} (hb : LT q D b) : b < h.size := by
  rcases hb with e | e | e
  · rw [e]; exact w.b.lt
  · exact w.bo.lt e
  · exact w.so.lt e
/-- what an answer leaves -/
def LN (q q' : LC) (g : Ans) : Prop := q'.calls = q.calls + 1 ∧ (g.err = 0 ∧ q.said.length ≤ 262144 → q'.said = q.said ++ g.lits ++ [0] ∧ q'.backs = q.backs ++ [g.back]) ∧ (¬ (g.err = 0 ∧ q.said.length ≤ 262144) → q'.said = q.said ∧ q'.backs = q.backs)
theorem addM_len (p : Int) : ∀ {l n : List Int}, (addM p n l).length ≤ n.length + l.length
  | [], n => by simp [addM]
  | y :: l, n => by
    rw [addM]
    have := addM_len p (l := l) (n := if y ≠ p ∧ y ∉ n then n ++ [y] else n)
    split at this
    · rename_i e; rw [if_pos e]; simp at this ⊢; omega
    · rename_i e; rw [if_neg e]; simp at this ⊢; omega
theorem mr_nl {h : Heap} {mm : MC} {cl : Nat → Option (List Int)} {G : Nat → Prop} (r : MR h mm cl G) : NL cl := fun n hn c hc => (r.c n hn c hc).1
theorem qH4 {hm : Int → Bool} {v : Nat} (a b : Bool) (ha : hm (v : Int) = a) (hb : hm (-(v : Int)) = b) : qH hm v = if b then -(v : Int) else if a then (v : Int) else 0 := by unfold qH; rw [ha, hb]
theorem qH_le (hm : Int → Bool) (v : Nat) : -(v : Int) ≤ qH hm v ∧ qH hm v ≤ v := by
  unfold qH; repeat' split
  all_goals omega
theorem shH_succ (s : TS) (cl : Nat → Option (List Int)) (hm : Int → Bool) (v : Nat) : shH s cl hm (v + 1) = if qH hm (v + 1) ≠ 0 then
      if levV s.L ((v + 1 : Nat) : Int) = (s.k : Int) then ⟨0, (shH s cl hm v).lits ++ [qH hm (v + 1)], qH hm (v + 1), (shH s cl hm v).back⟩
      else if spH s cl hm (qH hm (v + 1)) = false then ⟨0, (shH s cl hm v).lits ++ [qH hm (v + 1)], (shH s cl hm v).asr, if (shH s cl hm v).back < levV s.L ((v + 1 : Nat) : Int) then levV s.L ((v + 1 : Nat) : Int) else (shH s cl hm v).back⟩
      else shH s cl hm v
    else shH s cl hm v := rfl
theorem shH_len (s : TS) (cl : Nat → Option (List Int)) (hm : Int → Bool) : ∀ v, (shH s cl hm v).lits.length ≤ v ∧ (shH s cl hm v).err = 0
  | 0 => ⟨Nat.le_refl _, rfl⟩
  | v + 1 => by
    have := shH_len s cl hm v
    rw [shH_succ]
    repeat' split
    all_goals first | (simp; omega) | (exact ⟨by omega, this.2⟩)
theorem levV_rng {s : TS} (hok : Ok s) (v : Int) : -1 ≤ levV s.L v ∧ levV s.L v ≤ 12 := by
  have hd := hok.dep
  have hl := hok.len
  unfold levV
  split
  · rename_i p e
    have := lev_rng hok (loc_some (show loc s.L v = some (p.1, p.2) from e)).1
    omega
  · omega
set_option maxHeartbeats 400000 in
theorem mlnew_spec (h : Heap) (Y M : Nat) :
    FC Tryz.prog 21 (#[.pointer (some ⟨Y, 0, none⟩), .pointer (some ⟨M, 0, none⟩)] : Array Value) h fun v h' => v = .pointer (some ⟨h.size, 0, none⟩) ∧ LM h' h.size Y M LC.z ∧ Ext (fun _ => False) h h' := by
  refine FC_of [(0, .pointer (some ⟨Y, 0, none⟩)), (1, .pointer (some ⟨M, 0, none⟩))] Tryz.func21 rfl Tryz.ntmps21 (by simp) rfl (fun R hR => ?_)
  refine V_sr T.mix (by kernel_rfl) (fun K1 hK1 => ?_)
  refine S_as rfl ?_
  refine S_nil (hK1 _ _ (V_keep [0, 1] (by simp only [proj, lk, reduceIte, Nat.reduceEqDiff]; rfl) ?_)); clear hK1
  refine V_sr T.mix (by kernel_rfl) (fun K2 hK2 => ?_)
  refine S_mv rfl ?_
  refine S_mv rfl ?_
  refine S_bld rfl (T.bld63_0_1 _ _) ?_
  refine S_boxA rfl ?_
  refine S_as rfl ?_
  refine S_nil (hK2 _ _ (V_keep [4] (by simp only [proj, lk, reduceIte, Nat.reduceEqDiff]; rfl) ?_)); clear hK2
  refine V_ret ?_
  refine hR _ _ (ret1 rfl rfl ?_)
  exact ⟨rfl, ⟨B.new _ _ _, IL.nil _, IL.nil _, by simp [LC.z, blkA], by simp [LC.z, blkA], by simp [LC.z, blkA], by simp [LC.z], by simp [LC.z]⟩, Ext.push _ _ _⟩
set_option maxHeartbeats 400000 in
theorem mlmark_spec (h : Heap) (D Y M : Nat) (q : LC) (w : LM h D Y M q) :
    FC Tryz.prog 13 (#[.pointer (some ⟨D, 0, none⟩)] : Array Value) h fun v h' => v = .tuple #[] ∧ LM h' D Y M LC.z ∧ Ext (fun x => x = D) h h' := by
  try clear m0 m1 m2 m3 m4 hmok
  obtain ⟨m0, m1, m2, m3, m4, hmok⟩ := lmq (w.b)
  refine FC_of [(0, .pointer (some ⟨D, 0, none⟩))] Tryz.func13 rfl Tryz.ntmps13 (by simp) rfl (fun R hR => ?_)
  refine V_sr T.mix (by kernel_rfl) (fun K1 hK1 => ?_)
  refine S_mv rfl ?_
  refine S_nc rfl ?_
  first | refine S_fa0 T.f63_2 rfl ?_ | refine S_fa T.f63_2 rfl ?_
  refine S_st T.sz3 rfl rfl rfl rfl (by simp (disch := omega) only [hmok]) ?_
  generalize hh : putH _ _ _ = h1
  have hBh1 : B h1 D (lcs Y M { q with calls := 0 }) 63 := by rw [← hh]; exact ((w.b).put 2 _).cong (by simp [lcs, LC.z, Nat.add_assoc])
  have hEh1 : Ext (fun x => x = D) h h1 := by rw [← hh]; exact Ext.put _ _ rfl
  clear hh
  try clear m0 m1 m2 m3 m4 hmok
  obtain ⟨m0, m1, m2, m3, m4, hmok⟩ := lmq (hBh1)
  refine S_nil (hK1 _ _ (V_keep [0] (by simp only [proj, lk, reduceIte, Nat.reduceEqDiff]; rfl) ?_)); clear hK1
  refine V_sr T.mix (by kernel_rfl) (fun K2 hK2 => ?_)
  refine S_mv rfl ?_
  refine S_nc rfl ?_
  first | refine S_fa0 T.f63_4 rfl ?_ | refine S_fa T.f63_4 rfl ?_
  refine S_st T.sz39 rfl rfl rfl rfl (by simp (disch := omega) only [hmok]) ?_
  generalize hh : putH _ _ _ = h2
  have hBh2 : B h2 D (lcs Y M { q with calls := 0, sa := none, sc := 0, said := [] }) 63 := by rw [← hh]; exact ((hBh1).put 4 _).cong (by simp [lcs, LC.z, Nat.add_assoc])
  have hEh2 : Ext (fun x => x = D) h1 h2 := by rw [← hh]; exact Ext.put _ _ rfl
  clear hh
  try clear m0 m1 m2 m3 m4 hmok
  obtain ⟨m0, m1, m2, m3, m4, hmok⟩ := lmq (hBh2)
  refine S_nil (hK2 _ _ (V_keep [0] (by simp only [proj, lk, reduceIte, Nat.reduceEqDiff]; rfl) ?_)); clear hK2
  refine V_reg T.mix (by kernel_rfl) ?_
  refine S_mv rfl ?_
  refine S_nc rfl ?_
  first | refine S_fa0 T.f63_3 rfl ?_ | refine S_fa T.f63_3 rfl ?_
  refine S_st T.sz39 rfl rfl rfl rfl (by simp (disch := omega) only [hmok]) ?_
  generalize hh : putH _ _ _ = h3
  have hBh3 : B h3 D (lcs Y M LC.z) 63 := by rw [← hh]; exact ((hBh2).put 3 _).cong (by simp [lcs, LC.z, Nat.add_assoc])
  have hEh3 : Ext (fun x => x = D) h2 h3 := by rw [← hh]; exact Ext.put _ _ rfl
  clear hh
  try clear m0 m1 m2 m3 m4 hmok
  obtain ⟨m0, m1, m2, m3, m4, hmok⟩ := lmq (hBh3)
  refine S_nilk [] (by simp only [proj, lk, reduceIte, Nat.reduceEqDiff]; rfl) ?_
  -- end
  refine hR _ _ (ret0 rfl ?_)
  exact ⟨rfl, ⟨hBh3, IL.nil _, IL.nil _, by simp [LC.z, blkA], by simp [LC.z, blkA], by simp [LC.z, blkA], by simp [LC.z], by simp [LC.z]⟩, (hEh1.trans hEh2).trans hEh3⟩
set_option maxHeartbeats 400000 in
theorem mhas_spec (h : Heap) (a : Option Addr) (cap : Nat) (xs : List Int) (ho : IL h a cap xs) (hl : xs.length ≤ 100000) (hc : Con (· ∈ xs)) (x : Int) (hx : -12 ≤ x ∧ x ≤ 12) :
    FC Tryz.prog 111 (#[.slice a xs.length cap, .int .i64 x] : Array Value) h fun rv h' => rv = .bool (decide (x ∈ xs)) ∧ h = h' := by
  refine FC_of [(0, .slice a xs.length cap), (1, .int .i64 x)] Tryz.func111 rfl Tryz.ntmps111 (by simp) rfl (fun R hR => ?_)
  refine V_sr T.mix (by kernel_rfl) (fun K1 hK1 => ?_)
  refine S_as rfl ?_
  refine S_nil (hK1 _ _ (V_keep [0, 1] (by simp only [proj, lk, reduceIte, Nat.reduceEqDiff]; rfl) ?_)); clear hK1
  refine V_sr T.mix (by kernel_rfl) (fun K2 hK2 => ?_)
  refine S_mv rfl ?_
  refine S_mv rfl ?_
  refine S_call T.hb122 rfl ?_
  refine FC.mono (val_spec h x hx a cap xs ho (by omega)) ?_
  rintro v' h' ⟨v, rfl, hv, rfl⟩
  refine S_bin rfl rfl rfl ?_
  refine S_as rfl ?_
  refine S_nil (hK2 _ _ (V_keep [4] (by simp only [proj, lk, reduceIte, Nat.reduceEqDiff]; rfl) ?_)); clear hK2
  refine V_ret ?_
  refine hR _ _ (ret1 rfl rfl ?_)
  refine ⟨?_, rfl⟩
  rcases hv with ⟨rfl, e⟩ | ⟨rfl, e⟩ | ⟨rfl, e, _⟩
  · rw [decide_eq_true e]; rfl
  · rw [decide_eq_false (fun z => hc x z e)]; rfl
  · rw [decide_eq_false e]; rfl
set_option maxHeartbeats 400000 in
theorem matlevel_spec (h : Heap) (D Y M : Nat) (q : LC) (w : LM h D Y M q) (F : Nat → Prop) (s : TS) (ms : MS h Y F s) (ca : Option Addr) (cap : Nat) (c : List Int) (ho : IL h ca cap c) (hl : c.length ≤ 100000) (hg : ∀ x ∈ c, gd x) (lv : Int) :
    FC Tryz.prog 110 (#[.pointer (some ⟨D, 0, none⟩), .slice ca c.length cap, .int .i64 lv] : Array Value) h fun rv h' => rv = .int .i64 ((c.filter (fun x => decide (levV s.L (x.natAbs : Int) = lv))).length : Int) ∧ h = h' := by
  try clear m0 m1 m2 m3 m4 hmok
  obtain ⟨m0, m1, m2, m3, m4, hmok⟩ := lmq (w.b)
  refine FC_of [(0, .pointer (some ⟨D, 0, none⟩)), (1, .slice ca c.length cap), (2, .int .i64 lv)] Tryz.func110 rfl Tryz.ntmps110 (by simp) rfl (fun R hR => ?_)
  refine V_sr T.mix (by kernel_rfl) (fun K1 hK1 => ?_)
  refine S_as rfl ?_
  refine S_nil (hK1 _ _ (V_keep [0, 1, 2] (by simp only [proj, lk, reduceIte, Nat.reduceEqDiff]; rfl) ?_)); clear hK1
  refine V_sr T.mix (by kernel_rfl) (fun K2 hK2 => ?_)
  refine S_as rfl ?_
  refine S_nil (hK2 _ _ (V_keep [0, 1, 2, 7] (by simp only [proj, lk, reduceIte, Nat.reduceEqDiff]; rfl) ?_)); clear hK2
  refine V_seq (fun K3 hK3 => ?_)
  refine V_sr T.mix (by kernel_rfl) (fun K4 hK4 => ?_)
  refine S_as rfl ?_
  refine S_nil (hK4 _ _ (V_keep [0, 1, 2, 7, 8] (by simp only [proj, lk, reduceIte, Nat.reduceEqDiff]; rfl) ?_)); clear hK4
  refine V_block ?_
  refine V_loop (fun m l h' => ∃ (i : Nat), (i ≤ c.length) ∧ m = c.length - i ∧ l = [(0, .pointer (some ⟨D, 0, none⟩)), (1, .slice ca c.length cap), (2, .int .i64 lv), (7, .int .i64 (((c.take i).filter (fun x => decide (levV s.L (x.natAbs : Int) = lv))).length : Int)), (8, .int .i64 (i : Int))] ∧ h = h') _ ⟨0, by omega, rfl, rfl, rfl⟩ ?_
  rintro m l h' ⟨i, hi, rfl, rfl, rfl⟩ K5 hK5
  have hfl := filt_le (c := c) (i := i) (fun x => decide (levV s.L (x.natAbs : Int) = lv))
  have hsn := fun h9 => filt_snoc (c := c) (i := i) h9 (fun x => decide (levV s.L (x.natAbs : Int) = lv))
  refine V_seq (fun K6 hK6 => ?_)
  refine V_sr T.mix (by kernel_rfl) (fun K7 hK7 => ?_)
  refine S_mv rfl ?_
  refine S_mv rfl ?_
  refine S_lenl T.el39 rfl ?_
  refine S_bin rfl rfl rfl ?_
  refine S_nil (hK7 _ _ (V_keep [0, 1, 2, 7, 8, 13] (by simp only [proj, lk, reduceIte, Nat.reduceEqDiff]; rfl) ?_)); clear hK7
  refine V_condp rfl (fun c35 => ?_) (fun c35 => ?_)
  · skip
    obtain ⟨bb, rfl, _, _, _⟩ := ho.get (by omega)
    have hgl := hg _ (mem_at (show i < c.length by omega))
    unfold gd at hgl
    refine V_skipk [0, 1, 2, 7, 8] (by simp only [proj, lk, reduceIte, Nat.reduceEqDiff]; rfl) ?_
    refine hK6 _ _ ?_; clear hK6
    refine V_seq (fun K8 hK8 => ?_)
    refine V_block ?_
    refine V_sr T.mix (by kernel_rfl) (fun K9 hK9 => ?_)
    refine S_mv rfl ?_
    refine S_mv rfl ?_
    first | refine S_ixn T.el39 rfl rfl (by omega) ?_ | refine S_ix1 T.el39 rfl rfl (by omega) (by omega) ?_ | refine S_ix T.el39 rfl rfl (by omega) (by omega) ?_
    refine S_ldK T.ag3 rfl (fun K' hK' => ?_)
    simp (disch := omega) only [ho.at, oP_some, Nat.add_zero]
    refine hK' _ ?_; clear hK' K'
    refine S_call T.hb65 rfl ?_
    refine FC.mono (var_spec _ ((c.getD i 0)) (by omega) (by omega)) ?_
    rintro v' h' ⟨rfl, rfl⟩
    refine S_as rfl ?_
    refine S_nil (hK9 _ _ (V_keep [0, 1, 2, 7, 8, 9] (by simp only [proj, lk, reduceIte, Nat.reduceEqDiff]; rfl) ?_)); clear hK9
    refine V_sr T.mix (by kernel_rfl) (fun K10 hK10 => ?_)
    refine S_mv rfl ?_
    refine S_nc rfl ?_
    first | refine S_fa0 T.f63_0 rfl ?_ | refine S_fa T.f63_0 rfl ?_
    refine S_ldK T.ag34 rfl (fun K' hK' => ?_)
    simp (disch := omega) only [m0, m1, m2, m3, m4, oP_some, Nat.add_zero]
    refine hK' _ ?_; clear hK' K'
    refine S_mv rfl ?_
    refine S_call T.hb53 rfl ?_
    refine FC.mono (mlevelof_spec h Y F s ms ((c.getD i 0).natAbs : Int)) ?_
    rintro v' h' ⟨rfl, rfl⟩
    refine S_mv rfl ?_
    refine S_bin rfl rfl rfl ?_
    refine S_nil (hK10 _ _ (V_keep [0, 1, 2, 7, 8, 28] (by simp only [proj, lk, reduceIte, Nat.reduceEqDiff]; rfl) ?_)); clear hK10
    refine V_condp rfl (fun c37 => ?_) (fun c37 => ?_)
    · skip
      refine V_reg T.mix (by kernel_rfl) ?_
      refine S_mv rfl ?_
      first | refine S_add rfl rfl (by omega) (by omega) ?_ | refine S_bin rfl rfl rfl ?_
      refine S_as rfl ?_
      refine S_nilk [0, 1, 2, 7, 8] (by simp only [proj, lk, reduceIte, Nat.reduceEqDiff]; rfl) ?_
      refine hK8 _ _ ?_; clear hK8
      refine V_reg T.mix (by kernel_rfl) ?_
      refine S_mv rfl ?_
      first | refine S_add rfl rfl (by omega) (by omega) ?_ | refine S_bin rfl rfl rfl ?_
      refine S_as rfl ?_
      refine S_nilk [0, 1, 2, 7, 8] (by simp only [proj, lk, reduceIte, Nat.reduceEqDiff]; rfl) ?_
      exact hK5 _ _ ⟨_, by omega, i + 1, by omega, rfl, by rw [hsn (by omega), if_pos (decide_eq_true c37)]; simp, rfl⟩
    · skip
      refine V_skipk [0, 1, 2, 7, 8] (by simp only [proj, lk, reduceIte, Nat.reduceEqDiff]; rfl) ?_
      refine hK8 _ _ ?_; clear hK8
      refine V_reg T.mix (by kernel_rfl) ?_
      refine S_mv rfl ?_
      first | refine S_add rfl rfl (by omega) (by omega) ?_ | refine S_bin rfl rfl rfl ?_
      refine S_as rfl ?_
      refine S_nilk [0, 1, 2, 7, 8] (by simp only [proj, lk, reduceIte, Nat.reduceEqDiff]; rfl) ?_
      exact hK5 _ _ ⟨_, by omega, i + 1, by omega, rfl, by rw [hsn (by omega), if_neg (by rw [decide_eq_false c37]; simp)]; rfl, rfl⟩
  · skip
    refine V_exitk [7] rfl (by simp only [proj, lk, reduceIte, Nat.reduceEqDiff]; rfl) ?_
    refine hK3 _ _ ?_; clear hK3
    refine V_sr T.mix (by kernel_rfl) (fun K11 hK11 => ?_)
    refine S_mv rfl ?_
    refine S_as rfl ?_
    refine S_nil (hK11 _ _ (V_keep [6] (by simp only [proj, lk, reduceIte, Nat.reduceEqDiff]; rfl) ?_)); clear hK11
    refine V_ret ?_
    refine hR _ _ (ret1 rfl rfl ?_)
    exact ⟨by rw [show i = c.length by omega, List.take_length], rfl⟩
set_option maxHeartbeats 1600000 in
theorem mspare_spec (h : Heap) (D Y M : Nat) (q : LC) (w : LM h D Y M q) (mm : MC) (cl : Nat → Option (List Int)) (G F : Nat → Prop) (s : TS) (mv : MV h M Y mm cl G F s) (ca : Option Addr) (cap : Nat) (c : List Int) (ho : IL h ca cap c) (hl : c.length ≤ 100000) (hcn : Con (· ∈ c)) (qq : Int) (hq : -12 ≤ qq ∧ qq ≤ 12) :
    FC Tryz.prog 112 (#[.pointer (some ⟨D, 0, none⟩), .slice ca c.length cap, .int .i64 qq] : Array Value) h fun rv h' => rv = .bool (spH s cl (fun x => decide (x ∈ c)) qq) ∧ Ext (fun _ => False) h h' := by
  try clear m0 m1 m2 m3 m4 hmok
  obtain ⟨m0, m1, m2, m3, m4, hmok⟩ := lmq (w.b)
  refine FC_of [(0, .pointer (some ⟨D, 0, none⟩)), (1, .slice ca c.length cap), (2, .int .i64 qq)] Tryz.func112 rfl Tryz.ntmps112 (by simp) rfl (fun R hR => ?_)
  refine V_sr T.mix (by kernel_rfl) (fun K1 hK1 => ?_)
  refine S_as rfl ?_
  refine S_nil (hK1 _ _ (V_keep [0, 1, 2] (by simp only [proj, lk, reduceIte, Nat.reduceEqDiff]; rfl) ?_)); clear hK1
  refine V_sr T.mix (by kernel_rfl) (fun K2 hK2 => ?_)
  refine S_mv rfl ?_
  refine S_call T.hb65 rfl ?_
  refine FC.mono (var_spec _ (qq) (by omega) (by omega)) ?_
  rintro v' h' ⟨rfl, rfl⟩
  refine S_as rfl ?_
  refine S_nil (hK2 _ _ (V_keep [0, 1, 2, 7] (by simp only [proj, lk, reduceIte, Nat.reduceEqDiff]; rfl) ?_)); clear hK2
  refine V_sr T.mix (by kernel_rfl) (fun K3 hK3 => ?_)
  refine S_mv rfl ?_
  refine S_nc rfl ?_
  first | refine S_fa0 T.f63_0 rfl ?_ | refine S_fa T.f63_0 rfl ?_
  refine S_ldK T.ag34 rfl (fun K' hK' => ?_)
  simp (disch := omega) only [m0, m1, m2, m3, m4, oP_some, Nat.add_zero]
  refine hK' _ ?_; clear hK' K'
  refine S_mv rfl ?_
  refine S_call T.hb54 rfl ?_
  refine FC.mono (mreason_spec h Y F s mv.t (qq.natAbs : Int)) ?_
  rintro v' h' ⟨rfl, rfl⟩
  refine S_as rfl ?_
  refine S_nil (hK3 _ _ (V_keep [0, 1, 2, 8] (by simp only [proj, lk, reduceIte, Nat.reduceEqDiff]; rfl) ?_)); clear hK3
  refine V_sr T.mix (by kernel_rfl) (fun K4 hK4 => ?_)
  refine S_mv rfl ?_
  refine S_nc rfl ?_
  first | refine S_fa0 T.f63_1 rfl ?_ | refine S_fa T.f63_1 rfl ?_
  refine S_ldK T.ag35 rfl (fun K' hK' => ?_)
  simp (disch := omega) only [m0, m1, m2, m3, m4, oP_some, Nat.add_zero]
  refine hK' _ ?_; clear hK' K'
  refine S_mv rfl ?_
  refine S_call T.hb57 rfl ?_
  refine FC.mono (mwclause_spec h M Y mm cl G F s mv (reaV s.L (qq.natAbs : Int))) ?_
  rintro v' h1 ⟨ra, rfl, hIr, _, hrb, hE1⟩
  have w1 := w.new hE1
  have mv1 := mv.ext hE1 (fun f => f) (fun _ _ f => f) (fun _ _ f => f)
  try clear m0 m1 m2 m3 m4 hmok
  obtain ⟨m0, m1, m2, m3, m4, hmok⟩ := lmq (w1.b)
  refine S_mv rfl ?_
  refine S_ex rfl rfl ?_
  refine S_ex rfl rfl ?_
  refine S_as rfl ?_
  refine S_as rfl ?_
  refine S_nil (hK4 _ _ (V_keep [0, 1, 2, 9, 10] (by simp only [proj, lk, reduceIte, Nat.reduceEqDiff]; rfl) ?_)); clear hK4
  refine V_seq (fun K5 hK5 => ?_)
  refine V_sr T.mix (by kernel_rfl) (fun K6 hK6 => ?_)
  refine S_mv rfl ?_
  refine S_bin rfl rfl rfl ?_
  refine S_nil (hK6 _ _ (V_keep [0, 1, 2, 9, 32] (by simp only [proj, lk, reduceIte, Nat.reduceEqDiff]; rfl) ?_)); clear hK6
  refine V_condp rfl (fun c49 => ?_) (fun c49 => ?_)
  · skip
    have hlv : liveC cl (reaV s.L (qq.natAbs : Int)) = none := by
      cases e : liveC cl (reaV s.L (qq.natAbs : Int)) with
      | none => rfl
      | some rc => exact absurd (by rw [(clF_some e).2]; rfl) c49
    refine V_sr T.mix (by kernel_rfl) (fun K7 hK7 => ?_)
    refine S_as rfl ?_
    refine S_nil (hK7 _ _ (V_keep [6] (by simp only [proj, lk, reduceIte, Nat.reduceEqDiff]; rfl) ?_)); clear hK7
    refine V_ret ?_
    refine hR _ _ (ret1 rfl rfl ?_)
    exact ⟨by unfold spH; rw [hlv], hE1⟩
  · skip
    obtain ⟨rc, hlv⟩ : ∃ rc, liveC cl (reaV s.L (qq.natAbs : Int)) = some rc := by
      cases e : liveC cl (reaV s.L (qq.natAbs : Int)) with
      | none => exact absurd (by rw [(clF_none e).2]; decide) c49
      | some rc => exact ⟨rc, rfl⟩
    have hnr := (mr_nl mv.r).live hlv
    have hln := hnr.len
    rw [(clF_some hlv).1] at hIr ⊢
    refine V_skipk [0, 1, 2, 9] (by simp only [proj, lk, reduceIte, Nat.reduceEqDiff]; rfl) ?_
    refine hK5 _ _ ?_; clear hK5
    refine V_seq (fun K8 hK8 => ?_)
    refine V_sr T.mix (by kernel_rfl) (fun K9 hK9 => ?_)
    refine S_as rfl ?_
    refine S_nil (hK9 _ _ (V_keep [0, 1, 2, 9, 11] (by simp only [proj, lk, reduceIte, Nat.reduceEqDiff]; rfl) ?_)); clear hK9
    refine V_block ?_
    refine V_loop (fun m l h' => ∃ (i : Nat), (i ≤ rc.length) ∧ ((rc.take i).all (fun x => decide (x = -qq) || decide (x ∈ c) || decide (levV s.L (x.natAbs : Int) = 0)) = true) ∧ m = rc.length - i ∧ l = [(0, .pointer (some ⟨D, 0, none⟩)), (1, .slice ca c.length cap), (2, .int .i64 qq), (9, .slice ra rc.length rc.length), (11, .int .i64 (i : Int))] ∧ h1 = h') _ ⟨0, by omega, by simp, rfl, rfl, rfl⟩ ?_
    rintro m l h' ⟨i, hi, hal, rfl, rfl, rfl⟩ K10 hK10
    refine V_seq (fun K11 hK11 => ?_)
    refine V_sr T.mix (by kernel_rfl) (fun K12 hK12 => ?_)
    refine S_mv rfl ?_
    refine S_mv rfl ?_
    refine S_lenl T.el39 rfl ?_
    refine S_bin rfl rfl rfl ?_
    refine S_nil (hK12 _ _ (V_keep [0, 1, 2, 9, 11, 36] (by simp only [proj, lk, reduceIte, Nat.reduceEqDiff]; rfl) ?_)); clear hK12
    refine V_condp rfl (fun c52 => ?_) (fun c52 => ?_)
    · skip
      obtain ⟨bb, hbe, _, _, _⟩ := hIr.get (by omega)
      subst hbe
      have hgr := gd_getD hnr.1 (show i < rc.length by omega)
      unfold gd at hgr
      refine V_skipk [0, 1, 2, 9, 11] (by simp only [proj, lk, reduceIte, Nat.reduceEqDiff]; rfl) ?_
      refine hK11 _ _ ?_; clear hK11
      refine V_seq (fun K13 hK13 => ?_)
      refine V_block ?_
      refine V_sr T.mix (by kernel_rfl) (fun K14 hK14 => ?_)
      refine S_mv rfl ?_
      refine S_mv rfl ?_
      first | refine S_ixn T.el39 rfl rfl (by omega) ?_ | refine S_ix1 T.el39 rfl rfl (by omega) (by omega) ?_ | refine S_ix T.el39 rfl rfl (by omega) (by omega) ?_
      refine S_ldK T.ag3 rfl (fun K' hK' => ?_)
      simp (disch := omega) only [hIr.at, oP_some, Nat.add_zero]
      refine hK' _ ?_; clear hK' K'
      refine S_as rfl ?_
      refine S_nil (hK14 _ _ (V_keep [0, 1, 2, 9, 11, 12] (by simp only [proj, lk, reduceIte, Nat.reduceEqDiff]; rfl) ?_)); clear hK14
      refine V_sr T.mix (by kernel_rfl) (fun K15 hK15 => ?_)
      refine S_mv rfl ?_
      refine S_call T.hb65 rfl ?_
      refine FC.mono (var_spec _ ((rc.getD i 0)) (by omega) (by omega)) ?_
      rintro v' h' ⟨rfl, rfl⟩
      refine S_as rfl ?_
      refine S_nil (hK15 _ _ (V_keep [0, 1, 2, 9, 11, 12, 13] (by simp only [proj, lk, reduceIte, Nat.reduceEqDiff]; rfl) ?_)); clear hK15
      refine V_sr T.mix (by kernel_rfl) (fun K16 hK16 => ?_)
      refine S_mv rfl ?_
      refine S_mv rfl ?_
      first | refine S_neg rfl (by omega) (by omega) ?_ | refine S_un rfl rfl ?_
      refine S_bin rfl rfl rfl ?_
      refine S_mv rfl ?_
      refine S_dec (fun g55 => ?_) (fun g55 => ?_)
      · skip
        refine S_gt rfl ?_
        refine S_mv rfl ?_
        refine S_gt rfl ?_
        refine S_mv rfl ?_
        refine S_gt rfl ?_
        refine S_call T.hb111 rfl ?_
        refine FC.mono (mhas_spec h1 ca cap c (ho.ext hE1 (fun _ _ f => f)) hl hcn (rc.getD i 0) (by omega)) ?_
        rintro v' h' ⟨rfl, rfl⟩
        refine S_gt rfl ?_
        refine S_notb rfl ?_
        refine S_pt rfl rfl ?_
        refine S_nil (hK16 _ _ (V_keep [0, 1, 2, 9, 11, 13, 54] (by simp only [proj, lk, reduceIte, Nat.reduceEqDiff]; rfl) ?_)); clear hK16
        refine V_condb rfl (fun c55 => ?_) (fun c55 => ?_)
        · skip
          refine V_sr T.mix (by kernel_rfl) (fun K17 hK17 => ?_)
          refine S_mv rfl ?_
          refine S_nc rfl ?_
          first | refine S_fa0 T.f63_0 rfl ?_ | refine S_fa T.f63_0 rfl ?_
          refine S_ldK T.ag34 rfl (fun K' hK' => ?_)
          simp (disch := omega) only [m0, m1, m2, m3, m4, oP_some, Nat.add_zero]
          refine hK' _ ?_; clear hK' K'
          refine S_mv rfl ?_
          refine S_call T.hb53 rfl ?_
          refine FC.mono (mlevelof_spec h1 Y F s mv1.t ((rc.getD i 0).natAbs : Int)) ?_
          rintro v' h' ⟨rfl, rfl⟩
          refine S_bin rfl rfl rfl ?_
          refine S_nil (hK17 _ _ (V_keep [0, 1, 2, 9, 11, 61] (by simp only [proj, lk, reduceIte, Nat.reduceEqDiff]; rfl) ?_)); clear hK17
          refine V_condp rfl (fun c56 => ?_) (fun c56 => ?_)
          · skip
            refine V_sr T.mix (by kernel_rfl) (fun K18 hK18 => ?_)
            refine S_as rfl ?_
            refine S_nil (hK18 _ _ (V_keep [6] (by simp only [proj, lk, reduceIte, Nat.reduceEqDiff]; rfl) ?_)); clear hK18
            refine V_ret ?_
            refine hR _ _ (ret1 rfl rfl ?_)
            have hf2 : (fun x => decide (x = -qq) || decide (x ∈ c) || decide (levV s.L (x.natAbs : Int) = 0)) (rc.getD i 0) = false := by simp only []; rw [decide_eq_false g55, show decide ((rc.getD i 0) ∈ c) = false by simpa using c55, decide_eq_false c56]; rfl
            exact ⟨by unfold spH; rw [hlv]; simp only []; rw [all_stop (show i < rc.length by omega) hf2], hE1⟩
          · skip
            refine V_skipk [0, 1, 2, 9, 11] (by simp only [proj, lk, reduceIte, Nat.reduceEqDiff]; rfl) ?_
            refine hK13 _ _ ?_; clear hK13
            refine V_reg T.mix (by kernel_rfl) ?_
            refine S_mv rfl ?_
            first | refine S_add rfl rfl (by omega) (by omega) ?_ | refine S_bin rfl rfl rfl ?_
            refine S_as rfl ?_
            refine S_nilk [0, 1, 2, 9, 11] (by simp only [proj, lk, reduceIte, Nat.reduceEqDiff]; rfl) ?_
            exact hK10 _ _ ⟨_, by omega, i + 1, by omega, by rw [all_snoc (by omega), hal]; simp only [Bool.true_and]; rw [decide_eq_true (show levV s.L ((rc.getD i 0).natAbs : Int) = 0 by omega), Bool.or_true], rfl, rfl, rfl⟩
        · skip
          refine V_skipk [0, 1, 2, 9, 11] (by simp only [proj, lk, reduceIte, Nat.reduceEqDiff]; rfl) ?_
          refine hK13 _ _ ?_; clear hK13
          refine V_reg T.mix (by kernel_rfl) ?_
          refine S_mv rfl ?_
          first | refine S_add rfl rfl (by omega) (by omega) ?_ | refine S_bin rfl rfl rfl ?_
          refine S_as rfl ?_
          refine S_nilk [0, 1, 2, 9, 11] (by simp only [proj, lk, reduceIte, Nat.reduceEqDiff]; rfl) ?_
          exact hK10 _ _ ⟨_, by omega, i + 1, by omega, by rw [all_snoc (by omega), hal]; simp only [Bool.true_and]; rw [show decide ((rc.getD i 0) ∈ c) = true by simpa using c55, Bool.or_true, Bool.true_or], rfl, rfl, rfl⟩
      · skip
        refine S_gf rfl ?_
        refine S_gf rfl ?_
        refine S_gf rfl ?_
        refine S_gf rfl ?_
        refine S_pf rfl rfl ?_
        refine S_nil (hK16 _ _ (V_keep [0, 1, 2, 9, 11, 13, 54] (by simp only [proj, lk, reduceIte, Nat.reduceEqDiff]; rfl) ?_)); clear hK16
        refine V_condf rfl ?_
        refine V_skipk [0, 1, 2, 9, 11] (by simp only [proj, lk, reduceIte, Nat.reduceEqDiff]; rfl) ?_
        refine hK13 _ _ ?_; clear hK13
        refine V_reg T.mix (by kernel_rfl) ?_
        refine S_mv rfl ?_
        first | refine S_add rfl rfl (by omega) (by omega) ?_ | refine S_bin rfl rfl rfl ?_
        refine S_as rfl ?_
        refine S_nilk [0, 1, 2, 9, 11] (by simp only [proj, lk, reduceIte, Nat.reduceEqDiff]; rfl) ?_
        exact hK10 _ _ ⟨_, by omega, i + 1, by omega, by rw [all_snoc (by omega), hal]; simp only [Bool.true_and]; rw [decide_eq_true (show (rc.getD i 0) = -qq by omega), Bool.true_or, Bool.true_or], rfl, rfl, rfl⟩
    · skip
      refine V_exitk [] rfl (by simp only [proj, lk, reduceIte, Nat.reduceEqDiff]; rfl) ?_
      refine hK8 _ _ ?_; clear hK8
      refine V_sr T.mix (by kernel_rfl) (fun K19 hK19 => ?_)
      refine S_as rfl ?_
      refine S_nil (hK19 _ _ (V_keep [6] (by simp only [proj, lk, reduceIte, Nat.reduceEqDiff]; rfl) ?_)); clear hK19
      refine V_ret ?_
      refine hR _ _ (ret1 rfl rfl ?_)
      rw [show i = rc.length by omega, List.take_length] at hal
      exact ⟨by unfold spH; rw [hlv]; simp only []; rw [hal], hE1⟩
end Go.Proofs.Qxb6500400aGreat
