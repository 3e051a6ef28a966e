import Derived.Test.Qxb6500406aGreatQc
set_option linter.unusedVariables false
set_option linter.unusedSimpArgs false
namespace Go.Proofs.Qxb6500406aGreat
open Go.Eng Go.Bits Go.Blk HufW

/-- the script, as it lies in the heap -/
def Scr (base : Nat) (h : Heap) (sa : Option Addr) (n : Nat) : Prop := ∀ i, i < n → ∃ sb so, sa = some ⟨sb, so, none⟩ ∧ sb < base ∧ ∃ k a b c s u, cellsH h ⟨sb, so + i * 6, none⟩ 0 6 = some [.int .i64 k, .int .i64 a, .int .i64 b, .int .i64 c, .string s, .string u] ∧ s.size ≤ 9223372036854775807
theorem cellsH_same {h h' : Heap} {b o : Nat} (he : h'[b]? = h[b]?) : ∀ (n i : Nat), cellsH h' ⟨b, o, none⟩ i n = cellsH h ⟨b, o, none⟩ i n
  | 0, _ => rfl
  | n + 1, i => by
    have e : cellH h' ((⟨b, o, none⟩ : Addr).add i) = cellH h ((⟨b, o, none⟩ : Addr).add i) := by rw [add_mk]; unfold cellH; simp only [he]
    simp only [cellsH, e, cellsH_same he n (i + 1)]
theorem Scr.ext {base : Nat} {h h' : Heap} {sa : Option Addr} {n : Nat} (hs : Scr base h sa n) (hb : base ≤ h.size) (he : Ext (fun b => base ≤ b) h h') : Scr base h' sa n := by
  intro i hi
  obtain ⟨sb, so, e, hlt, k, a, b, c, s, u, hc, hz⟩ := hs i hi
  exact ⟨sb, so, e, hlt, k, a, b, c, s, u, by rw [cellsH_same (he.2 sb (by omega) (by omega))]; exact hc, hz⟩
structure LW (h : Heap) (W : WA) (P zz kk D : Nat) (r : ByteArray) : Prop where
  w : ∃ s ua ub st, WS h W s ua ub st
  bp : B h P #[.pointer (some ⟨zz, 0, none⟩), .pointer (some ⟨kk, 0, none⟩)] 53
  bd : B h D #[.string r] 39
  np : ¬ WT W P
  nd : ¬ WT W D
  dp : P ≠ D
  hr : r.size ≤ 9223372036854775807
def LS' (W : WA) (D z : Nat) : Prop := WT W z ∨ z = D
theorem LW.new {h h' : Heap} {W : WA} {P zz kk D : Nat} {r : ByteArray} (w : LW h W P zz kk D r) (he : Ext (fun _ => False) h h') : LW h' W P zz kk D r := by
  obtain ⟨s, ua, ub, st, ws⟩ := w.w
  exact ⟨⟨s, ua, ub, st, ws.new he⟩, w.bp.ext he (fun f => f), w.bd.ext he (fun f => f), w.np, w.nd, w.dp, w.hr⟩
theorem LW.reg {h h' : Heap} {W : WA} {P zz kk D : Nat} {r r' : ByteArray} (w : LW h W P zz kk D r) (he : Ext (fun z => z = D) h h') (bd : B h' D #[.string r'] 39) (hr : r'.size ≤ 9223372036854775807) : LW h' W P zz kk D r' := by
  obtain ⟨s, ua, ub, st, ws⟩ := w.w
  exact ⟨⟨s, ua, ub, st, ws.ext he (fun z e y => w.nd (by rw [← y]; exact e))⟩, w.bp.ext he w.dp, bd, w.np, w.nd, w.dp, hr⟩
theorem LW.pack {h h' : Heap} {W : WA} {P zz kk D : Nat} {r : ByteArray} (w : LW h W P zz kk D r) (he : Ext (WT W) h h') (ws : ∃ s ua ub st, WS h' W s ua ub st) : LW h' W P zz kk D r :=
  ⟨ws, w.bp.ext he w.np, w.bd.ext he w.nd, w.np, w.nd, w.dp, w.hr⟩
theorem oq {h : Heap} {b : Nat} {k oa ob oc : Int} {os ot : ByteArray} {t : TypeId} (hB : B h b #[.int .i64 k, .int .i64 oa, .int .i64 ob, .int .i64 oc, .string os, .string ot] t) : cellH h ⟨b, 0, none⟩ = some (.int .i64 k) ∧ cellH h ⟨b, 1, none⟩ = some (.int .i64 oa) ∧ cellH h ⟨b, 2, none⟩ = some (.int .i64 ob) ∧ cellH h ⟨b, 4, none⟩ = some (.string os) := ⟨hB.cell 0, hB.cell 1, hB.cell 2, hB.cell 4⟩
set_option maxHeartbeats 1600000 in
theorem samepack_spec (h : Heap) (W : WA) (s : TS) (ua ub : HC) (st : Lz.MS) (ws : WS h W s ua ub st) (P zz kk : Nat) (bp : B h P #[.pointer (some ⟨zz, 0, none⟩), .pointer (some ⟨kk, 0, none⟩)] 53) (hP : ¬ WT W P) (u : ByteArray) (level : Int) :
    FC Tryz.prog 20 (#[.pointer (some ⟨W.P, 0, none⟩), .pointer (some ⟨P, 0, none⟩), .agg #[.pointer (some ⟨W.T, 0, none⟩), .pointer (some ⟨W.XA, 0, none⟩), .pointer (some ⟨W.XB, 0, none⟩), .pointer (some ⟨W.Z.m, 0, none⟩)], .string u, .int .i64 level] : Array Value) h fun rv h' => rv = .bool true ∧ (∃ s' va vb st', WS h' W s' va vb st') ∧ Ext (WT W) h h' := by
  obtain ⟨tx, htx⟩ : ∃ tx, tx = pkT u level := ⟨_, rfl⟩
  obtain ⟨ee, hee⟩ : ∃ ee, ee = pkE u level := ⟨_, rfl⟩
  refine FC_of [(0, .pointer (some ⟨W.P, 0, none⟩)), (1, .pointer (some ⟨P, 0, none⟩)), (2, .agg #[.pointer (some ⟨W.T, 0, none⟩), .pointer (some ⟨W.XA, 0, none⟩), .pointer (some ⟨W.XB, 0, none⟩), .pointer (some ⟨W.Z.m, 0, none⟩)]), (3, .string u), (4, .int .i64 level)] Tryz.func20 rfl Tryz.ntmps20 (by simp) rfl (fun R hR => ?_)
  refine V_sr T.mix (by kernel_rfl) (fun K1 hK1 => ?_)
  refine S_boxA rfl ?_
  generalize hh : Array.push h _ = h1
  have b1 : B h1 h.size #[.pointer (some ⟨W.T, 0, none⟩), .pointer (some ⟨W.XA, 0, none⟩), .pointer (some ⟨W.XB, 0, none⟩), .pointer (some ⟨W.Z.m, 0, none⟩)] 31 := by rw [← hh]; exact B.new _ _ _
  have hEh1 : Ext (fun _ => False) h h1 := by rw [← hh]; exact Ext.push _ _ _
  clear hh
  have w1 := ws.new hEh1
  have hbx : ¬ WT W h.size := fresh_wt ws (Nat.le_refl _)
  refine S_as rfl ?_
  refine S_nil (hK1 _ _ (V_keep [0, 1, 3, 4, 7] (by simp only [proj, lk, reduceIte, Nat.reduceEqDiff]; rfl) ?_)); clear hK1
  refine V_sr T.mix (by kernel_rfl) (fun K2 hK2 => ?_)
  refine S_mv rfl ?_
  refine S_mv rfl ?_
  refine S_mv rfl ?_
  refine S_call T.hb23 rfl ?_
  have hpk := bpack_spec h1 W s ua ub st w1 u level
  rw [← htx, ← hee] at hpk
  refine FC.mono hpk ?_
  rintro v' h2 ⟨rfl, ⟨s2, va, vb, st2, w2, hd2⟩, hE2⟩
  have bp2 := (bp.ext hEh1 (fun f => f)).ext hE2 hP
  have b2 := b1.ext hE2 hbx
  refine S_mv rfl ?_
  refine S_ex rfl rfl ?_
  refine S_ex rfl rfl ?_
  refine S_as rfl ?_
  refine S_as rfl ?_
  refine S_nil (hK2 _ _ (V_keep [1, 3, 4, 7, 11, 12] (by simp only [proj, lk, reduceIte, Nat.reduceEqDiff]; rfl) ?_)); clear hK2
  refine V_sr T.mix (by kernel_rfl) (fun K3 hK3 => ?_)
  refine S_mv rfl ?_
  refine S_mv rfl ?_
  refine S_mv rfl ?_
  refine S_call T.hb24 rfl ?_
  have hpk := mpack_spec h2 P zz kk bp2 u level
  rw [← htx, ← hee] at hpk
  refine FC.mono hpk ?_
  rintro v' h3 ⟨rfl, hE3⟩
  have w3 := w2.new hE3
  have b3 := b2.ext hE3 (fun f => f)
  have hX3 : Ext (WT W) h h3 := ((hEh1.mono fun _ f => f.elim).trans hE2).trans (hE3.mono fun _ f => f.elim)
  refine S_mv rfl ?_
  refine S_ex rfl rfl ?_
  refine S_ex rfl rfl ?_
  refine S_as rfl ?_
  refine S_as rfl ?_
  refine S_nil (hK3 _ _ (V_keep [3, 4, 7, 11, 12, 13, 14] (by simp only [proj, lk, reduceIte, Nat.reduceEqDiff]; rfl) ?_)); clear hK3
  refine V_seq (fun K4 hK4 => ?_)
  refine V_sr T.mix (by kernel_rfl) (fun K5 hK5 => ?_)
  refine S_mv rfl ?_
  refine S_mv rfl ?_
  refine S_bin rfl rfl rfl ?_
  refine S_mv rfl ?_
  refine S_dec (fun g174 => ?_) (fun g174 => ?_)
  · skip
    exfalso; exact g174 rfl
  · skip
    refine S_gt rfl ?_
    refine S_mv rfl ?_
    refine S_gt rfl ?_
    refine S_mv rfl ?_
    refine S_gt rfl ?_
    refine S_bin rfl rfl rfl ?_
    refine S_pf rfl rfl ?_
    refine S_nil (hK5 _ _ (V_keep [3, 4, 7, 11, 13, 14, 36] (by simp only [proj, lk, reduceIte, Nat.reduceEqDiff]; rfl) ?_)); clear hK5
    refine V_condp rfl (fun c174 => ?_) (fun c174 => ?_)
    · skip
      exfalso; exact c174 rfl
    · skip
      refine V_skipk [3, 4, 7, 11, 13, 14] (by simp only [proj, lk, reduceIte, Nat.reduceEqDiff]; rfl) ?_
      refine hK4 _ _ ?_; clear hK4
      refine V_seq (fun K6 hK6 => ?_)
      refine V_sr T.mix (by kernel_rfl) (fun K7 hK7 => ?_)
      refine S_mv rfl ?_
      refine S_bin rfl rfl rfl ?_
      refine S_nil (hK7 _ _ (V_keep [3, 4, 7, 11, 13, 38] (by simp only [proj, lk, reduceIte, Nat.reduceEqDiff]; rfl) ?_)); clear hK7
      refine V_condp rfl (fun c177 => ?_) (fun c177 => ?_)
      · skip
        refine V_sr T.mix (by kernel_rfl) (fun K8 hK8 => ?_)
        refine S_as rfl ?_
        refine S_nil (hK8 _ _ (V_keep [10] (by simp only [proj, lk, reduceIte, Nat.reduceEqDiff]; rfl) ?_)); clear hK8
        refine V_ret ?_
        refine hR _ _ (ret1 rfl rfl ?_)
        exact ⟨rfl, ⟨_, _, _, _, w3⟩, hX3⟩
      · skip
        have he0 : ee = 0 := by omega
        refine V_skipk [3, 4, 7, 11, 13] (by simp only [proj, lk, reduceIte, Nat.reduceEqDiff]; rfl) ?_
        refine hK6 _ _ ?_; clear hK6
        refine V_seq (fun K9 hK9 => ?_)
        refine V_sr T.mix (by kernel_rfl) (fun K10 hK10 => ?_)
        refine S_ldn T.ag31 rfl (b3.all rfl) ?_
        refine S_mv rfl ?_
        refine S_mv rfl ?_
        refine S_mv rfl ?_
        refine S_call T.hb25 rfl ?_
        have hu : u.size ≤ 256 := Nat.le_of_not_lt (fun z => by rw [hee] at he0; unfold pkE at he0; rw [if_pos z] at he0; cases he0)
        have hlv : 0 ≤ level ∧ level ≤ 2 := by
          by_cases z : level < 0 ∨ 2 < level
          · rw [hee] at he0; unfold pkE at he0; rw [if_neg (by omega), if_pos z] at he0; cases he0
          · omega
        have htk : tx = pkF u level := by rw [htx]; unfold pkT; rw [← hee, if_pos he0]
        refine FC.mono (handed_spec h3 W s2 va vb st2 w3 u hu level hlv.1 hlv.2 (hd2 he0) tx htk) ?_
        rintro v' h4 ⟨rfl, hw4, hE4⟩
        refine S_notb rfl ?_
        refine S_nil (hK10 _ _ (V_keep [3, 4, 13, 44] (by simp only [proj, lk, reduceIte, Nat.reduceEqDiff]; rfl) ?_)); clear hK10
        refine V_condb rfl (fun c180 => ?_) (fun c180 => ?_)
        · skip
          cases c180
        · skip
          refine V_skipk [3, 4, 13] (by simp only [proj, lk, reduceIte, Nat.reduceEqDiff]; rfl) ?_
          refine hK9 _ _ ?_; clear hK9
          refine V_sr T.mix (by kernel_rfl) (fun K11 hK11 => ?_)
          refine S_mv rfl ?_
          refine S_mv rfl ?_
          refine S_mv rfl ?_
          refine S_call T.hb26 rfl ?_
          refine FC.mono (keeps_spec h4 u hu level tx htk) ?_
          rintro v' h5 ⟨rfl, hE5⟩
          obtain ⟨s5, vc, vd, st5, w4⟩ := hw4
          refine S_as rfl ?_
          refine S_nil (hK11 _ _ (V_keep [10] (by simp only [proj, lk, reduceIte, Nat.reduceEqDiff]; rfl) ?_)); clear hK11
          refine V_ret ?_
          refine hR _ _ (ret1 rfl rfl ?_)
          exact ⟨rfl, ⟨_, _, _, _, w4.new hE5⟩, (hX3.trans hE4).trans (hE5.mono fun _ f => f.elim)⟩
set_option maxHeartbeats 3200000 in
theorem play_spec (h : Heap) (W : WA) (P zz kk D : Nat) (r : ByteArray) (lw : LW h W P zz kk D r) (k oa ob oc : Int) (os ot : ByteArray) (hos : os.size ≤ 9223372036854775807) :
    FC Tryz.prog 12 (#[.pointer (some ⟨W.P, 0, none⟩), .pointer (some ⟨P, 0, none⟩), .agg #[.pointer (some ⟨W.T, 0, none⟩), .pointer (some ⟨W.XA, 0, none⟩), .pointer (some ⟨W.XB, 0, none⟩), .pointer (some ⟨W.Z.m, 0, none⟩)], .pointer (some ⟨D, 0, none⟩), .agg #[.int .i64 k, .int .i64 oa, .int .i64 ob, .int .i64 oc, .string os, .string ot]] : Array Value) h fun rv h' => rv = .bool true ∧ (∃ r', LW h' W P zz kk D r') ∧ Ext (LS' W D) h h' := by
  have hr := lw.hr
  refine FC_of [(0, .pointer (some ⟨W.P, 0, none⟩)), (1, .pointer (some ⟨P, 0, none⟩)), (2, .agg #[.pointer (some ⟨W.T, 0, none⟩), .pointer (some ⟨W.XA, 0, none⟩), .pointer (some ⟨W.XB, 0, none⟩), .pointer (some ⟨W.Z.m, 0, none⟩)]), (3, .pointer (some ⟨D, 0, none⟩)), (4, .agg #[.int .i64 k, .int .i64 oa, .int .i64 ob, .int .i64 oc, .string os, .string ot])] Tryz.func12 rfl Tryz.ntmps12 (by simp) rfl (fun R hR => ?_)
  refine V_sr T.mix (by kernel_rfl) (fun K1 hK1 => ?_)
  refine S_boxA rfl ?_
  generalize hh : Array.push h _ = h1
  have b1 : B h1 h.size #[.pointer (some ⟨W.T, 0, none⟩), .pointer (some ⟨W.XA, 0, none⟩), .pointer (some ⟨W.XB, 0, none⟩), .pointer (some ⟨W.Z.m, 0, none⟩)] 31 := by rw [← hh]; exact B.new _ _ _
  have hEh1 : Ext (fun _ => False) h h1 := by rw [← hh]; exact Ext.push _ _ _
  clear hh
  refine S_boxA rfl ?_
  generalize hh : Array.push h1 _ = h2
  have o_ : B h2 h1.size #[.int .i64 k, .int .i64 oa, .int .i64 ob, .int .i64 oc, .string os, .string ot] 43 := by rw [← hh]; exact B.new _ _ _
  have hEh2 : Ext (fun _ => False) h1 h2 := by rw [← hh]; exact Ext.push _ _ _
  clear hh
  have hE02 := hEh1.trans hEh2
  have lw2 := lw.new hE02
  obtain ⟨o0, o1, o2, o4⟩ := oq o_
  have d0 : cellH h2 ⟨D, 0, none⟩ = some (.string r) := lw2.bd.cell 0
  have dok : ∀ j, j < 1 → okPut h2 ⟨D, j, none⟩ = true := fun j hj => lw2.bd.ok (by simpa using hj)
  have b2 := b1.ext hEh2 (fun f => f)
  refine S_as rfl ?_
  refine S_nil (hK1 _ _ (V_keep [0, 1, 3, 7, 9] (by simp only [proj, lk, reduceIte, Nat.reduceEqDiff]; rfl) ?_)); clear hK1
  refine V_seq (fun K2 hK2 => ?_)
  refine V_sr T.mix (by kernel_rfl) (fun K3 hK3 => ?_)
  first | refine S_fa0 T.f43_0 rfl ?_ | refine S_fa T.f43_0 rfl ?_
  refine S_ldK T.ag3 rfl (fun K' hK' => ?_)
  simp (disch := omega) only [d0, o0, o1, o2, o4, oP_some, Nat.add_zero]
  refine hK' _ ?_; clear hK' K'
  refine S_nil (hK3 _ _ (V_keep [0, 1, 3, 7, 9, 12] (by simp only [proj, lk, reduceIte, Nat.reduceEqDiff]; rfl) ?_)); clear hK3
  refine V_block ?_
  refine V_sr T.mix (by kernel_rfl) (fun K4 hK4 => ?_)
  refine S_bin rfl rfl rfl ?_
  refine S_as rfl ?_
  refine S_nil (hK4 _ _ (V_keep [0, 1, 3, 7, 9, 12, 13] (by simp only [proj, lk, reduceIte, Nat.reduceEqDiff]; rfl) ?_)); clear hK4
  refine V_condp rfl (fun c189 => ?_) (fun c189 => ?_)
  · skip
    refine V_reg T.mix (by kernel_rfl) ?_
    refine S_mv rfl ?_
    refine S_mv rfl ?_
    refine S_nc rfl ?_
    first | refine S_fa0 T.f39_0 rfl ?_ | refine S_fa T.f39_0 rfl ?_
    refine S_ldK T.ag9 rfl (fun K' hK' => ?_)
    simp (disch := omega) only [d0, o0, o1, o2, o4, oP_some, Nat.add_zero]
    refine hK' _ ?_; clear hK' K'
    first | refine S_fa0 T.f43_4 rfl ?_ | refine S_fa T.f43_4 rfl ?_
    refine S_ldK T.ag9 rfl (fun K' hK' => ?_)
    simp (disch := omega) only [d0, o0, o1, o2, o4, oP_some, Nat.add_zero]
    refine hK' _ ?_; clear hK' K'
    refine S_call T.hb18 rfl ?_
    refine FC.mono (lengthen_spec r os h2 hr) ?_
    rintro v' h' ⟨⟨u2, rfl, hu2⟩, rfl⟩
    refine S_nc rfl ?_
    first | refine S_fa0 T.f39_0 rfl ?_ | refine S_fa T.f39_0 rfl ?_
    refine S_st T.sz9 rfl rfl rfl rfl (by simp (disch := omega) only [dok]) ?_
    generalize hh : putH _ _ _ = h4
    have bd9 : B h4 D #[.string (u2)] 39 := by rw [← hh]; exact lw2.bd.put 0 _
    have hE9 : Ext (fun z => z = D) h2 h4 := by rw [← hh]; exact Ext.put _ _ rfl
    clear hh
    have lw9 := lw2.reg hE9 bd9 (by omega)
    refine S_nilk [] (by simp only [proj, lk, reduceIte, Nat.reduceEqDiff]; rfl) ?_
    refine hK2 _ _ ?_; clear hK2
    refine V_sr T.mix (by kernel_rfl) (fun K5 hK5 => ?_)
    refine S_as rfl ?_
    refine S_nil (hK5 _ _ (V_keep [10] (by simp only [proj, lk, reduceIte, Nat.reduceEqDiff]; rfl) ?_)); clear hK5
    refine V_ret ?_
    refine hR _ _ (ret1 rfl rfl ?_)
    exact ⟨rfl, ⟨_, lw9⟩, (hE02.mono fun _ f => f.elim).trans (hE9.mono fun _ e => .inr e)⟩
  · skip
    refine V_sr T.mix (by kernel_rfl) (fun K6 hK6 => ?_)
    refine S_bin rfl rfl rfl ?_
    refine S_as rfl ?_
    refine S_nil (hK6 _ _ (V_keep [0, 1, 3, 7, 9, 12, 25] (by simp only [proj, lk, reduceIte, Nat.reduceEqDiff]; rfl) ?_)); clear hK6
    refine V_condp rfl (fun c191 => ?_) (fun c191 => ?_)
    · skip
      refine V_reg T.mix (by kernel_rfl) ?_
      refine S_mv rfl ?_
      refine S_mv rfl ?_
      refine S_nc rfl ?_
      first | refine S_fa0 T.f39_0 rfl ?_ | refine S_fa T.f39_0 rfl ?_
      refine S_ldK T.ag9 rfl (fun K' hK' => ?_)
      simp (disch := omega) only [d0, o0, o1, o2, o4, oP_some, Nat.add_zero]
      refine hK' _ ?_; clear hK' K'
      first | refine S_fa0 T.f43_1 rfl ?_ | refine S_fa T.f43_1 rfl ?_
      refine S_ldK T.ag3 rfl (fun K' hK' => ?_)
      simp (disch := omega) only [d0, o0, o1, o2, o4, oP_some, Nat.add_zero]
      refine hK' _ ?_; clear hK' K'
      first | refine S_fa0 T.f43_2 rfl ?_ | refine S_fa T.f43_2 rfl ?_
      refine S_ldK T.ag3 rfl (fun K' hK' => ?_)
      simp (disch := omega) only [d0, o0, o1, o2, o4, oP_some, Nat.add_zero]
      refine hK' _ ?_; clear hK' K'
      refine S_call T.hb19 rfl ?_
      refine FC.mono (grow_spec r oa ob h2 hr) ?_
      rintro v' h3 ⟨⟨u2, rfl, hu2⟩, hE3⟩
      have lw3 := lw2.new hE3
      clear dok d0
      have d0 : cellH h3 ⟨D, 0, none⟩ = some (.string r) := lw3.bd.cell 0
      have dok : ∀ j, j < 1 → okPut h3 ⟨D, j, none⟩ = true := fun j hj => lw3.bd.ok (by simpa using hj)
      refine S_nc rfl ?_
      first | refine S_fa0 T.f39_0 rfl ?_ | refine S_fa T.f39_0 rfl ?_
      refine S_st T.sz9 rfl rfl rfl rfl (by simp (disch := omega) only [dok]) ?_
      generalize hh : putH _ _ _ = h4
      have bd9 : B h4 D #[.string (u2)] 39 := by rw [← hh]; exact lw3.bd.put 0 _
      have hE9 : Ext (fun z => z = D) h3 h4 := by rw [← hh]; exact Ext.put _ _ rfl
      clear hh
      have lw9 := lw3.reg hE9 bd9 (by omega)
      refine S_nilk [] (by simp only [proj, lk, reduceIte, Nat.reduceEqDiff]; rfl) ?_
      refine hK2 _ _ ?_; clear hK2
      refine V_sr T.mix (by kernel_rfl) (fun K7 hK7 => ?_)
      refine S_as rfl ?_
      refine S_nil (hK7 _ _ (V_keep [10] (by simp only [proj, lk, reduceIte, Nat.reduceEqDiff]; rfl) ?_)); clear hK7
      refine V_ret ?_
      refine hR _ _ (ret1 rfl rfl ?_)
      exact ⟨rfl, ⟨_, lw9⟩, ((hE02.trans hE3).mono fun _ f => f.elim).trans (hE9.mono fun _ e => .inr e)⟩
    · skip
      refine V_sr T.mix (by kernel_rfl) (fun K8 hK8 => ?_)
      refine S_bin rfl rfl rfl ?_
      refine S_as rfl ?_
      refine S_nil (hK8 _ _ (V_keep [0, 1, 3, 7, 9, 12, 39] (by simp only [proj, lk, reduceIte, Nat.reduceEqDiff]; rfl) ?_)); clear hK8
      refine V_condp rfl (fun c193 => ?_) (fun c193 => ?_)
      · skip
        refine V_sr T.mix (by kernel_rfl) (fun K9 hK9 => ?_)
        refine S_mv rfl ?_
        refine S_mv rfl ?_
        refine S_ldn T.ag31 rfl (b2.all rfl) ?_
        refine S_mv rfl ?_
        refine S_nc rfl ?_
        first | refine S_fa0 T.f39_0 rfl ?_ | refine S_fa T.f39_0 rfl ?_
        refine S_ldK T.ag9 rfl (fun K' hK' => ?_)
        simp (disch := omega) only [d0, o0, o1, o2, o4, oP_some, Nat.add_zero]
        refine hK' _ ?_; clear hK' K'
        first | refine S_fa0 T.f43_1 rfl ?_ | refine S_fa T.f43_1 rfl ?_
        refine S_ldK T.ag3 rfl (fun K' hK' => ?_)
        simp (disch := omega) only [d0, o0, o1, o2, o4, oP_some, Nat.add_zero]
        refine hK' _ ?_; clear hK' K'
        refine S_call T.hb20 rfl ?_
        obtain ⟨s1, ua, ub, st, ws⟩ := lw2.w
        refine FC.mono (samepack_spec h2 W s1 ua ub st ws P zz kk lw2.bp lw.np r oa) ?_
        rintro v' h3 ⟨rfl, hw3, hE3⟩
        refine S_as rfl ?_
        refine S_nil (hK9 _ _ (V_keep [10] (by simp only [proj, lk, reduceIte, Nat.reduceEqDiff]; rfl) ?_)); clear hK9
        refine V_ret ?_
        refine hR _ _ (ret1 rfl rfl ?_)
        exact ⟨rfl, ⟨_, lw2.pack hE3 hw3⟩, (hE02.mono fun _ f => f.elim).trans (hE3.mono fun _ e => .inl e)⟩
      · skip
        refine V_sr T.mix (by kernel_rfl) (fun K10 hK10 => ?_)
        refine S_bin rfl rfl rfl ?_
        refine S_as rfl ?_
        refine S_nil (hK10 _ _ (V_keep [0, 3, 9, 12, 51] (by simp only [proj, lk, reduceIte, Nat.reduceEqDiff]; rfl) ?_)); clear hK10
        refine V_condp rfl (fun c195 => ?_) (fun c195 => ?_)
        · skip
          refine V_reg T.mix (by kernel_rfl) ?_
          refine S_mv rfl ?_
          refine S_nc rfl ?_
          first | refine S_fa0 T.f39_0 rfl ?_ | refine S_fa T.f39_0 rfl ?_
          refine S_st T.sz9 rfl rfl rfl rfl (by simp (disch := omega) only [dok]) ?_
          generalize hh : putH _ _ _ = h4
          have bd9 : B h4 D #[.string (⟨#[]⟩)] 39 := by rw [← hh]; exact lw2.bd.put 0 _
          have hE9 : Ext (fun z => z = D) h2 h4 := by rw [← hh]; exact Ext.put _ _ rfl
          clear hh
          have lw9 := lw2.reg hE9 bd9 (Nat.zero_le _)
          refine S_nilk [] (by simp only [proj, lk, reduceIte, Nat.reduceEqDiff]; rfl) ?_
          refine hK2 _ _ ?_; clear hK2
          refine V_sr T.mix (by kernel_rfl) (fun K11 hK11 => ?_)
          refine S_as rfl ?_
          refine S_nil (hK11 _ _ (V_keep [10] (by simp only [proj, lk, reduceIte, Nat.reduceEqDiff]; rfl) ?_)); clear hK11
          refine V_ret ?_
          refine hR _ _ (ret1 rfl rfl ?_)
          exact ⟨rfl, ⟨_, lw9⟩, (hE02.mono fun _ f => f.elim).trans (hE9.mono fun _ e => .inr e)⟩
        · skip
          refine V_sr T.mix (by kernel_rfl) (fun K12 hK12 => ?_)
          refine S_bin rfl rfl rfl ?_
          refine S_as rfl ?_
          refine S_nil (hK12 _ _ (V_keep [0, 3, 9, 12, 56] (by simp only [proj, lk, reduceIte, Nat.reduceEqDiff]; rfl) ?_)); clear hK12
          refine V_condp rfl (fun c197 => ?_) (fun c197 => ?_)
          · skip
            refine V_reg T.mix (by kernel_rfl) ?_
            refine S_mv rfl ?_
            first | refine S_fa0 T.f43_4 rfl ?_ | refine S_fa T.f43_4 rfl ?_
            refine S_ldK T.ag9 rfl (fun K' hK' => ?_)
            simp (disch := omega) only [d0, o0, o1, o2, o4, oP_some, Nat.add_zero]
            refine hK' _ ?_; clear hK' K'
            refine S_nc rfl ?_
            first | refine S_fa0 T.f39_0 rfl ?_ | refine S_fa T.f39_0 rfl ?_
            refine S_st T.sz9 rfl rfl rfl rfl (by simp (disch := omega) only [dok]) ?_
            generalize hh : putH _ _ _ = h4
            have bd9 : B h4 D #[.string (os)] 39 := by rw [← hh]; exact lw2.bd.put 0 _
            have hE9 : Ext (fun z => z = D) h2 h4 := by rw [← hh]; exact Ext.put _ _ rfl
            clear hh
            have lw9 := lw2.reg hE9 bd9 (hos)
            refine S_nilk [] (by simp only [proj, lk, reduceIte, Nat.reduceEqDiff]; rfl) ?_
            refine hK2 _ _ ?_; clear hK2
            refine V_sr T.mix (by kernel_rfl) (fun K13 hK13 => ?_)
            refine S_as rfl ?_
            refine S_nil (hK13 _ _ (V_keep [10] (by simp only [proj, lk, reduceIte, Nat.reduceEqDiff]; rfl) ?_)); clear hK13
            refine V_ret ?_
            refine hR _ _ (ret1 rfl rfl ?_)
            exact ⟨rfl, ⟨_, lw9⟩, (hE02.mono fun _ f => f.elim).trans (hE9.mono fun _ e => .inr e)⟩
          · skip
            refine V_sr T.mix (by kernel_rfl) (fun K14 hK14 => ?_)
            refine S_bin rfl rfl rfl ?_
            refine S_as rfl ?_
            refine S_nil (hK14 _ _ (V_keep [0, 63] (by simp only [proj, lk, reduceIte, Nat.reduceEqDiff]; rfl) ?_)); clear hK14
            refine V_condp rfl (fun c199 => ?_) (fun c199 => ?_)
            · skip
              refine V_sr T.mix (by kernel_rfl) (fun K15 hK15 => ?_)
              refine S_mv rfl ?_
              refine S_call T.hb11 rfl ?_
              obtain ⟨s1, ua, ub, st, ws⟩ := lw2.w
              obtain ⟨_, _, _, _, pb⟩ := ws.pb
              refine FC.mono (bcheck_spec h2 W _ _ _ _ pb) ?_
              rintro v' h' ⟨rfl, rfl⟩
              refine S_as rfl ?_
              refine S_nil (hK15 _ _ (V_keep [10] (by simp only [proj, lk, reduceIte, Nat.reduceEqDiff]; rfl) ?_)); clear hK15
              refine V_ret ?_
              refine hR _ _ (ret1 rfl rfl ?_)
              exact ⟨rfl, ⟨_, lw2⟩, hE02.mono fun _ f => f.elim⟩
            · skip
              refine V_skipk [] (by simp only [proj, lk, reduceIte, Nat.reduceEqDiff]; rfl) ?_
              refine hK2 _ _ ?_; clear hK2
              refine V_sr T.mix (by kernel_rfl) (fun K16 hK16 => ?_)
              refine S_as rfl ?_
              refine S_nil (hK16 _ _ (V_keep [10] (by simp only [proj, lk, reduceIte, Nat.reduceEqDiff]; rfl) ?_)); clear hK16
              refine V_ret ?_
              refine hR _ _ (ret1 rfl rfl ?_)
              exact ⟨rfl, ⟨_, lw2⟩, hE02.mono fun _ f => f.elim⟩
set_option maxHeartbeats 3200000 in
theorem walk_spec (h : Heap) (sa : Option Addr) (n cap : Nat) (q : Bool) (hs : Scr h.size h sa n) (hn : n ≤ 9223372036854775807) :
    FC Tryz.prog 7 (#[.slice sa n cap, .bool (decide (q = true))] : Array Value) h fun v h' => (∃ j : Int, v = .tuple #[.int .i64 (-1), .int .i64 j]) ∧ Ext (fun b => h.size ≤ b) h h' := by
  refine FC_of [(0, .slice sa n cap), (1, .bool (decide (q = true)))] Tryz.func7 rfl Tryz.ntmps7 (by simp) rfl (fun R hR => ?_)
  refine V_sr T.mix (by kernel_rfl) (fun K1 hK1 => ?_)
  refine S_as rfl ?_
  refine S_as rfl ?_
  refine S_nil (hK1 _ _ (V_keep [0, 1] (by simp only [proj, lk, reduceIte, Nat.reduceEqDiff]; rfl) ?_)); clear hK1
  refine V_sr T.mix (by kernel_rfl) (fun K2 hK2 => ?_)
  refine S_call T.hb8 rfl ?_
  refine FC.mono (ground_spec h) ?_
  rintro v' h1 ⟨X, tb, XA, XB, ZA, st, rfl, rt1, ca1, cb1, z1, ri1, n1, hE1, o1, o2, o3, o4, o5, o6⟩
  refine S_allocA T.z31 ?_
  generalize hh : Array.push h1 _ = h2
  have b2 : B h2 h1.size #[.pointer none, .pointer none, .pointer none, .pointer none] 31 := by rw [← hh]; exact B.new _ _ _
  have hE2 : Ext (fun _ => False) h1 h2 := by rw [← hh]; exact Ext.push _ _ _
  clear hh
  have kok : ∀ j, j < 4 → okPut h2 ⟨h1.size, j, none⟩ = true := fun j hj => b2.ok (by simpa using hj)
  refine S_stl T.sz31 rfl rfl rfl rfl (fun j hj => by simp (disch := omega) only [kok]) ?_
  generalize hh : putsH _ _ _ _ = h3
  have b3 : B h3 h1.size #[.pointer (some ⟨X, 0, none⟩), .pointer (some ⟨XA, 0, none⟩), .pointer (some ⟨XB, 0, none⟩), .pointer (some ⟨ZA.m, 0, none⟩)] 31 := by rw [← hh]; exact puts_all b2 (cs' := #[.pointer (some ⟨X, 0, none⟩), .pointer (some ⟨XA, 0, none⟩), .pointer (some ⟨XB, 0, none⟩), .pointer (some ⟨ZA.m, 0, none⟩)]) rfl
  have hE3 : Ext (fun k => k = h1.size) h2 h3 := by rw [← hh]; exact Ext.puts (S := fun k => k = h1.size) rfl _ _ _
  clear hh
  have hE13 : Ext (fun _ => False) h1 h3 := hE2.step hE3 (fun b hb e => by omega)
  have hz13 := hE13.1
  have hXl := rt1.t.lt
  have htl := rt1.bb.lt
  have hAl := ca1.lt
  have hBl := cb1.lt
  obtain ⟨W, hW⟩ : ∃ W : WA, W = (⟨X, tb, XA, XB, ZA, h3.size⟩ : WA) := ⟨_, rfl⟩
  have eT : X = W.T := by rw [hW]
  have eb : tb = W.tb := by rw [hW]
  have eA : XA = W.XA := by rw [hW]
  have eB : XB = W.XB := by rw [hW]
  have eZ : ZA = W.Z := by rw [hW]
  have eP : W.P = h3.size := by rw [hW]
  clear hW
  subst eT eb eA eB eZ
  have b3 : B h3 h1.size (bcs W) 31 := b3
  try clear q0 q1 q2 q3
  obtain ⟨q0, q1, q2, q3⟩ := bq (b3)
  refine S_nil (hK2 _ _ (V_keep [0, 1, 6] (by simp only [proj, lk, reduceIte, Nat.reduceEqDiff]; rfl) ?_)); clear hK2
  refine V_sr T.mix (by kernel_rfl) (fun K3 hK3 => ?_)
  first | refine S_fa0 T.f31_0 rfl ?_ | refine S_fa T.f31_0 rfl ?_
  refine S_ldK T.ag27 rfl (fun K' hK' => ?_)
  simp (disch := omega) only [q0, q1, q2, q3, oP_some, Nat.add_zero]
  refine hK' _ ?_; clear hK' K'
  first | refine S_fa0 T.f31_1 rfl ?_ | refine S_fa T.f31_1 rfl ?_
  refine S_ldK T.ag28 rfl (fun K' hK' => ?_)
  simp (disch := omega) only [q0, q1, q2, q3, oP_some, Nat.add_zero]
  refine hK' _ ?_; clear hK' K'
  first | refine S_fa0 T.f31_2 rfl ?_ | refine S_fa T.f31_2 rfl ?_
  refine S_ldK T.ag28 rfl (fun K' hK' => ?_)
  simp (disch := omega) only [q0, q1, q2, q3, oP_some, Nat.add_zero]
  refine hK' _ ?_; clear hK' K'
  first | refine S_fa0 T.f31_3 rfl ?_ | refine S_fa T.f31_3 rfl ?_
  refine S_ldK T.ag29 rfl (fun K' hK' => ?_)
  simp (disch := omega) only [q0, q1, q2, q3, oP_some, Nat.add_zero]
  refine hK' _ ?_; clear hK' K'
  refine S_call T.hb9 rfl ?_
  refine FC.mono (bnew_spec h3 W eP) ?_
  rintro v' h4 ⟨rfl, pb4, hE4⟩
  have sp : Sp W := ⟨⟨o3, o4⟩, o5, fun z e => by have h9 := o6 z e; omega⟩
  have hE14 := hE13.trans hE4
  have w4 : WS h4 W ⟨0, 0, 0⟩ HC.z HC.z st := ⟨sp, ⟨_, _, _, _, pb4⟩, rt1.ext hE14 (fun f => f) (fun f => f), ca1.new hE14, cb1.new hE14, by simp [HC.z], by simp [HC.z], z1.ext hE14 (fun _ _ f => f), ri1, by omega⟩
  have nbW : ¬ WT W h1.size := fun e => by
    rcases e with e | e | e | e | e | e
    · omega
    · omega
    · rw [ct_def] at e; omega
    · rw [ct_def] at e; omega
    · have h9 := o6 _ e; omega
    · rw [pt_def] at e; have h9 := b3.lt; omega
  have hW0 : ∀ z, WT W z → h.size ≤ z := fun z e => by
    have h8 := hE1.1
    rcases e with e | e | e | e | e | e
    · omega
    · omega
    · rw [ct_def] at e; omega
    · rw [ct_def] at e; omega
    · have h9 := o6 _ e; omega
    · rw [pt_def] at e; omega
  refine S_as rfl ?_
  refine S_nil (hK3 _ _ (V_keep [0, 1, 6, 7] (by simp only [proj, lk, reduceIte, Nat.reduceEqDiff]; rfl) ?_)); clear hK3
  refine V_sr T.mix (by kernel_rfl) (fun K4 hK4 => ?_)
  refine S_call T.hb10 rfl ?_
  refine FC.mono (mbnew_spec h4) ?_
  rintro v' h5 ⟨rfl, ⟨zz, kk, bp5⟩, hE5⟩
  have w5 := w4.new hE5
  have bb5 := (b3.ext hE4 (fun f => f)).ext hE5 (fun f => f)
  have hE05 : Ext (fun b => h.size ≤ b) h h5 := (((hE1.trans hE13).trans hE4).trans hE5).mono fun _ f => f.elim
  refine S_as rfl ?_
  refine S_nil (hK4 _ _ (V_keep [0, 1, 6, 7, 8] (by simp only [proj, lk, reduceIte, Nat.reduceEqDiff]; rfl) ?_)); clear hK4
  refine V_sr T.mix (by kernel_rfl) (fun K5 hK5 => ?_)
  refine S_bld rfl (T.bld39) ?_
  refine S_boxA rfl ?_
  generalize hh : Array.push h5 _ = h6
  have bd6 : B h6 h5.size #[.string ⟨#[]⟩] 39 := by rw [← hh]; exact B.new _ _ _
  have hEh6 : Ext (fun _ => False) h5 h6 := by rw [← hh]; exact Ext.push _ _ _
  clear hh
  have lw6 : LW h6 W h4.size zz kk h5.size ⟨#[]⟩ := ⟨⟨_, _, _, st, w5.new hEh6⟩, bp5.ext hEh6 (fun f => f), bd6, fun e => (by have h9 := w4.lt e; omega), fun e => (by have h9 := w5.lt e; omega), by have h9 := bp5.lt; omega, Nat.zero_le _⟩
  have bb6 := bb5.ext hEh6 (fun f => f)
  have hEs : Ext (fun b => h.size ≤ b) h h6 := hE05.trans (hEh6.mono fun _ f => f.elim)
  have hlo : ∀ z, LS' W h5.size z → h.size ≤ z := fun z e => by rcases e with e | e; (exact hW0 z e); (have h9 := hE05.1; omega)
  have hnb : ¬ LS' W h5.size h1.size := fun e => by rcases e with e | e; (exact nbW e); (have h9 := bb5.lt; omega)
  refine S_as rfl ?_
  refine S_nil (hK5 _ _ (V_keep [0, 1, 6, 7, 8, 9] (by simp only [proj, lk, reduceIte, Nat.reduceEqDiff]; rfl) ?_)); clear hK5
  refine V_seqJ (fun l h' => (True) ∧ l = [(0, .slice sa n cap), (1, .bool (decide (q = true))), (6, .pointer (some ⟨h1.size, 0, none⟩)), (7, .pointer (some ⟨W.P, 0, none⟩)), (8, .pointer (some ⟨h4.size, 0, none⟩)), (9, .pointer (some ⟨h5.size, 0, none⟩))] ∧ h6 = h') ?_ ?_
  · skip
    refine V_sr T.mix (by kernel_rfl) (fun K7 hK7 => ?_)
    refine S_mv rfl ?_
    refine S_not rfl ?_
    refine S_nil (hK7 _ _ (V_keep [0, 1, 6, 7, 8, 9, 25] (by simp only [proj, lk, reduceIte, Nat.reduceEqDiff]; rfl) ?_)); clear hK7
    refine V_condp rfl (fun c212 => ?_) (fun c212 => ?_)
    · skip
      refine V_sr T.mix (by kernel_rfl) (fun K8 hK8 => ?_)
      refine S_mv rfl ?_
      refine S_call T.hb11 rfl ?_
      obtain ⟨s1, ua, ub, st1, ws1⟩ := lw6.w
      obtain ⟨_, _, _, _, pb1⟩ := ws1.pb
      refine FC.mono (bcheck_spec h6 W _ _ _ _ pb1) ?_
      rintro v' h' ⟨rfl, rfl⟩
      refine S_notb rfl ?_
      refine S_nil (hK8 _ _ (V_keep [0, 1, 6, 7, 8, 9, 28] (by simp only [proj, lk, reduceIte, Nat.reduceEqDiff]; rfl) ?_)); clear hK8
      refine V_condb rfl (fun c213 => ?_) (fun c213 => ?_)
      · skip
        cases c213
      · skip
        refine V_skipk [0, 1, 6, 7, 8, 9] (by simp only [proj, lk, reduceIte, Nat.reduceEqDiff]; rfl) ?_
        exact ⟨trivial, rfl, rfl⟩
    · skip
      refine V_skipk [0, 1, 6, 7, 8, 9] (by simp only [proj, lk, reduceIte, Nat.reduceEqDiff]; rfl) ?_
      exact ⟨trivial, rfl, rfl⟩
  rintro l h' ⟨htt, rfl, rfl⟩
  refine V_seq (fun K9 hK9 => ?_)
  refine V_sr T.mix (by kernel_rfl) (fun K10 hK10 => ?_)
  refine S_as rfl ?_
  refine S_nil (hK10 _ _ (V_keep [0, 1, 6, 7, 8, 9, 10] (by simp only [proj, lk, reduceIte, Nat.reduceEqDiff]; rfl) ?_)); clear hK10
  refine V_block ?_
  refine V_loop (fun m l h' => ∃ (i : Nat) (hk : Heap) (rk : ByteArray), (i ≤ n) ∧ (i ≤ 4398046511104) ∧ (LW hk W h4.size zz kk h5.size rk) ∧ (B hk h1.size (bcs W) 31) ∧ (Ext (fun b => h.size ≤ b) h hk) ∧ m = n - i ∧ l = [(0, .slice sa n cap), (1, .bool (decide (q = true))), (6, .pointer (some ⟨h1.size, 0, none⟩)), (7, .pointer (some ⟨W.P, 0, none⟩)), (8, .pointer (some ⟨h4.size, 0, none⟩)), (9, .pointer (some ⟨h5.size, 0, none⟩)), (10, .int .i64 (i : Int))] ∧ hk = h') _ ⟨0, h6, ⟨#[]⟩, by omega, by omega, lw6, bb6, hEs, rfl, rfl, rfl⟩ ?_
  rintro m l h' ⟨i, hk, rk, hi, hi2, lwk, bbk, hEk, rfl, rfl, rfl⟩ K11 hK11
  refine V_seq (fun K12 hK12 => ?_)
  refine V_sr T.mix (by kernel_rfl) (fun K13 hK13 => ?_)
  refine S_cut (K' := fun l h' => ∃ b : Bool, (b = true ↔ (i < n ∧ i < 4398046511104)) ∧ l = [(0, .slice sa n cap), (1, .bool (decide (q = true))), (6, .pointer (some ⟨h1.size, 0, none⟩)), (7, .pointer (some ⟨W.P, 0, none⟩)), (8, .pointer (some ⟨h4.size, 0, none⟩)), (9, .pointer (some ⟨h5.size, 0, none⟩)), (10, .int .i64 (i : Int)), (36, .bool b)] ∧ hk = h') ?_ ?_
  · skip
    refine S_mv rfl ?_
    refine S_mv rfl ?_
    refine S_lenl T.el22 rfl ?_
    refine S_bin rfl rfl rfl ?_
    refine S_mv rfl ?_
    refine S_dec (fun g217 => ?_) (fun g217 => ?_)
    · skip
      refine S_gt rfl ?_
      refine S_mv rfl ?_
      refine S_gt rfl ?_
      refine S_bin rfl rfl rfl ?_
      refine S_pt rfl rfl ?_
      exact S_nilk [0, 1, 6, 7, 8, 9, 10, 36] (by simp only [proj, lk, reduceIte, Nat.reduceEqDiff]; rfl) ⟨_, (by first | (simp [*]; done) | (simp; omega)), rfl, rfl⟩
    · skip
      refine S_gf rfl ?_
      refine S_gf rfl ?_
      refine S_pf rfl rfl ?_
      exact S_nilk [0, 1, 6, 7, 8, 9, 10, 36] (by simp only [proj, lk, reduceIte, Nat.reduceEqDiff]; rfl) ⟨_, (by first | (simp [*]; done) | (simp; omega)), rfl, rfl⟩
  rintro l h' ⟨b, hb217, rfl, rfl⟩
  refine hK13 _ _ ?_; clear hK13
  refine V_condb rfl (fun c217 => ?_) (fun c217 => ?_)
  · replace c217 := hb217.1 c217
    refine V_skipk [0, 1, 6, 7, 8, 9, 10] (by simp only [proj, lk, reduceIte, Nat.reduceEqDiff]; rfl) ?_
    refine hK12 _ _ ?_; clear hK12
    refine V_seq (fun K15 hK15 => ?_)
    refine V_block ?_
    refine V_seq (fun K16 hK16 => ?_)
    refine V_sr T.mix (by kernel_rfl) (fun K17 hK17 => ?_)
    refine S_mv rfl ?_
    refine S_mv rfl ?_
    refine S_ldn T.ag31 rfl (bbk.all rfl) ?_
    refine S_mv rfl ?_
    refine S_mv rfl ?_
    refine S_mv rfl ?_
    obtain ⟨sb, so, rfl, hlt, k, oa, ob, oc, os, ot, hc, hzs⟩ := (hs.ext (Nat.le_refl _) hEk) i (by exact c217.1)
    refine S_ix T.el22 rfl rfl (by omega) (by omega) ?_
    refine S_ldn T.ag43 rfl (by simpa using hc) ?_
    refine S_call T.hb12 rfl ?_
    refine FC.mono (play_spec hk W h4.size zz kk h5.size rk lwk k oa ob oc os ot hzs) ?_
    rintro v' h7 ⟨rfl, ⟨r7, lw7⟩, hE7⟩
    have hEk7 : Ext (fun b => h.size ≤ b) h h7 := hEk.trans (hE7.mono fun z e => hlo z e)
    have bb7 := bbk.ext hE7 hnb
    refine S_notb rfl ?_
    refine S_nil (hK17 _ _ (V_keep [0, 1, 6, 7, 8, 9, 10, 48] (by simp only [proj, lk, reduceIte, Nat.reduceEqDiff]; rfl) ?_)); clear hK17
    refine V_condb rfl (fun c218 => ?_) (fun c218 => ?_)
    · skip
      cases c218
    · skip
      refine V_skipk [0, 1, 6, 7, 8, 9, 10] (by simp only [proj, lk, reduceIte, Nat.reduceEqDiff]; rfl) ?_
      refine hK16 _ _ ?_; clear hK16
      refine V_sr T.mix (by kernel_rfl) (fun K18 hK18 => ?_)
      refine S_mv rfl ?_
      refine S_not rfl ?_
      refine S_nil (hK18 _ _ (V_keep [0, 1, 6, 7, 8, 9, 10, 52] (by simp only [proj, lk, reduceIte, Nat.reduceEqDiff]; rfl) ?_)); clear hK18
      refine V_condp rfl (fun c221 => ?_) (fun c221 => ?_)
      · skip
        refine V_sr T.mix (by kernel_rfl) (fun K19 hK19 => ?_)
        refine S_mv rfl ?_
        refine S_call T.hb11 rfl ?_
        obtain ⟨s1, ua, ub, st1, ws1⟩ := lw7.w
        obtain ⟨_, _, _, _, pb1⟩ := ws1.pb
        refine FC.mono (bcheck_spec h7 W _ _ _ _ pb1) ?_
        rintro v' h' ⟨rfl, rfl⟩
        refine S_notb rfl ?_
        refine S_nil (hK19 _ _ (V_keep [0, 1, 6, 7, 8, 9, 10, 55] (by simp only [proj, lk, reduceIte, Nat.reduceEqDiff]; rfl) ?_)); clear hK19
        refine V_condb rfl (fun c222 => ?_) (fun c222 => ?_)
        · skip
          cases c222
        · skip
          refine V_skipk [0, 1, 6, 7, 8, 9, 10] (by simp only [proj, lk, reduceIte, Nat.reduceEqDiff]; rfl) ?_
          refine hK15 _ _ ?_; clear hK15
          refine V_reg T.mix (by kernel_rfl) ?_
          refine S_mv rfl ?_
          first | refine S_add rfl rfl (by omega) (by omega) ?_ | refine S_bin rfl rfl rfl ?_
          refine S_as rfl ?_
          refine S_nilk [0, 1, 6, 7, 8, 9, 10] (by simp only [proj, lk, reduceIte, Nat.reduceEqDiff]; rfl) ?_
          exact hK11 _ _ ⟨_, by omega, i + 1, h7, r7, by omega, by omega, lw7, bb7, hEk7, rfl, rfl, rfl⟩
      · skip
        refine V_skipk [0, 1, 6, 7, 8, 9, 10] (by simp only [proj, lk, reduceIte, Nat.reduceEqDiff]; rfl) ?_
        refine hK15 _ _ ?_; clear hK15
        refine V_reg T.mix (by kernel_rfl) ?_
        refine S_mv rfl ?_
        first | refine S_add rfl rfl (by omega) (by omega) ?_ | refine S_bin rfl rfl rfl ?_
        refine S_as rfl ?_
        refine S_nilk [0, 1, 6, 7, 8, 9, 10] (by simp only [proj, lk, reduceIte, Nat.reduceEqDiff]; rfl) ?_
        exact hK11 _ _ ⟨_, by omega, i + 1, h7, r7, by omega, by omega, lw7, bb7, hEk7, rfl, rfl, rfl⟩
  · replace c217 : ¬ _ := fun hp => Bool.false_ne_true (c217.symm.trans (hb217.2 hp))
    refine V_exitk [0] rfl (by simp only [proj, lk, reduceIte, Nat.reduceEqDiff]; rfl) ?_
    refine hK9 _ _ ?_; clear hK9
    refine V_seq (fun K20 hK20 => ?_)
    refine V_sr T.mix (by kernel_rfl) (fun K21 hK21 => ?_)
    refine S_mv rfl ?_
    refine S_lenl T.el22 rfl ?_
    refine S_bin rfl rfl rfl ?_
    refine S_nil (hK21 _ _ (V_keep [0, 60] (by simp only [proj, lk, reduceIte, Nat.reduceEqDiff]; rfl) ?_)); clear hK21
    refine V_condp rfl (fun c227 => ?_) (fun c227 => ?_)
    · skip
      refine V_sr T.mix (by kernel_rfl) (fun K22 hK22 => ?_)
      refine S_mv rfl ?_
      refine S_lenl T.el22 rfl ?_
      refine S_as rfl ?_
      refine S_as rfl ?_
      refine S_nil (hK22 _ _ (V_keep [4, 5] (by simp only [proj, lk, reduceIte, Nat.reduceEqDiff]; rfl) ?_)); clear hK22
      refine V_ret ?_
      refine hR _ _ (ret2 rfl rfl rfl ?_)
      exact ⟨⟨_, rfl⟩, hEk⟩
    · skip
      refine V_skipk [] (by simp only [proj, lk, reduceIte, Nat.reduceEqDiff]; rfl) ?_
      refine hK20 _ _ ?_; clear hK20
      refine V_sr T.mix (by kernel_rfl) (fun K23 hK23 => ?_)
      refine S_as rfl ?_
      refine S_as rfl ?_
      refine S_nil (hK23 _ _ (V_keep [4, 5] (by simp only [proj, lk, reduceIte, Nat.reduceEqDiff]; rfl) ?_)); clear hK23
      refine V_ret ?_
      refine hR _ _ (ret2 rfl rfl rfl ?_)
      exact ⟨⟨_, rfl⟩, hEk⟩
set_option maxHeartbeats 400000 in
theorem rut_spec (h : Heap) (sa : Option Addr) (n cap : Nat) (hs : Scr h.size h sa n) (hn : n ≤ 9223372036854775807) :
    FC Tryz.prog 5 (#[.slice sa n cap] : Array Value) h fun v h' => v = .int .i64 (-1) ∧ Ext (fun b => h.size ≤ b) h h' := by
  refine FC_of [(0, .slice sa n cap)] Tryz.func5 rfl Tryz.ntmps5 (by simp) rfl (fun R hR => ?_)
  refine V_sr T.mix (by kernel_rfl) (fun K1 hK1 => ?_)
  refine S_as rfl ?_
  refine S_nil (hK1 _ _ (V_keep [0] (by simp only [proj, lk, reduceIte, Nat.reduceEqDiff]; rfl) ?_)); clear hK1
  refine V_sr T.mix (by kernel_rfl) (fun K2 hK2 => ?_)
  refine S_mv rfl ?_
  refine S_call T.hb7 rfl ?_
  refine FC.mono (walk_spec h sa n cap false hs hn) ?_
  rintro v h2 ⟨⟨j, rfl⟩, hE⟩
  refine S_mv rfl ?_
  refine S_ex rfl rfl ?_
  refine S_ex rfl rfl ?_
  refine S_as rfl ?_
  refine S_as rfl ?_
  refine S_nil (hK2 _ _ (V_keep [3] (by simp only [proj, lk, reduceIte, Nat.reduceEqDiff]; rfl) ?_)); clear hK2
  refine V_sr T.mix (by kernel_rfl) (fun K3 hK3 => ?_)
  refine S_mv rfl ?_
  refine S_as rfl ?_
  refine S_nil (hK3 _ _ (V_keep [2] (by simp only [proj, lk, reduceIte, Nat.reduceEqDiff]; rfl) ?_)); clear hK3
  refine V_ret ?_
  refine hR _ _ (ret1 rfl rfl ?_)
  exact ⟨rfl, hE⟩
set_option maxHeartbeats 400000 in
theorem rqut_spec (h : Heap) (sa : Option Addr) (n cap : Nat) (hs : Scr h.size h sa n) (hn : n ≤ 9223372036854775807) :
    FC Tryz.prog 6 (#[.slice sa n cap] : Array Value) h fun v h' => v = .int .i64 (-1) ∧ Ext (fun b => h.size ≤ b) h h' := by
  refine FC_of [(0, .slice sa n cap)] Tryz.func6 rfl Tryz.ntmps6 (by simp) rfl (fun R hR => ?_)
  refine V_sr T.mix (by kernel_rfl) (fun K1 hK1 => ?_)
  refine S_as rfl ?_
  refine S_nil (hK1 _ _ (V_keep [0] (by simp only [proj, lk, reduceIte, Nat.reduceEqDiff]; rfl) ?_)); clear hK1
  refine V_sr T.mix (by kernel_rfl) (fun K2 hK2 => ?_)
  refine S_mv rfl ?_
  refine S_call T.hb7 rfl ?_
  refine FC.mono (walk_spec h sa n cap true hs hn) ?_
  rintro v h2 ⟨⟨j, rfl⟩, hE⟩
  refine S_mv rfl ?_
  refine S_ex rfl rfl ?_
  refine S_ex rfl rfl ?_
  refine S_as rfl ?_
  refine S_as rfl ?_
  refine S_nil (hK2 _ _ (V_keep [3] (by simp only [proj, lk, reduceIte, Nat.reduceEqDiff]; rfl) ?_)); clear hK2
  refine V_sr T.mix (by kernel_rfl) (fun K3 hK3 => ?_)
  refine S_mv rfl ?_
  refine S_as rfl ?_
  refine S_nil (hK3 _ _ (V_keep [2] (by simp only [proj, lk, reduceIte, Nat.reduceEqDiff]; rfl) ?_)); clear hK3
  refine V_ret ?_
  refine hR _ _ (ret1 rfl rfl ?_)
  exact ⟨rfl, hE⟩
set_option maxHeartbeats 400000 in
theorem ref_spec (h : Heap) (sa : Option Addr) (n cap : Nat) (hs : Scr h.size h sa n) (hn : n ≤ 9223372036854775807) :
    FC Tryz.prog 3 (#[.slice sa n cap] : Array Value) h fun v h' => v = .bool true ∧ Ext (fun b => h.size ≤ b) h h' := by
  refine FC_of [(0, .slice sa n cap)] Tryz.func3 rfl Tryz.ntmps3 (by simp) rfl (fun R hR => ?_)
  refine V_sr T.mix (by kernel_rfl) (fun K1 hK1 => ?_)
  refine S_as rfl ?_
  refine S_nil (hK1 _ _ (V_keep [0] (by simp only [proj, lk, reduceIte, Nat.reduceEqDiff]; rfl) ?_)); clear hK1
  refine V_sr T.mix (by kernel_rfl) (fun K2 hK2 => ?_)
  refine S_mv rfl ?_
  refine S_call T.hb5 rfl ?_
  refine FC.mono (rut_spec h sa n cap hs hn) ?_
  rintro v h2 ⟨rfl, hE⟩
  refine S_bin rfl rfl rfl ?_
  refine S_as rfl ?_
  refine S_nil (hK2 _ _ (V_keep [2] (by simp only [proj, lk, reduceIte, Nat.reduceEqDiff]; rfl) ?_)); clear hK2
  refine V_ret ?_
  refine hR _ _ (ret1 rfl rfl ?_)
  exact ⟨rfl, hE⟩
set_option maxHeartbeats 400000 in
theorem refq_spec (h : Heap) (sa : Option Addr) (n cap : Nat) (hs : Scr h.size h sa n) (hn : n ≤ 9223372036854775807) :
    FC Tryz.prog 4 (#[.slice sa n cap] : Array Value) h fun v h' => v = .bool true ∧ Ext (fun b => h.size ≤ b) h h' := by
  refine FC_of [(0, .slice sa n cap)] Tryz.func4 rfl Tryz.ntmps4 (by simp) rfl (fun R hR => ?_)
  refine V_sr T.mix (by kernel_rfl) (fun K1 hK1 => ?_)
  refine S_as rfl ?_
  refine S_nil (hK1 _ _ (V_keep [0] (by simp only [proj, lk, reduceIte, Nat.reduceEqDiff]; rfl) ?_)); clear hK1
  refine V_sr T.mix (by kernel_rfl) (fun K2 hK2 => ?_)
  refine S_mv rfl ?_
  refine S_call T.hb6 rfl ?_
  refine FC.mono (rqut_spec h sa n cap hs hn) ?_
  rintro v h2 ⟨rfl, hE⟩
  refine S_bin rfl rfl rfl ?_
  refine S_as rfl ?_
  refine S_nil (hK2 _ _ (V_keep [2] (by simp only [proj, lk, reduceIte, Nat.reduceEqDiff]; rfl) ?_)); clear hK2
  refine V_ret ?_
  refine hR _ _ (ret1 rfl rfl ?_)
  exact ⟨rfl, hE⟩
end Go.Proofs.Qxb6500406aGreat
