import Derived.Test.Qxb6500406aGreatQa
set_option linter.unusedVariables false
set_option linter.unusedSimpArgs false
namespace Go.Proofs.Qxb6500406aGreat
open Go.Eng Go.Bits Go.Blk HufW

theorem puts_all {h : Heap} {b : Nat} {cs cs' : Array Value} {t : TypeId} (hb : B h b cs t) (hs : cs'.size = cs.size) : B (putsH h b 0 cs'.toList) b cs' t := by
  obtain ⟨c2, e2, e3, e4, e5, e6, e7⟩ := putsH_eq cs'.toList 0 h cs hb (by simp; omega)
  have : c2 = cs' := by
    apply Array.ext_getElem?
    intro j
    by_cases hj : j < cs'.size
    · have := e4 j (by simpa using hj)
      rw [Nat.zero_add] at this
      rw [this]; simp
    · rw [Array.getElem?_eq_none (by omega), Array.getElem?_eq_none (by omega)]
  rw [this] at e2; exact e2
section wset
variable {h h' : Heap} {W : WA} {s : TS} {ua ub : HC} {st : Lz.MS}
theorem WS.setz (w : WS h W s ua ub st) {st' : Lz.MS} (hz : LzW.Mat h' W.Z st') (he : Ext (LzW.ES W.Z) h h') (hr : Lz.RI st') (hn : st'.n ≤ 256) : WS h' W s ua ub st' := by
  obtain ⟨cn, pl, co, wi, pb⟩ := w.pb
  have sp := w.sp
  exact ⟨sp, ⟨cn, pl, co, wi, pb.ext he (fun z e y => sp.zp z y e)⟩, w.rt.ext he (fun e => (sp.zt _ e).1 rfl) (fun e => (sp.zt _ e).2 rfl), w.ca.ext he (fun z e y => sp.za z y e), w.cb.ext he (fun z e y => sp.zb z y e), w.fa, w.fb, hz, hr, hn⟩
theorem WS.seta (w : WS h W s ua ub st) {va : HC} (hc : CB h' W.XA va) (he : Ext (CT W.XA) h h') (hf : va.fill ≤ 265) : WS h' W s va ub st := by
  obtain ⟨cn, pl, co, wi, pb⟩ := w.pb
  have sp := w.sp
  exact ⟨sp, ⟨cn, pl, co, wi, pb.ext he sp.pa⟩, w.rt.ext he (fun e => (sp.at' _ e).1 rfl) (fun e => (sp.at' _ e).2 rfl), hc, w.cb.ext he (fun z e y => sp.ab z y e), hf, w.fb, w.z.ext he sp.za, w.ri, w.n⟩
theorem WS.setb (w : WS h W s ua ub st) {vb : HC} (hc : CB h' W.XB vb) (he : Ext (CT W.XB) h h') (hf : vb.fill ≤ 265) : WS h' W s ua vb st := by
  obtain ⟨cn, pl, co, wi, pb⟩ := w.pb
  have sp := w.sp
  exact ⟨sp, ⟨cn, pl, co, wi, pb.ext he sp.pb⟩, w.rt.ext he (fun e => (sp.bt _ e).1 rfl) (fun e => (sp.bt _ e).2 rfl), w.ca.ext he (fun z e y => sp.ab z e y), hc, w.fa, hf, w.z.ext he sp.zb, w.ri, w.n⟩
theorem WS.new (w : WS h W s ua ub st) (he : Ext (fun _ => False) h h') : WS h' W s ua ub st := w.ext he (fun _ _ f => f)
end wset
theorem CK.kc {u v : HC} {lf : Nat → Nat} (k : CK u lf) (c : KC u v) : CK v lf := by
  obtain ⟨c1, c2, c3, c4, c5, c6⟩ := c
  exact ⟨by rw [c1]; exact k.n, fun j hj => by rw [c2]; exact k.le j (by rw [← c1]; exact hj), fun j hj => by rw [c3, c1]; exact k.cd j (by rw [← c1]; exact hj), by rw [c1, c4, c5, c6]; exact k.tb, by rw [c1]; exact k.lw⟩
def bcs (W : WA) : Array Value := #[.pointer (some ⟨W.T, 0, none⟩), .pointer (some ⟨W.XA, 0, none⟩), .pointer (some ⟨W.XB, 0, none⟩), .pointer (some ⟨W.Z.m, 0, none⟩)]
theorem bq {h : Heap} {b : Nat} {W : WA} (hB : B h b (bcs W) 31) : cellH h ⟨b, 0, none⟩ = some (.pointer (some ⟨W.T, 0, none⟩)) ∧ cellH h ⟨b, 1, none⟩ = some (.pointer (some ⟨W.XA, 0, none⟩)) ∧ cellH h ⟨b, 2, none⟩ = some (.pointer (some ⟨W.XB, 0, none⟩)) ∧ cellH h ⟨b, 3, none⟩ = some (.pointer (some ⟨W.Z.m, 0, none⟩)) := ⟨hB.cell 0, hB.cell 1, hB.cell 2, hB.cell 3⟩
theorem own_new {h : Heap} {b n : Nat} {f : Nat → Value} (hb : B h b (arr n f) 3) : OwnR 0 h (some ⟨b, 0, none⟩) 0 n [] 3 1 := .inr ⟨b, _, rfl, Nat.zero_le _, hb, by rw [arr_size, Nat.mul_one], Nat.zero_le _, rfl, fun j hj => by simp at hj⟩
theorem cod2 {lf : Nat → Nat} {N : Nat} {y : Nat} (h : y < N) : (codF lf N (y : Int)).2.1 = lf y := by
  unfold codF
  by_cases h0 : 0 < lf y
  · rw [if_pos ⟨by omega, by omega, by rw [Int.toNat_natCast]; exact h0⟩, Int.toNat_natCast]
  · rw [if_neg (fun z => h0 (by have := z.2.2; rw [Int.toNat_natCast] at this; exact this))]
    show 0 = lf y; omega
set_option maxHeartbeats 800000 in
theorem ground_spec (h : Heap) :
    FC Tryz.prog 8 (#[] : Array Value) h fun v h' => ∃ X tb XA XB ZA st, v = .agg #[.pointer (some ⟨X, 0, none⟩), .pointer (some ⟨XA, 0, none⟩), .pointer (some ⟨XB, 0, none⟩), .pointer (some ⟨ZA.m, 0, none⟩)] ∧ BitW.RT h' X tb ⟨0, 0, 0⟩ ∧ CB h' XA HC.z ∧ CB h' XB HC.z ∧ LzW.Mat h' ZA st ∧ Lz.RI st ∧ st.n = 0 ∧ Ext (fun _ => False) h h' ∧ h.size ≤ X ∧ h.size ≤ tb ∧ X < XA ∧ tb < XA ∧ XA + 10 < XB ∧ (∀ z, LzW.ES ZA z → XB + 10 < z ∧ z < h'.size) := by
  refine FC_of [] Tryz.func8 rfl Tryz.ntmps8 (by simp) rfl (fun R hR => ?_)
  refine V_sr T.mix (by kernel_rfl) (fun K1 hK1 => ?_)
  refine S_allocA T.z31 ?_
  generalize hh : Array.push h _ = h1
  have b1 : B h1 h.size #[.pointer none, .pointer none, .pointer none, .pointer none] 31 := by rw [← hh]; exact B.new _ _ _
  have hE1 : Ext (fun _ => False) h h1 := by rw [← hh]; exact Ext.push _ _ _
  clear hh
  have hz1 := hE1.1
  have hbl := b1.lt
  refine S_nil (hK1 _ _ (V_keep [0] (by simp only [proj, lk, reduceIte, Nat.reduceEqDiff]; rfl) ?_)); clear hK1
  refine V_sr T.mix (by kernel_rfl) (fun K2 hK2 => ?_)
  refine S_call T.hb13 rfl ?_
  refine FC.mono (BitW.new_spec h1) ?_
  rintro v' h2 ⟨X, tb, rfl, rt2, hE2, hX1, hX2⟩
  have hz2 := rt2.t.lt
  have hz2b := rt2.bb.lt
  refine S_as rfl ?_
  refine S_nil (hK2 _ _ (V_keep [0, 1] (by simp only [proj, lk, reduceIte, Nat.reduceEqDiff]; rfl) ?_)); clear hK2
  refine V_sr T.mix (by kernel_rfl) (fun K3 hK3 => ?_)
  refine S_call T.hb14 rfl ?_
  refine FC.mono (hnew_spec h2) ?_
  rintro v' h3 ⟨rfl, ca3, hE3⟩
  have hz3 := ca3.lt
  refine S_as rfl ?_
  refine S_nil (hK3 _ _ (V_keep [0, 1, 2] (by simp only [proj, lk, reduceIte, Nat.reduceEqDiff]; rfl) ?_)); clear hK3
  refine V_sr T.mix (by kernel_rfl) (fun K4 hK4 => ?_)
  refine S_call T.hb14 rfl ?_
  refine FC.mono (hnew_spec h3) ?_
  rintro v' h4 ⟨rfl, cb4, hE4⟩
  have hz4 := cb4.lt
  refine S_as rfl ?_
  refine S_nil (hK4 _ _ (V_keep [0, 1, 2, 3] (by simp only [proj, lk, reduceIte, Nat.reduceEqDiff]; rfl) ?_)); clear hK4
  refine V_sr T.mix (by kernel_rfl) (fun K5 hK5 => ?_)
  refine S_call T.hb15 rfl ?_
  refine FC.mono (LzW.new_spec h4) ?_
  rintro v' h5 ⟨ZA, st, rfl, z5, hE5, hES, ri5, n5, p5⟩
  have hE25 := (hE3.trans hE4).trans hE5
  have b5 := (b1.ext hE2 (fun f => f)).ext hE25 (fun f => f)
  have kok : ∀ j, j < 4 → okPut h5 ⟨h.size, j, none⟩ = true := fun j hj => b5.ok (by simpa using hj)
  refine S_as rfl ?_
  refine S_nil (hK5 _ _ (V_keep [0, 1, 2, 3, 4] (by simp only [proj, lk, reduceIte, Nat.reduceEqDiff]; rfl) ?_)); clear hK5
  refine V_sr T.mix (by kernel_rfl) (fun K6 hK6 => ?_)
  refine S_mv rfl ?_
  refine S_mv rfl ?_
  refine S_mv rfl ?_
  refine S_mv rfl ?_
  refine S_bld rfl (T.bld31_0_1_2_3 _ _ _ _) ?_
  refine S_stl T.sz31 rfl rfl rfl rfl (fun j hj => by simp (disch := omega) only [kok]) ?_
  generalize hh : putsH _ _ _ _ = h6
  have b6 : B h6 h.size #[.pointer (some ⟨X, 0, none⟩), .pointer (some ⟨h2.size, 0, none⟩), .pointer (some ⟨h3.size, 0, none⟩), .pointer (some ⟨ZA.m, 0, none⟩)] 31 := by rw [← hh]; exact puts_all b5 (cs' := #[.pointer (some ⟨X, 0, none⟩), .pointer (some ⟨h2.size, 0, none⟩), .pointer (some ⟨h3.size, 0, none⟩), .pointer (some ⟨ZA.m, 0, none⟩)]) rfl
  have hE6 : Ext (fun k => k = h.size) h5 h6 := by rw [← hh]; exact Ext.puts (S := fun k => k = h.size) rfl _ _ _
  have hz6 : h6.size = h5.size := by rw [← hh]; exact size_puts _ _ _
  clear hh
  refine S_nil (hK6 _ _ (V_keep [0] (by simp only [proj, lk, reduceIte, Nat.reduceEqDiff]; rfl) ?_)); clear hK6
  refine V_ret ?_
  refine hR _ _ (retc1 rfl rfl T.ag31 b6 (by rfl) ?_)
  refine ⟨X, tb, h2.size, h3.size, ZA, st, rfl, (rt2.ext hE25 (fun f => f) (fun f => f)).ext hE6 (by omega) (by omega), ((ca3.new hE4).new hE5).ext hE6 (fun b e y => by rw [ct_def] at e; omega), (cb4.new hE5).ext hE6 (fun b e y => by rw [ct_def] at e; omega), z5.ext hE6 (fun b e y => by have h9 := hES b e; omega), ri5, n5, ((hE1.trans hE2).trans hE25).step hE6 (fun b hb e => by omega), by omega, by omega, by omega, by omega, by omega, fun z e => ?_⟩
  have h9 := hES z e
  have h8 := z5.lt e
  omega
set_option maxHeartbeats 800000 in
theorem holds_spec (h : Heap) (W : WA) (s : TS) (ua ub : HC) (st : Lz.MS) (ws : WS h W s ua ub st) (L : List Nat) (hL : L.length = 273) (la : Option Addr) (lc : Nat) (ol : OL h la lc (li L)) (ka : CK ua (Huf.cf (lA L))) (kb : CK ub (Huf.cf (lB L))) (na : ua.n = 265) (nb : ub.n = 8) :
    FC Tryz.prog 46 (#[.agg #[.pointer (some ⟨W.T, 0, none⟩), .pointer (some ⟨W.XA, 0, none⟩), .pointer (some ⟨W.XB, 0, none⟩), .pointer (some ⟨W.Z.m, 0, none⟩)], .slice la 273 lc] : Array Value) h fun rv h' => rv = .bool true ∧ Ext (fun _ => False) h h' := by
  obtain ⟨lb, lo, rfl, hlbl, hlat⟩ := ol.get (by rw [li_len]; omega)
  have hla : ∀ j, j < 273 → cellH h ⟨lb, lo + j, none⟩ = some (.int .i64 ((L.getD j 0 : Nat) : Int)) := fun j hj => by rw [hlat j (by rw [li_len]; omega), li_at]
  refine FC_of [(0, .agg #[.pointer (some ⟨W.T, 0, none⟩), .pointer (some ⟨W.XA, 0, none⟩), .pointer (some ⟨W.XB, 0, none⟩), .pointer (some ⟨W.Z.m, 0, none⟩)]), (1, .slice (some ⟨lb, lo, none⟩) 273 lc)] Tryz.func46 rfl Tryz.ntmps46 (by simp) rfl (fun R hR => ?_)
  refine V_sr T.mix (by kernel_rfl) (fun K1 hK1 => ?_)
  refine S_boxA rfl ?_
  generalize hh : Array.push h _ = h1
  have b1 : B h1 h.size #[.pointer (some ⟨W.T, 0, none⟩), .pointer (some ⟨W.XA, 0, none⟩), .pointer (some ⟨W.XB, 0, none⟩), .pointer (some ⟨W.Z.m, 0, none⟩)] 31 := by rw [← hh]; exact B.new _ _ _
  have hEh1 : Ext (fun _ => False) h h1 := by rw [← hh]; exact Ext.push _ _ _
  clear hh
  try clear q0 q1 q2 q3
  obtain ⟨q0, q1, q2, q3⟩ := bq (b1)
  have hla2 : ∀ j, j < 273 → cellH h1 ⟨lb, lo + j, none⟩ = some (.int .i64 ((L.getD j 0 : Nat) : Int)) := fun j hj => by rw [cell_ext hEh1 hlbl (fun f => f)]; exact hla j hj
  have w1 := ws.new hEh1
  refine S_as rfl ?_
  refine S_nil (hK1 _ _ (V_keep [1, 2] (by simp only [proj, lk, reduceIte, Nat.reduceEqDiff]; rfl) ?_)); clear hK1
  refine V_seq (fun K2 hK2 => ?_)
  refine V_sr T.mix (by kernel_rfl) (fun K3 hK3 => ?_)
  refine S_as rfl ?_
  refine S_nil (hK3 _ _ (V_keep [1, 2, 5] (by simp only [proj, lk, reduceIte, Nat.reduceEqDiff]; rfl) ?_)); clear hK3
  refine V_block ?_
  refine V_loop (fun m l h' => ∃ (s_ : Nat), (s_ ≤ 265) ∧ m = 265 - s_ ∧ l = [(1, .slice (some ⟨lb, lo, none⟩) 273 lc), (2, .pointer (some ⟨h.size, 0, none⟩)), (5, .int .i64 (s_ : Int))] ∧ h1 = h') _ ⟨0, Nat.zero_le _, rfl, rfl, rfl⟩ ?_
  rintro m l h' ⟨s_, hs, rfl, rfl, rfl⟩ K4 hK4
  refine V_seq (fun K5 hK5 => ?_)
  refine V_sr T.mix (by kernel_rfl) (fun K6 hK6 => ?_)
  refine S_mv rfl ?_
  refine S_bin rfl rfl rfl ?_
  refine S_nil (hK6 _ _ (V_keep [1, 2, 5, 14] (by simp only [proj, lk, reduceIte, Nat.reduceEqDiff]; rfl) ?_)); clear hK6
  refine V_condp rfl (fun c155 => ?_) (fun c155 => ?_)
  · skip
    refine V_skipk [1, 2, 5] (by simp only [proj, lk, reduceIte, Nat.reduceEqDiff]; rfl) ?_
    refine hK5 _ _ ?_; clear hK5
    refine V_seq (fun K7 hK7 => ?_)
    refine V_block ?_
    refine V_sr T.mix (by kernel_rfl) (fun K8 hK8 => ?_)
    first | refine S_fa0 T.f31_1 rfl ?_ | refine S_fa T.f31_1 rfl ?_
    refine S_ldK T.ag28 rfl (fun K' hK' => ?_)
    simp (disch := omega) only [q0, q1, q2, q3, hla2, Nat.mul_one, Int.toNat_natCast, oP_some, Nat.add_zero]
    refine hK' _ ?_; clear hK' K'
    refine S_mv rfl ?_
    refine S_call T.hb79 rfl ?_
    have hcc := code_spec h1 W.XA ua w1.ca _ ka (s_ : Int)
    rw [na] at hcc
    have hc2 := cod2 (lf := Huf.cf (lA L)) (N := 265) (y := s_) (by omega)
    rw [cf_lA (by omega)] at hc2
    obtain ⟨q_, hq_⟩ : ∃ q_, q_ = codF (Huf.cf (lA L)) 265 (s_ : Int) := ⟨_, rfl⟩
    rw [← hq_] at hcc hc2
    refine FC.mono (hcc) ?_
    rintro v' h' ⟨rfl, rfl⟩
    unfold tri
    rw [hc2]
    refine S_mv rfl ?_
    refine S_ex rfl rfl ?_
    refine S_ex rfl rfl ?_
    refine S_ex rfl rfl ?_
    refine S_as rfl ?_
    refine S_as rfl ?_
    refine S_as rfl ?_
    refine S_nil (hK8 _ _ (V_keep [1, 2, 5, 7] (by simp only [proj, lk, reduceIte, Nat.reduceEqDiff]; rfl) ?_)); clear hK8
    refine V_sr T.mix (by kernel_rfl) (fun K9 hK9 => ?_)
    refine S_mv rfl ?_
    refine S_mv rfl ?_
    refine S_mv rfl ?_
    first | refine S_ixn T.el47 rfl rfl (by omega) ?_ | refine S_ix1 T.el47 rfl rfl (by omega) (by omega) ?_ | refine S_ix T.el47 rfl rfl (by omega) (by omega) ?_
    refine S_ldK T.ag3 rfl (fun K' hK' => ?_)
    simp (disch := omega) only [q0, q1, q2, q3, hla2, Nat.mul_one, Int.toNat_natCast, oP_some, Nat.add_zero]
    refine hK' _ ?_; clear hK' K'
    refine S_bin rfl rfl rfl ?_
    refine S_nil (hK9 _ _ (V_keep [1, 2, 5, 30] (by simp only [proj, lk, reduceIte, Nat.reduceEqDiff]; rfl) ?_)); clear hK9
    refine V_condp rfl (fun c157 => ?_) (fun c157 => ?_)
    · skip
      exfalso; exact c157 rfl
    · skip
      refine V_skipk [1, 2, 5] (by simp only [proj, lk, reduceIte, Nat.reduceEqDiff]; rfl) ?_
      refine hK7 _ _ ?_; clear hK7
      refine V_reg T.mix (by kernel_rfl) ?_
      refine S_mv rfl ?_
      first | refine S_add rfl rfl (by omega) (by omega) ?_ | refine S_bin rfl rfl rfl ?_
      refine S_as rfl ?_
      refine S_nilk [1, 2, 5] (by simp only [proj, lk, reduceIte, Nat.reduceEqDiff]; rfl) ?_
      exact hK4 _ _ ⟨_, by omega, s_ + 1, by omega, rfl, rfl, rfl⟩
  · skip
    refine V_exitk [1, 2] rfl (by simp only [proj, lk, reduceIte, Nat.reduceEqDiff]; rfl) ?_
    refine hK2 _ _ ?_; clear hK2
    refine V_seq (fun K10 hK10 => ?_)
    refine V_sr T.mix (by kernel_rfl) (fun K11 hK11 => ?_)
    refine S_as rfl ?_
    refine S_nil (hK11 _ _ (V_keep [1, 2, 9] (by simp only [proj, lk, reduceIte, Nat.reduceEqDiff]; rfl) ?_)); clear hK11
    refine V_block ?_
    refine V_loop (fun m l h' => ∃ (c : Nat), (c ≤ 8) ∧ m = 8 - c ∧ l = [(1, .slice (some ⟨lb, lo, none⟩) 273 lc), (2, .pointer (some ⟨h.size, 0, none⟩)), (9, .int .i64 (c : Int))] ∧ h1 = h') _ ⟨0, Nat.zero_le _, rfl, rfl, rfl⟩ ?_
    rintro m l h' ⟨c, hc, rfl, rfl, rfl⟩ K12 hK12
    refine V_seq (fun K13 hK13 => ?_)
    refine V_sr T.mix (by kernel_rfl) (fun K14 hK14 => ?_)
    refine S_mv rfl ?_
    refine S_bin rfl rfl rfl ?_
    refine S_nil (hK14 _ _ (V_keep [1, 2, 9, 32] (by simp only [proj, lk, reduceIte, Nat.reduceEqDiff]; rfl) ?_)); clear hK14
    refine V_condp rfl (fun c161 => ?_) (fun c161 => ?_)
    · skip
      refine V_skipk [1, 2, 9] (by simp only [proj, lk, reduceIte, Nat.reduceEqDiff]; rfl) ?_
      refine hK13 _ _ ?_; clear hK13
      refine V_seq (fun K15 hK15 => ?_)
      refine V_block ?_
      refine V_sr T.mix (by kernel_rfl) (fun K16 hK16 => ?_)
      first | refine S_fa0 T.f31_2 rfl ?_ | refine S_fa T.f31_2 rfl ?_
      refine S_ldK T.ag28 rfl (fun K' hK' => ?_)
      simp (disch := omega) only [q0, q1, q2, q3, hla2, Nat.mul_one, Int.toNat_natCast, oP_some, Nat.add_zero]
      refine hK' _ ?_; clear hK' K'
      refine S_mv rfl ?_
      refine S_call T.hb79 rfl ?_
      have hcc := code_spec h1 W.XB ub w1.cb _ kb (c : Int)
      rw [nb] at hcc
      have hc2 := cod2 (lf := Huf.cf (lB L)) (N := 8) (y := c) (by omega)
      rw [cf_lB] at hc2
      obtain ⟨q_, hq_⟩ : ∃ q_, q_ = codF (Huf.cf (lB L)) 8 (c : Int) := ⟨_, rfl⟩
      rw [← hq_] at hcc hc2
      refine FC.mono (hcc) ?_
      rintro v' h' ⟨rfl, rfl⟩
      unfold tri
      rw [hc2]
      refine S_mv rfl ?_
      refine S_ex rfl rfl ?_
      refine S_ex rfl rfl ?_
      refine S_ex rfl rfl ?_
      refine S_as rfl ?_
      refine S_as rfl ?_
      refine S_as rfl ?_
      refine S_nil (hK16 _ _ (V_keep [1, 2, 9, 11] (by simp only [proj, lk, reduceIte, Nat.reduceEqDiff]; rfl) ?_)); clear hK16
      refine V_sr T.mix (by kernel_rfl) (fun K17 hK17 => ?_)
      refine S_mv rfl ?_
      refine S_mv rfl ?_
      refine S_mv rfl ?_
      refine S_addN (265 + c) rfl rfl (by omega) (by omega) ?_
      first | refine S_ixn T.el47 rfl rfl (by omega) ?_ | refine S_ix1 T.el47 rfl rfl (by omega) (by omega) ?_ | refine S_ix T.el47 rfl rfl (by omega) (by omega) ?_
      refine S_ldK T.ag3 rfl (fun K' hK' => ?_)
      simp (disch := omega) only [q0, q1, q2, q3, hla2, Nat.mul_one, Int.toNat_natCast, oP_some, Nat.add_zero]
      refine hK' _ ?_; clear hK' K'
      refine S_bin rfl rfl rfl ?_
      refine S_nil (hK17 _ _ (V_keep [1, 2, 9, 49] (by simp only [proj, lk, reduceIte, Nat.reduceEqDiff]; rfl) ?_)); clear hK17
      refine V_condp rfl (fun c163 => ?_) (fun c163 => ?_)
      · skip
        exfalso; exact c163 rfl
      · skip
        refine V_skipk [1, 2, 9] (by simp only [proj, lk, reduceIte, Nat.reduceEqDiff]; rfl) ?_
        refine hK15 _ _ ?_; clear hK15
        refine V_reg T.mix (by kernel_rfl) ?_
        refine S_mv rfl ?_
        first | refine S_add rfl rfl (by omega) (by omega) ?_ | refine S_bin rfl rfl rfl ?_
        refine S_as rfl ?_
        refine S_nilk [1, 2, 9] (by simp only [proj, lk, reduceIte, Nat.reduceEqDiff]; rfl) ?_
        exact hK12 _ _ ⟨_, by omega, c + 1, by omega, rfl, rfl, rfl⟩
    · skip
      refine V_exitk [] rfl (by simp only [proj, lk, reduceIte, Nat.reduceEqDiff]; rfl) ?_
      refine hK10 _ _ ?_; clear hK10
      refine V_sr T.mix (by kernel_rfl) (fun K18 hK18 => ?_)
      refine S_as rfl ?_
      refine S_nil (hK18 _ _ (V_keep [4] (by simp only [proj, lk, reduceIte, Nat.reduceEqDiff]; rfl) ?_)); clear hK18
      refine V_ret ?_
      refine hR _ _ (ret1 rfl rfl ?_)
      exact ⟨rfl, hEh1⟩
end Go.Proofs.Qxb6500406aGreat
