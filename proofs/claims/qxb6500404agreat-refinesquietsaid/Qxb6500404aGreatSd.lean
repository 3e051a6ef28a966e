import Derived.Test.Qxb6500404aGreatSc
set_option linter.unusedVariables false
set_option linter.unusedSimpArgs false
namespace Go.Proofs.Qxb6500404aGreat
open Go.Eng Go.Bits Go.Blk HufW

theorem split4 {t : TS} {w : Nat} (hw : w ≤ 7) (e : skipE t ((4 + w : Nat) : Int) = 0) : skipE t 4 = 0 ∧ skipE (skipS t 4) (w : Int) = 0 ∧ skipS (skipS t 4) (w : Int) = skipS t ((4 + w : Nat) : Int) ∧ takeV t 4 = takeV t ((4 + w : Nat) : Int) % 16 ∧ takeV (skipS t 4) (w : Int) = takeV t ((4 + w : Nat) : Int) / 16 := by
  have hn : t.p + 4 + w ≤ t.n := by
    unfold skipE at e
    split at e
    · cases e
    · split at e
      · cases e
      · omega
  have e4 : skipE t 4 = 0 := by unfold skipE; rw [if_neg (by omega), if_neg (by omega)]
  have es : skipS t 4 = ⟨t.N, t.n, t.p + 4⟩ := by unfold skipS; rw [if_pos e4]; rfl
  have ew : skipE (skipS t 4) (w : Int) = 0 := by rw [es]; unfold skipE; rw [if_neg (by omega), if_neg (by simp only []; omega)]
  refine ⟨e4, ew, ?_, ?_, ?_⟩
  · have e2 : skipE ⟨t.N, t.n, t.p + 4⟩ (w : Int) = 0 := by rw [← es]; exact ew
    rw [es]; unfold skipS; rw [if_pos e, if_pos e2, Int.toNat_natCast, Int.toNat_natCast, Nat.add_assoc]
  · unfold takeV; rw [if_pos e, if_pos e4, Int.toNat_natCast, show (4 : Int).toNat = 4 from rfl]; unfold peekN
    rw [show (16 : Nat) = 2 ^ 4 from rfl, Nat.mod_mod_of_dvd _ (Nat.pow_dvd_pow 2 (by omega))]
  · unfold takeV; rw [if_pos e, if_pos ew, es, Int.toNat_natCast, Int.toNat_natCast]; unfold peekN; simp only []
    refine Nat.eq_of_testBit_eq fun j => ?_
    rw [show (16 : Nat) = 2 ^ 4 from rfl, Nat.testBit_mod_two_pow, Go.Bits.div_bit, Go.Bits.div_bit, Nat.testBit_mod_two_pow, Go.Bits.div_bit]
    by_cases hj : j < w
    · simp [hj, show 4 + j < 4 + w by omega, Nat.add_assoc]
    · simp [hj, show ¬ 4 + j < 4 + w by omega]
section mi
variable {raw : ByteArray} {r : SR} {out : List Int} {sent : Nat} {s : TS} {ua ub : HC} {fa fb : Nat → Nat}
theorem MI.gone (m : MI raw r out sent s ua ub fa fb) (hp : r.ph = 4) (e : skipE s 4 = 0) (h : takeV s 4 ≤ 10) : Gx (fun t => lsD r.fi r.hd (ra r.ix r.ls ++ [takeV s 4]) t out) (skipS s 4) := by
  have g := m.gx
  rw [rs4 hp] at g
  have hix := m.ix hp
  exact g.take (k := 4) (by rw [c4]; exact e) (fun t ht h8 h9 h10 h11 => by
    rw [c4] at h9 h10 ⊢
    rw [ls_one (by rw [ra_len]; exact hix) h9 (by rw [h10]; exact h), h10])
theorem MI.grun (m : MI raw r out sent s ua ub fa fb) {w x val : Nat} (hp : r.ph = 4) (hw : w = mr (takeV s 4)) (e : skipE s ((4 + w : Nat) : Int) = 0) (h1 : ¬ takeV s 4 ≤ 10) (h2 : ¬ 12 < takeV s 4) (h3 : ¬ (takeV s 4 = 12 ∧ r.ix = 0)) (hx : x = takeV (skipS s 4) (w : Int)) (h4 : ¬ 273 < r.ix + 3 + x) (hv : val = if takeV s 4 = 12 then r.ls (r.ix - 1) else 0) : Gx (fun t => lsD r.fi r.hd (ra r.ix r.ls ++ List.replicate (3 + x) val) t out) (skipS s ((4 + w : Nat) : Int)) := by
  have g := m.gx
  rw [rs4 hp] at g
  have hix := m.ix hp
  have hw7 : w ≤ 7 := by rw [hw]; exact mr_le _
  obtain ⟨a1, a2, a3, a4, a5⟩ := split4 hw7 e
  refine g.take (k := 4 + w) e (fun t ht h8 h9 h10 h11 => ?_)
  obtain ⟨b1, b2, b3, b4, b5⟩ := split4 hw7 h9
  have ht4 : takeV t 4 = takeV s 4 := by rw [b4, a4, h10]
  have hmr : mr (takeV t 4) = w := by rw [ht4, hw]
  have htx : takeV (skipS t 4) (w : Int) = x := by rw [b5, hx, a5, h10]
  have hl := ra_len r.ix r.ls
  have := ls_run (fin := r.fi) (head := r.hd) (l := ra r.ix r.ls) (s := t) (out := out) (by rw [hl]; exact hix) b1 (by rw [ht4]; exact h1) (by rw [ht4]; exact h2) (by rw [hmr]; exact b2) (by rw [ht4, hl]; exact h3) (by rw [hmr, htx, hl]; exact h4)
  rw [this, hmr, htx, b3, ht4, hl]
  congr 2
  rw [hv]
  by_cases q : takeV s 4 = 12
  · rw [if_pos q, if_pos q, ra_at (by omega)]
  · rw [if_neg q, if_neg q]
theorem MI.full2 (m : MI raw r out sent s ua ub fa fb) {s1 : TS} {r1 r9 : SR} {va vb : HC} {e : Nat} {B : Nat → Nat} {l : List Nat} (hl : l = ra 273 B) (hB : r1.ls = B) (qe : e = coE l) (qr : r9 = { r1 with at_ := r1.hd, held := false, ph := if coE l = 0 then 5 else r1.ph }) (hp : r.ph = 4) (had : Ad s s1) (ho : OK s1) (hlt : s.p < s1.p) (h1 : r1.tt = r.tt) (h2 : r1.w = r.w) (h3 : r1.fl = r.fl) (h4 : r1.n = r.n) (h5 : r1.rg = r.rg) (h6 : r1.bf = r.bf) (h7 : r1.fed = r.fed) (h8 : ∀ j, j < 273 → B j ≤ 10) (h10 : r1.hd = r.hd) (h11 : r1.fi = r.fi) (h13 : r1.ph = 4)
    (g : Gx (fun t => lsD r.fi r.hd l t out) s1) (hk : coE l = 0 → CK va (Huf.cf (lA l)) ∧ va.n = 265 ∧ CK vb (Huf.cf (lB l)) ∧ vb.n = 8) (hbt : ua.n = 265 ∧ ub.n = 8 → va.n = 265 ∧ vb.n = 8) : TPo raw r out sent s e r9 out s1 va vb := by
  subst hB
  subst hl
  rw [qe, qr]
  exact m.full hp had ho hlt h1 h2 h3 h4 h5 h6 h7 h8 h10 h11 h13 g hk hbt
end mi
set_option maxHeartbeats 400000 in
theorem listend_spec (h : Heap) (W : SA) (r : SR) (s : TS) (ua ub : HC) (sw : SW h W r s ua ub) :
    FC Tryz.prog 174 (#[.pointer (some ⟨W.D, 0, none⟩)] : Array Value) h fun rv h' => ∃ e r' va vb, rv = .int .i64 ((e : Nat) : Int) ∧ SW h' W r' s va vb ∧ ((r.ix < 273 ∧ e = 0 ∧ r' = r ∧ va = ua ∧ vb = ub) ∨ (¬ r.ix < 273 ∧ e = coE (ra 273 r.ls) ∧ r' = { r with at_ := r.hd, held := false, ph := if coE (ra 273 r.ls) = 0 then 5 else r.ph } ∧ (coE (ra 273 r.ls) = 0 → CK va (Huf.cf (lA (ra 273 r.ls))) ∧ va.n = 265 ∧ CK vb (Huf.cf (lB (ra 273 r.ls))) ∧ vb.n = 8) ∧ (ua.n = 265 ∧ ub.n = 8 → va.n = 265 ∧ vb.n = 8))) ∧ Ext (WTs W) h h' := by
  try clear q0 q1 q2 q3 q4 q5 q6 q7 q8 q9 q10 q11 q12 q13 q14 q15 q16 q17 q18 q19 q20 dok
  obtain ⟨q0, q1, q2, q3, q4, q5, q6, q7, q8, q9, q10, q11, q12, q13, q14, q15, q16, q17, q18, q19, q20⟩ := dq (sw.x)
  have dok := dok_ (sw.x)
  try simp only [] at q0 q1 q2 q3 q4 q5 q6 q7 q8 q9 q10 q11 q12 q13 q14 q15 q16 q17 q18 q19 q20
  refine FC_of [(0, .pointer (some ⟨W.D, 0, none⟩))] Tryz.func174 rfl Tryz.ntmps174 (by simp) rfl (fun R hR => ?_)
  refine V_sr T.mix (by kernel_rfl) (fun K1 hK1 => ?_)
  refine S_as rfl ?_
  refine S_nil (hK1 _ _ (V_keep [0] (by simp only [proj, lk, reduceIte, Nat.reduceEqDiff]; rfl) ?_)); clear hK1
  refine V_seq (fun K2 hK2 => ?_)
  refine V_sr T.mix (by kernel_rfl) (fun K3 hK3 => ?_)
  refine S_mv rfl ?_
  refine S_nc rfl ?_
  first | refine S_fa0 T.f77_10 rfl ?_ | refine S_fa T.f77_10 rfl ?_
  refine S_ldK T.ag3 rfl (fun K' hK' => ?_)
  simp (disch := omega) only [q0, q1, q2, q3, q4, q5, q6, q7, q8, q9, q10, q11, q12, q13, q14, q15, q16, q17, q18, q19, q20, oP_some, Nat.add_zero]
  refine hK' _ ?_; clear hK' K'
  refine S_mv rfl ?_
  refine S_nc rfl ?_
  first | refine S_fa0 T.f77_9 rfl ?_ | refine S_fa T.f77_9 rfl ?_
  refine S_ldK T.ag56 rfl (fun K' hK' => ?_)
  simp (disch := omega) only [q0, q1, q2, q3, q4, q5, q6, q7, q8, q9, q10, q11, q12, q13, q14, q15, q16, q17, q18, q19, q20, oP_some, Nat.add_zero]
  refine hK' _ ?_; clear hK' K'
  refine S_lenl T.el56 rfl ?_
  refine S_bin rfl rfl rfl ?_
  refine S_nil (hK3 _ _ (V_keep [0, 12] (by simp only [proj, lk, reduceIte, Nat.reduceEqDiff]; rfl) ?_)); clear hK3
  refine V_condp rfl (fun c53 => ?_) (fun c53 => ?_)
  · skip
    refine V_sr T.mix (by kernel_rfl) (fun K4 hK4 => ?_)
    refine S_as rfl ?_
    refine S_nil (hK4 _ _ (V_keep [2] (by simp only [proj, lk, reduceIte, Nat.reduceEqDiff]; rfl) ?_)); clear hK4
    refine V_ret ?_
    refine hR _ _ (ret1 rfl rfl ?_)
    exact ⟨0, r, ua, ub, rfl, sw, .inl ⟨by omega, rfl, rfl, rfl, rfl⟩, Ext.refl _ _⟩
  · skip
    refine V_skipk [0] (by simp only [proj, lk, reduceIte, Nat.reduceEqDiff]; rfl) ?_
    refine hK2 _ _ ?_; clear hK2
    refine V_sr T.mix (by kernel_rfl) (fun K5 hK5 => ?_)
    refine S_mv rfl ?_
    refine S_call T.hb169 rfl ?_
    refine FC.mono (sets_spec h W r s ua ub sw) ?_
    rintro v' h1 ⟨va, vb, rfl, sw1, hk1, hb1, hE1⟩
    refine S_as rfl ?_
    refine S_nil (hK5 _ _ (V_keep [2] (by simp only [proj, lk, reduceIte, Nat.reduceEqDiff]; rfl) ?_)); clear hK5
    refine V_ret ?_
    refine hR _ _ (ret1 rfl rfl ?_)
    exact ⟨_, _, va, vb, rfl, sw1, .inr ⟨by omega, rfl, rfl, hk1, hb1⟩, hE1⟩
set_option maxHeartbeats 3200000 in
theorem turnlist_spec (h : Heap) (W : SA) (r : SR) (s : TS) (ua ub : HC) (sw : SW h W r s ua ub) (raw : ByteArray) (out : List Int) (sent : Nat) (fa fb : Nat → Nat) (m : MI raw r out sent s ua ub fa fb) (hp : r.ph = 4) :
    FC Tryz.prog 144 (#[.pointer (some ⟨W.D, 0, none⟩)] : Array Value) h fun rv h' => ∃ e r' out' s' va vb, rv = .int .i64 ((e : Nat) : Int) ∧ SW h' W r' s' va vb ∧ TPo raw r out sent s e r' out' s' va vb ∧ Ext (WTs W) h h' ∧ ∃ x, out' = out ++ x := by
  try clear q0 q1 q2 q3 q4 q5 q6 q7 q8 q9 q10 q11 q12 q13 q14 q15 q16 q17 q18 q19 q20 dok
  obtain ⟨q0, q1, q2, q3, q4, q5, q6, q7, q8, q9, q10, q11, q12, q13, q14, q15, q16, q17, q18, q19, q20⟩ := dq (sw.x)
  have dok := dok_ (sw.x)
  try simp only [] at q0 q1 q2 q3 q4 q5 q6 q7 q8 q9 q10 q11 q12 q13 q14 q15 q16 q17 q18 q19 q20
  have hix := m.ix hp
  have al := ia_at sw.l
  have lok := ia_ok sw.l
  have hl := ra_len r.ix r.ls
  refine FC_of [(0, .pointer (some ⟨W.D, 0, none⟩))] Tryz.func144 rfl Tryz.ntmps144 (by simp) rfl (fun R hR => ?_)
  refine V_sr T.mix (by kernel_rfl) (fun K1 hK1 => ?_)
  refine S_as rfl ?_
  refine S_nil (hK1 _ _ (V_keep [0] (by simp only [proj, lk, reduceIte, Nat.reduceEqDiff]; rfl) ?_)); clear hK1
  refine V_sr T.mix (by kernel_rfl) (fun K2 hK2 => ?_)
  refine S_mv rfl ?_
  refine S_mv rfl ?_
  refine S_nc rfl ?_
  first | refine S_fa0 T.f77_0 rfl ?_ | refine S_fa T.f77_0 rfl ?_
  refine S_ldK T.ag47 rfl (fun K' hK' => ?_)
  simp (disch := omega) only [q0, q1, q2, q3, q4, q5, q6, q7, q8, q9, q10, q11, q12, q13, q14, q15, q16, q17, q18, q19, q20, al, oP_some, Nat.add_zero]
  refine hK' _ ?_; clear hK' K'
  refine S_call T.hb148 rfl ?_
  refine FC.mono (BitW.pos_spec h W.T W.tb s sw.rt) ?_
  rintro v' h' ⟨rfl, rfl⟩
  refine S_nc rfl ?_
  first | refine S_fa0 T.f77_6 rfl ?_ | refine S_fa T.f77_6 rfl ?_
  refine S_st T.sz3 rfl rfl rfl rfl (by simp (disch := omega) only [dok]) ?_
  generalize hh : putH _ _ _ = h1
  have sw1 := sw.sx (h' := h1) (r' := { r with at_ := s.p }) (by rw [← hh]; exact (sw.x.put 6 _).cong (by simp [dcs])) (by rw [← hh]; exact Ext.put _ _ rfl) rfl rfl rfl
  have hEh1 : Ext (WTs W) h h1 := by rw [← hh]; exact Ext.put _ _ wd0
  clear hh
  try clear q0 q1 q2 q3 q4 q5 q6 q7 q8 q9 q10 q11 q12 q13 q14 q15 q16 q17 q18 q19 q20 dok
  obtain ⟨q0, q1, q2, q3, q4, q5, q6, q7, q8, q9, q10, q11, q12, q13, q14, q15, q16, q17, q18, q19, q20⟩ := dq (sw1.x)
  have dok := dok_ (sw1.x)
  try simp only [] at q0 q1 q2 q3 q4 q5 q6 q7 q8 q9 q10 q11 q12 q13 q14 q15 q16 q17 q18 q19 q20
  clear al
  have al := ia_at sw1.l
  simp only [] at al
  refine S_nil (hK2 _ _ (V_keep [0] (by simp only [proj, lk, reduceIte, Nat.reduceEqDiff]; rfl) ?_)); clear hK2
  refine V_sr T.mix (by kernel_rfl) (fun K3 hK3 => ?_)
  refine S_mv rfl ?_
  refine S_nc rfl ?_
  first | refine S_fa0 T.f77_0 rfl ?_ | refine S_fa T.f77_0 rfl ?_
  refine S_ldK T.ag47 rfl (fun K' hK' => ?_)
  simp (disch := omega) only [q0, q1, q2, q3, q4, q5, q6, q7, q8, q9, q10, q11, q12, q13, q14, q15, q16, q17, q18, q19, q20, al, oP_some, Nat.add_zero]
  refine hK' _ ?_; clear hK' K'
  refine S_call T.hb172 rfl ?_
  refine FC.mono (BitW.peek_spec h1 W.T W.tb s sw1.rt 11) ?_
  have hpl := pk_lt s
  obtain ⟨v, hv_⟩ : ∃ v, v = peekV s 11 := ⟨_, rfl⟩
  obtain ⟨got, hgot⟩ : ∃ g, g = gotF s 11 := ⟨_, rfl⟩
  have hg11 : got ≤ 11 := by rw [hgot, got11]; omega
  rw [← hv_] at hpl ⊢
  rw [← hgot]
  rintro v' h' ⟨rfl, rfl⟩
  refine S_mv rfl ?_
  refine S_ex rfl rfl ?_
  refine S_ex rfl rfl ?_
  refine S_as rfl ?_
  refine S_as rfl ?_
  refine S_nil (hK3 _ _ (V_keep [0, 3, 4] (by simp only [proj, lk, reduceIte, Nat.reduceEqDiff]; rfl) ?_)); clear hK3
  refine V_seq (fun K4 hK4 => ?_)
  refine V_sr T.mix (by kernel_rfl) (fun K5 hK5 => ?_)
  refine S_mv rfl ?_
  refine S_bin rfl rfl rfl ?_
  refine S_nil (hK5 _ _ (V_keep [0, 3, 4, 27] (by simp only [proj, lk, reduceIte, Nat.reduceEqDiff]; rfl) ?_)); clear hK5
  refine V_condp rfl (fun c12 => ?_) (fun c12 => ?_)
  · skip
    have he4 : skipE s 4 = 4 := look_no (by omega)
    refine V_sr T.mix (by kernel_rfl) (fun K6 hK6 => ?_)
    refine S_as rfl ?_
    refine S_nil (hK6 _ _ (V_keep [2] (by simp only [proj, lk, reduceIte, Nat.reduceEqDiff]; rfl) ?_)); clear hK6
    refine V_ret ?_
    refine hR _ _ (ret1 rfl rfl ?_)
    exact ⟨4, _, out, _, _, _, rfl, sw1, m.no (e := 4) (a := s.p) (s' := s) (x := s) (by omega) (Nat.le_refl _) (.inl (by omega)) (by rw [rs4 hp]; simp only []; rw [ls_no4 (by rw [hl]; exact hix) (by omega), he4]) (fun _ => rfl) (Ad.refl _) m.w.ok, hEh1, by first | exact ⟨[], (List.append_nil _).symm⟩ | exact ⟨_, rfl⟩ | exact cpy_pre _ _ _⟩
  · skip
    obtain ⟨it, hit0⟩ : ∃ it, it = takeV s 4 := ⟨_, rfl⟩
    have hit := look4 (s := s) (by omega)
    rw [← hv_, ← hit0] at hit
    refine V_skipk [0, 3, 4] (by simp only [proj, lk, reduceIte, Nat.reduceEqDiff]; rfl) ?_
    refine hK4 _ _ ?_; clear hK4
    refine V_sr T.mix (by kernel_rfl) (fun K7 hK7 => ?_)
    refine S_mv rfl ?_
    refine S_nand v 15 it rfl rfl rfl rfl (by rw [and15]; exact hit.2) (BitW.top_i64 (by omega)) (BitW.top_i64 (by decide)) ?_
    refine S_as rfl ?_
    refine S_nil (hK7 _ _ (V_keep [0, 3, 4, 5] (by simp only [proj, lk, reduceIte, Nat.reduceEqDiff]; rfl) ?_)); clear hK7
    refine V_seq (fun K8 hK8 => ?_)
    refine V_sr T.mix (by kernel_rfl) (fun K9 hK9 => ?_)
    refine S_mv rfl ?_
    refine S_bin rfl rfl rfl ?_
    refine S_nil (hK9 _ _ (V_keep [0, 3, 4, 5, 31] (by simp only [proj, lk, reduceIte, Nat.reduceEqDiff]; rfl) ?_)); clear hK9
    refine V_condp rfl (fun c16 => ?_) (fun c16 => ?_)
    · skip
      have hi10 : it ≤ 10 := by omega
      refine V_sr T.mix (by kernel_rfl) (fun K10 hK10 => ?_)
      refine S_mv rfl ?_
      refine S_nc rfl ?_
      first | refine S_fa0 T.f77_0 rfl ?_ | refine S_fa T.f77_0 rfl ?_
      refine S_ldK T.ag47 rfl (fun K' hK' => ?_)
      simp (disch := omega) only [q0, q1, q2, q3, q4, q5, q6, q7, q8, q9, q10, q11, q12, q13, q14, q15, q16, q17, q18, q19, q20, al, oP_some, Nat.add_zero]
      refine hK' _ ?_; clear hK' K'
      refine S_call T.hb173 rfl ?_
      refine FC.mono (BitW.skip_spec h1 W.T W.tb s sw1.rt (4)) ?_
      rintro v' h2 ⟨rfl, rtb, hXb⟩
      obtain ⟨sb, hsb⟩ : ∃ x, x = skipS s (4) := ⟨_, rfl⟩
      rw [← hsb] at rtb
      have sw2 := sw1.st rtb hXb
      have hEh2 : Ext (WTs W) h1 h2 := hXb.mono fun _ e => wsT e
      try clear q0 q1 q2 q3 q4 q5 q6 q7 q8 q9 q10 q11 q12 q13 q14 q15 q16 q17 q18 q19 q20 dok
      obtain ⟨q0, q1, q2, q3, q4, q5, q6, q7, q8, q9, q10, q11, q12, q13, q14, q15, q16, q17, q18, q19, q20⟩ := dq (sw2.x)
      have dok := dok_ (sw2.x)
      try simp only [] at q0 q1 q2 q3 q4 q5 q6 q7 q8 q9 q10 q11 q12 q13 q14 q15 q16 q17 q18 q19 q20
      clear lok
      have lok := ia_ok sw2.l
      refine S_nil (hK10 _ _ (V_keep [0, 5] (by simp only [proj, lk, reduceIte, Nat.reduceEqDiff]; rfl) ?_)); clear hK10
      refine V_sr T.mix (by kernel_rfl) (fun K11 hK11 => ?_)
      refine S_mv rfl ?_
      refine S_nc rfl ?_
      first | refine S_fa0 T.f77_9 rfl ?_ | refine S_fa T.f77_9 rfl ?_
      refine S_ldK T.ag56 rfl (fun K' hK' => ?_)
      simp (disch := omega) only [q0, q1, q2, q3, q4, q5, q6, q7, q8, q9, q10, q11, q12, q13, q14, q15, q16, q17, q18, q19, q20, al, oP_some, Nat.add_zero]
      refine hK' _ ?_; clear hK' K'
      refine S_mv rfl ?_
      refine S_nc rfl ?_
      first | refine S_fa0 T.f77_10 rfl ?_ | refine S_fa T.f77_10 rfl ?_
      refine S_ldK T.ag3 rfl (fun K' hK' => ?_)
      simp (disch := omega) only [q0, q1, q2, q3, q4, q5, q6, q7, q8, q9, q10, q11, q12, q13, q14, q15, q16, q17, q18, q19, q20, al, oP_some, Nat.add_zero]
      refine hK' _ ?_; clear hK' K'
      refine S_mv rfl ?_
      first | refine S_ixn T.el56 rfl rfl (by omega) ?_ | refine S_ix1 T.el56 rfl rfl (by omega) (by omega) ?_ | refine S_ix T.el56 rfl rfl (by omega) (by omega) ?_
      refine S_st T.sz3 rfl rfl rfl rfl (by simp (disch := omega) only [lok]) ?_
      generalize hh : putH _ _ _ = h3
      have sw3 := sw2.sl (h' := h3) (by rw [← hh]; exact ia_put sw2.l (r.ix) (it)) (by rw [← hh]; exact Ext.put _ _ rfl)
      have hEh3 : Ext (WTs W) h2 h3 := by rw [← hh]; exact Ext.put _ _ (wd (by omega))
      clear hh
      try clear q0 q1 q2 q3 q4 q5 q6 q7 q8 q9 q10 q11 q12 q13 q14 q15 q16 q17 q18 q19 q20 dok
      obtain ⟨q0, q1, q2, q3, q4, q5, q6, q7, q8, q9, q10, q11, q12, q13, q14, q15, q16, q17, q18, q19, q20⟩ := dq (sw3.x)
      have dok := dok_ (sw3.x)
      try simp only [] at q0 q1 q2 q3 q4 q5 q6 q7 q8 q9 q10 q11 q12 q13 q14 q15 q16 q17 q18 q19 q20
      refine S_nil (hK11 _ _ (V_keep [0] (by simp only [proj, lk, reduceIte, Nat.reduceEqDiff]; rfl) ?_)); clear hK11
      refine V_sr T.mix (by kernel_rfl) (fun K12 hK12 => ?_)
      refine S_mv rfl ?_
      refine S_nc rfl ?_
      first | refine S_fa0 T.f77_10 rfl ?_ | refine S_fa T.f77_10 rfl ?_
      refine S_ldK T.ag3 rfl (fun K' hK' => ?_)
      simp (disch := omega) only [q0, q1, q2, q3, q4, q5, q6, q7, q8, q9, q10, q11, q12, q13, q14, q15, q16, q17, q18, q19, q20, al, oP_some, Nat.add_zero]
      refine hK' _ ?_; clear hK' K'
      refine S_addN (r.ix + 1) rfl rfl (by omega) (by omega) ?_
      refine S_nc rfl ?_
      first | refine S_fa0 T.f77_10 rfl ?_ | refine S_fa T.f77_10 rfl ?_
      refine S_st T.sz3 rfl rfl rfl rfl (by simp (disch := omega) only [dok]) ?_
      generalize hh : putH _ _ _ = h4
      have sw4 := sw3.sx (h' := h4) (r' := { { { r with at_ := s.p } with ls := Huf.ups r.ls r.ix it } with ix := r.ix + 1 }) (by rw [← hh]; exact (sw3.x.put 10 _).cong (by simp [dcs])) (by rw [← hh]; exact Ext.put _ _ rfl) rfl rfl rfl
      have hEh4 : Ext (WTs W) h3 h4 := by rw [← hh]; exact Ext.put _ _ wd0
      clear hh
      try clear q0 q1 q2 q3 q4 q5 q6 q7 q8 q9 q10 q11 q12 q13 q14 q15 q16 q17 q18 q19 q20 dok
      obtain ⟨q0, q1, q2, q3, q4, q5, q6, q7, q8, q9, q10, q11, q12, q13, q14, q15, q16, q17, q18, q19, q20⟩ := dq (sw4.x)
      have dok := dok_ (sw4.x)
      try simp only [] at q0 q1 q2 q3 q4 q5 q6 q7 q8 q9 q10 q11 q12 q13 q14 q15 q16 q17 q18 q19 q20
      refine S_nil (hK12 _ _ (V_keep [0] (by simp only [proj, lk, reduceIte, Nat.reduceEqDiff]; rfl) ?_)); clear hK12
      refine V_sr T.mix (by kernel_rfl) (fun K13 hK13 => ?_)
      refine S_mv rfl ?_
      refine S_call T.hb174 rfl ?_
      refine FC.mono (listend_spec h4 W _ _ ua ub sw4) ?_
      rintro v' h5 ⟨e9, r9, va, vb, rfl, sw9, hle, hE9⟩
      simp only [] at hle
      refine S_as rfl ?_
      refine S_nil (hK13 _ _ (V_keep [2] (by simp only [proj, lk, reduceIte, Nat.reduceEqDiff]; rfl) ?_)); clear hK13
      refine V_ret ?_
      refine hR _ _ (ret1 rfl rfl ?_)
      have hEx := ((hEh1.trans hEh2).trans hEh3).trans hEh4
      have p1 := skip_p (s := s) (k := 4) (by rw [c4]; exact hit.1)
      rw [c4, ← hsb] at p1
      have hl10 : ∀ j, j < 273 → Huf.ups r.ls r.ix it j ≤ 10 := fun j hj => by unfold Huf.ups; split; (exact hi10); (exact m.w.l10 j hj)
      have g := m.gone hp hit.1 (by rw [← hit0]; exact hi10)
      rw [← hit0, ← hsb, ← ra_ups] at g
      rcases hle with ⟨q1, qe, qr, qa, qb⟩ | ⟨q1, qe, qr, q4, q5⟩
      · exact ⟨e9, r9, out, _, va, vb, rfl, sw9, by rw [qe, qr, qa, qb]; exact m.item (r1 := { { { r with at_ := s.p } with ls := Huf.ups r.ls r.ix it } with ix := r.ix + 1 }) hp (ad_of hsb) (ok_of hsb m.w.ok) (by omega) rfl rfl rfl rfl rfl rfl rfl hl10 rfl rfl rfl rfl hp q1 (g), hEx.trans hE9, by first | exact ⟨[], (List.append_nil _).symm⟩ | exact ⟨_, rfl⟩ | exact cpy_pre _ _ _⟩
      · have hix3 : r.ix + 1 = 273 := by omega
        have h9 := g
        rw [hix3] at h9
        obtain ⟨LX, hLX⟩ : ∃ x, x = ra 273 (Huf.ups r.ls r.ix it) := ⟨_, rfl⟩
        rw [← hLX] at h9 qe qr q4
        have z9 := m.full2 (B := Huf.ups r.ls r.ix it) (r1 := ({ { { r with at_ := s.p } with ls := Huf.ups r.ls r.ix it } with ix := r.ix + 1 } : SR)) (l := LX) (va := va) (vb := vb) (e := e9) (r9 := r9) hLX rfl qe qr hp (ad_of hsb) (ok_of hsb m.w.ok) (by omega) rfl rfl rfl rfl rfl rfl rfl hl10 rfl rfl hp h9 q4 q5
        exact ⟨e9, r9, out, _, va, vb, rfl, sw9, z9, hEx.trans hE9, by first | exact ⟨[], (List.append_nil _).symm⟩ | exact ⟨_, rfl⟩ | exact cpy_pre _ _ _⟩
    · skip
      refine V_skipk [0, 3, 4, 5] (by simp only [proj, lk, reduceIte, Nat.reduceEqDiff]; rfl) ?_
      refine hK8 _ _ ?_; clear hK8
      refine V_seq (fun K14 hK14 => ?_)
      refine V_sr T.mix (by kernel_rfl) (fun K15 hK15 => ?_)
      refine S_mv rfl ?_
      refine S_bin rfl rfl rfl ?_
      refine S_nil (hK15 _ _ (V_keep [0, 3, 4, 5, 57] (by simp only [proj, lk, reduceIte, Nat.reduceEqDiff]; rfl) ?_)); clear hK15
      refine V_condp rfl (fun c22 => ?_) (fun c22 => ?_)
      · skip
        refine V_sr T.mix (by kernel_rfl) (fun K16 hK16 => ?_)
        refine S_as rfl ?_
        refine S_nil (hK16 _ _ (V_keep [2] (by simp only [proj, lk, reduceIte, Nat.reduceEqDiff]; rfl) ?_)); clear hK16
        refine V_ret ?_
        refine hR _ _ (ret1 rfl rfl ?_)
        exact ⟨8, _, out, _, _, _, rfl, sw1, m.no (e := 8) (a := s.p) (s' := s) (x := skipS s 4) (by omega) (Nat.le_refl _) (.inl (by omega)) (by rw [rs4 hp]; simp only []; rw [ls_sym (by rw [hl]; exact hix) hit.1 (by omega)]) (fun _ => rfl) (Ad.refl _) m.w.ok, hEh1, by first | exact ⟨[], (List.append_nil _).symm⟩ | exact ⟨_, rfl⟩ | exact cpy_pre _ _ _⟩
      · skip
        refine V_skipk [0, 3, 4, 5] (by simp only [proj, lk, reduceIte, Nat.reduceEqDiff]; rfl) ?_
        refine hK14 _ _ ?_; clear hK14
        refine V_sr T.mix (by kernel_rfl) (fun K17 hK17 => ?_)
        refine S_as rfl ?_
        refine S_nil (hK17 _ _ (V_keep [0, 3, 4, 5, 6] (by simp only [proj, lk, reduceIte, Nat.reduceEqDiff]; rfl) ?_)); clear hK17
        refine V_seqJ (fun l h' => ∃ (wd_ : Nat), (wd_ = mr it) ∧ (wd_ ≤ 7) ∧ l = [(0, .pointer (some ⟨W.D, 0, none⟩)), (3, .int .i64 (v : Int)), (4, .int .i64 (got : Int)), (5, .int .i64 (it : Int)), (6, .int .i64 (wd_ : Int))] ∧ h1 = h') ?_ ?_
        · skip
          refine V_sr T.mix (by kernel_rfl) (fun K19 hK19 => ?_)
          refine S_mv rfl ?_
          refine S_bin rfl rfl rfl ?_
          refine S_nil (hK19 _ _ (V_keep [0, 3, 4, 5, 6, 59] (by simp only [proj, lk, reduceIte, Nat.reduceEqDiff]; rfl) ?_)); clear hK19
          refine V_condp rfl (fun c26 => ?_) (fun c26 => ?_)
          · skip
            refine V_reg T.mix (by kernel_rfl) ?_
            refine S_as rfl ?_
            refine S_nilk [0, 3, 4, 5, 6] (by simp only [proj, lk, reduceIte, Nat.reduceEqDiff]; rfl) ?_
            exact ⟨2, by unfold mr; rw [if_pos (by omega)], by omega, rfl, rfl⟩
          · skip
            refine V_skipk [0, 3, 4, 5, 6] (by simp only [proj, lk, reduceIte, Nat.reduceEqDiff]; rfl) ?_
            exact ⟨7, by unfold mr; rw [if_neg (by omega)], by omega, rfl, rfl⟩
        rintro l h' ⟨wd_, hwd, hw7, rfl, rfl⟩
        refine V_seq (fun K20 hK20 => ?_)
        refine V_sr T.mix (by kernel_rfl) (fun K21 hK21 => ?_)
        refine S_mv rfl ?_
        refine S_mv rfl ?_
        refine S_addN (4 + wd_) rfl rfl (by omega) (by omega) ?_
        refine S_bin rfl rfl rfl ?_
        refine S_nil (hK21 _ _ (V_keep [0, 3, 5, 6, 63] (by simp only [proj, lk, reduceIte, Nat.reduceEqDiff]; rfl) ?_)); clear hK21
        refine V_condp rfl (fun c29 => ?_) (fun c29 => ?_)
        · skip
          refine V_sr T.mix (by kernel_rfl) (fun K22 hK22 => ?_)
          refine S_as rfl ?_
          refine S_nil (hK22 _ _ (V_keep [2] (by simp only [proj, lk, reduceIte, Nat.reduceEqDiff]; rfl) ?_)); clear hK22
          refine V_ret ?_
          refine hR _ _ (ret1 rfl rfl ?_)
          have he5 := lookw_no (s := s) (w := wd_) hw7 (by omega) (by omega)
          rw [hwd, hit0] at he5
          exact ⟨4, _, out, _, _, _, rfl, sw1, m.no (e := 4) (a := s.p) (s' := s) (x := skipS s 4) (by omega) (Nat.le_refl _) (.inl (by omega)) (by rw [rs4 hp]; simp only []; rw [ls_no (by rw [hl]; exact hix) hit.1 (by omega) (by omega) (by omega), he5]) (fun _ => rfl) (Ad.refl _) m.w.ok, hEh1, by first | exact ⟨[], (List.append_nil _).symm⟩ | exact ⟨_, rfl⟩ | exact cpy_pre _ _ _⟩
        · skip
          refine V_skipk [0, 3, 5, 6] (by simp only [proj, lk, reduceIte, Nat.reduceEqDiff]; rfl) ?_
          refine hK20 _ _ ?_; clear hK20
          refine V_sr T.mix (by kernel_rfl) (fun K23 hK23 => ?_)
          refine S_mv rfl ?_
          refine S_nshr v 4 (v / 16) rfl rfl rfl rfl (by rw [show (16 : Nat) = 2 ^ 4 from rfl]) (by decide) ?_
          refine S_mv rfl ?_
          refine S_cvN wd_ T.us3 T.in105 rfl rfl (BitW.top_u64 (by omega)) ?_
          have hw27 : 2 ^ wd_ ≤ 2 ^ 7 := Nat.pow_le_pow_right (by omega) (by omega)
          have hw1 : 1 ≤ 2 ^ wd_ := Nat.one_le_two_pow
          refine S_nshl 1 wd_ (2 ^ wd_) rfl rfl rfl rfl (by rw [Nat.one_mul]) (by simp only [IntKind.bits]; omega) (BitW.top_i64 (by omega)) ?_
          refine S_subN (2 ^ wd_ - 1) rfl rfl (by omega) (by omega) ?_
          have hlx := (lookw (s := s) (w := wd_) (by omega) (by omega)).2.1
          rw [← hv_] at hlx
          obtain ⟨x, hx⟩ : ∃ x, x = takeV (skipS s 4) (wd_ : Int) := ⟨_, rfl⟩
          rw [← hx] at hlx
          have hx7 : x < 128 := by have h9 := take_lt (s := skipS s 4) (k := wd_) (by omega); rw [← hx] at h9; omega
          refine S_nand (v / 16) (2 ^ wd_ - 1) x rfl rfl rfl rfl (by rw [andw]; exact hlx) (BitW.top_i64 (by omega)) (BitW.top_i64 (by omega)) ?_
          refine S_addN (3 + x) rfl rfl (by omega) (by omega) ?_
          refine S_as rfl ?_
          refine S_nil (hK23 _ _ (V_keep [0, 5, 6, 7] (by simp only [proj, lk, reduceIte, Nat.reduceEqDiff]; rfl) ?_)); clear hK23
          refine V_sr T.mix (by kernel_rfl) (fun K24 hK24 => ?_)
          refine S_as rfl ?_
          refine S_nil (hK24 _ _ (V_keep [0, 5, 6, 7, 8] (by simp only [proj, lk, reduceIte, Nat.reduceEqDiff]; rfl) ?_)); clear hK24
          refine V_seqJ (fun l h' => ∃ (val : Nat), (val = if it = 12 then r.ls (r.ix - 1) else 0) ∧ (¬ (it = 12 ∧ r.ix = 0)) ∧ l = [(0, .pointer (some ⟨W.D, 0, none⟩)), (6, .int .i64 (wd_ : Int)), (7, .int .i64 ((3 + x : Nat) : Int)), (8, .int .i64 (val : Int))] ∧ h1 = h') ?_ ?_
          · skip
            refine V_sr T.mix (by kernel_rfl) (fun K26 hK26 => ?_)
            refine S_mv rfl ?_
            refine S_bin rfl rfl rfl ?_
            refine S_nil (hK26 _ _ (V_keep [0, 6, 7, 8, 73] (by simp only [proj, lk, reduceIte, Nat.reduceEqDiff]; rfl) ?_)); clear hK26
            refine V_condp rfl (fun c34 => ?_) (fun c34 => ?_)
            · skip
              refine V_seq (fun K27 hK27 => ?_)
              refine V_sr T.mix (by kernel_rfl) (fun K28 hK28 => ?_)
              refine S_mv rfl ?_
              refine S_nc rfl ?_
              first | refine S_fa0 T.f77_10 rfl ?_ | refine S_fa T.f77_10 rfl ?_
              refine S_ldK T.ag3 rfl (fun K' hK' => ?_)
              simp (disch := omega) only [q0, q1, q2, q3, q4, q5, q6, q7, q8, q9, q10, q11, q12, q13, q14, q15, q16, q17, q18, q19, q20, al, oP_some, Nat.add_zero]
              refine hK' _ ?_; clear hK' K'
              refine S_bin rfl rfl rfl ?_
              refine S_nil (hK28 _ _ (V_keep [0, 6, 7, 78] (by simp only [proj, lk, reduceIte, Nat.reduceEqDiff]; rfl) ?_)); clear hK28
              refine V_condp rfl (fun c35 => ?_) (fun c35 => ?_)
              · skip
                refine V_sr T.mix (by kernel_rfl) (fun K29 hK29 => ?_)
                refine S_as rfl ?_
                refine S_nil (hK29 _ _ (V_keep [2] (by simp only [proj, lk, reduceIte, Nat.reduceEqDiff]; rfl) ?_)); clear hK29
                refine V_ret ?_
                refine hR _ _ (ret1 rfl rfl ?_)
                have he6 := (lookw (s := s) (w := wd_) hw7 (by omega)).1
                rw [hwd, hit0] at he6
                exact ⟨8, _, out, _, _, _, rfl, sw1, m.no (e := 8) (a := s.p) (s' := s) (x := skipS (skipS s 4) (mr (takeV s 4))) (by omega) (Nat.le_refl _) (.inl (by omega)) (by rw [rs4 hp]; simp only []; rw [ls_bad (by rw [hl]; exact hix) hit.1 (by omega) (by omega) he6 (.inl (by rw [hl]; omega))]) (fun _ => rfl) (Ad.refl _) m.w.ok, hEh1, by first | exact ⟨[], (List.append_nil _).symm⟩ | exact ⟨_, rfl⟩ | exact cpy_pre _ _ _⟩
              · skip
                refine V_skipk [0, 6, 7] (by simp only [proj, lk, reduceIte, Nat.reduceEqDiff]; rfl) ?_
                refine hK27 _ _ ?_; clear hK27
                refine V_reg T.mix (by kernel_rfl) ?_
                refine S_mv rfl ?_
                refine S_nc rfl ?_
                first | refine S_fa0 T.f77_9 rfl ?_ | refine S_fa T.f77_9 rfl ?_
                refine S_ldK T.ag56 rfl (fun K' hK' => ?_)
                simp (disch := omega) only [q0, q1, q2, q3, q4, q5, q6, q7, q8, q9, q10, q11, q12, q13, q14, q15, q16, q17, q18, q19, q20, al, oP_some, Nat.add_zero]
                refine hK' _ ?_; clear hK' K'
                refine S_mv rfl ?_
                refine S_nc rfl ?_
                first | refine S_fa0 T.f77_10 rfl ?_ | refine S_fa T.f77_10 rfl ?_
                refine S_ldK T.ag3 rfl (fun K' hK' => ?_)
                simp (disch := omega) only [q0, q1, q2, q3, q4, q5, q6, q7, q8, q9, q10, q11, q12, q13, q14, q15, q16, q17, q18, q19, q20, al, oP_some, Nat.add_zero]
                refine hK' _ ?_; clear hK' K'
                refine S_subN (r.ix - 1) rfl rfl (by omega) (by omega) ?_
                first | refine S_ixn T.el56 rfl rfl (by omega) ?_ | refine S_ix1 T.el56 rfl rfl (by omega) (by omega) ?_ | refine S_ix T.el56 rfl rfl (by omega) (by omega) ?_
                refine S_ldK T.ag3 rfl (fun K' hK' => ?_)
                simp (disch := omega) only [q0, q1, q2, q3, q4, q5, q6, q7, q8, q9, q10, q11, q12, q13, q14, q15, q16, q17, q18, q19, q20, al, oP_some, Nat.add_zero]
                refine hK' _ ?_; clear hK' K'
                refine S_as rfl ?_
                refine S_nilk [0, 6, 7, 8] (by simp only [proj, lk, reduceIte, Nat.reduceEqDiff]; rfl) ?_
                exact ⟨r.ls (r.ix - 1), by rw [if_pos (by omega)], by omega, rfl, rfl⟩
            · skip
              refine V_skipk [0, 6, 7, 8] (by simp only [proj, lk, reduceIte, Nat.reduceEqDiff]; rfl) ?_
              exact ⟨0, by rw [if_neg (by omega)], by omega, rfl, rfl⟩
          rintro l h' ⟨val, hval, hv2, rfl, rfl⟩
          refine V_seq (fun K30 hK30 => ?_)
          refine V_sr T.mix (by kernel_rfl) (fun K31 hK31 => ?_)
          refine S_mv rfl ?_
          refine S_mv rfl ?_
          refine S_nc rfl ?_
          first | refine S_fa0 T.f77_9 rfl ?_ | refine S_fa T.f77_9 rfl ?_
          refine S_ldK T.ag56 rfl (fun K' hK' => ?_)
          simp (disch := omega) only [q0, q1, q2, q3, q4, q5, q6, q7, q8, q9, q10, q11, q12, q13, q14, q15, q16, q17, q18, q19, q20, al, oP_some, Nat.add_zero]
          refine hK' _ ?_; clear hK' K'
          refine S_lenl T.el56 rfl ?_
          refine S_mv rfl ?_
          refine S_nc rfl ?_
          first | refine S_fa0 T.f77_10 rfl ?_ | refine S_fa T.f77_10 rfl ?_
          refine S_ldK T.ag3 rfl (fun K' hK' => ?_)
          simp (disch := omega) only [q0, q1, q2, q3, q4, q5, q6, q7, q8, q9, q10, q11, q12, q13, q14, q15, q16, q17, q18, q19, q20, al, oP_some, Nat.add_zero]
          refine hK' _ ?_; clear hK' K'
          refine S_subN (273 - r.ix) rfl rfl (by omega) (by omega) ?_
          refine S_bin rfl rfl rfl ?_
          refine S_nil (hK31 _ _ (V_keep [0, 6, 7, 8, 101] (by simp only [proj, lk, reduceIte, Nat.reduceEqDiff]; rfl) ?_)); clear hK31
          refine V_condp rfl (fun c40 => ?_) (fun c40 => ?_)
          · skip
            refine V_sr T.mix (by kernel_rfl) (fun K32 hK32 => ?_)
            refine S_as rfl ?_
            refine S_nil (hK32 _ _ (V_keep [2] (by simp only [proj, lk, reduceIte, Nat.reduceEqDiff]; rfl) ?_)); clear hK32
            refine V_ret ?_
            refine hR _ _ (ret1 rfl rfl ?_)
            have he6 := (lookw (s := s) (w := wd_) hw7 (by omega)).1
            rw [hwd, hit0] at he6 hx
            exact ⟨8, _, out, _, _, _, rfl, sw1, m.no (e := 8) (a := s.p) (s' := s) (x := skipS (skipS s 4) (mr (takeV s 4))) (by omega) (Nat.le_refl _) (.inl (by omega)) (by rw [rs4 hp]; simp only []; rw [ls_bad (by rw [hl]; exact hix) hit.1 (by omega) (by omega) he6 (.inr (by rw [hl, ← hx]; omega))]) (fun _ => rfl) (Ad.refl _) m.w.ok, hEh1, by first | exact ⟨[], (List.append_nil _).symm⟩ | exact ⟨_, rfl⟩ | exact cpy_pre _ _ _⟩
          · skip
            have hv10 : val ≤ 10 := by rw [hval]; split; (exact m.w.l10 _ (by omega)); (omega)
            refine V_skipk [0, 6, 7, 8] (by simp only [proj, lk, reduceIte, Nat.reduceEqDiff]; rfl) ?_
            refine hK30 _ _ ?_; clear hK30
            refine V_sr T.mix (by kernel_rfl) (fun K33 hK33 => ?_)
            refine S_mv rfl ?_
            refine S_nc rfl ?_
            first | refine S_fa0 T.f77_0 rfl ?_ | refine S_fa T.f77_0 rfl ?_
            refine S_ldK T.ag47 rfl (fun K' hK' => ?_)
            simp (disch := omega) only [q0, q1, q2, q3, q4, q5, q6, q7, q8, q9, q10, q11, q12, q13, q14, q15, q16, q17, q18, q19, q20, al, oP_some, Nat.add_zero]
            refine hK' _ ?_; clear hK' K'
            refine S_mv rfl ?_
            refine S_addN (4 + wd_) rfl rfl (by omega) (by omega) ?_
            refine S_call T.hb173 rfl ?_
            refine FC.mono (BitW.skip_spec h1 W.T W.tb s sw1.rt (((4 + wd_ : Nat) : Int))) ?_
            rintro v' h2 ⟨rfl, rtb, hXb⟩
            obtain ⟨sb, hsb⟩ : ∃ x, x = skipS s (((4 + wd_ : Nat) : Int)) := ⟨_, rfl⟩
            rw [← hsb] at rtb
            have sw2 := sw1.st rtb hXb
            have hEh2 : Ext (WTs W) h1 h2 := hXb.mono fun _ e => wsT e
            try clear q0 q1 q2 q3 q4 q5 q6 q7 q8 q9 q10 q11 q12 q13 q14 q15 q16 q17 q18 q19 q20 dok
            obtain ⟨q0, q1, q2, q3, q4, q5, q6, q7, q8, q9, q10, q11, q12, q13, q14, q15, q16, q17, q18, q19, q20⟩ := dq (sw2.x)
            have dok := dok_ (sw2.x)
            try simp only [] at q0 q1 q2 q3 q4 q5 q6 q7 q8 q9 q10 q11 q12 q13 q14 q15 q16 q17 q18 q19 q20
            refine S_nil (hK33 _ _ (V_keep [0, 7, 8] (by simp only [proj, lk, reduceIte, Nat.reduceEqDiff]; rfl) ?_)); clear hK33
            refine V_seq (fun K34 hK34 => ?_)
            refine V_sr T.mix (by kernel_rfl) (fun K35 hK35 => ?_)
            refine S_as rfl ?_
            refine S_nil (hK35 _ _ (V_keep [0, 7, 8, 9] (by simp only [proj, lk, reduceIte, Nat.reduceEqDiff]; rfl) ?_)); clear hK35
            refine V_block ?_
            refine V_loop (fun m l h' => ∃ (k : Nat) (hk : Heap) (A : Nat → Nat), (k ≤ 3 + x) ∧ (SW hk W { { r with at_ := s.p } with ls := A, ix := r.ix + k } sb ua ub) ∧ (ra (r.ix + k) A = ra r.ix r.ls ++ List.replicate k val) ∧ (∀ j, j < 273 → A j ≤ 10) ∧ (Ext (WTs W) h hk) ∧ m = 3 + x - k ∧ l = [(0, .pointer (some ⟨W.D, 0, none⟩)), (7, .int .i64 ((3 + x : Nat) : Int)), (8, .int .i64 (val : Int)), (9, .int .i64 (k : Int))] ∧ hk = h') _ ⟨0, h2, r.ls, Nat.zero_le _, sw2, by simp, m.w.l10, hEh1.trans hEh2, rfl, rfl, rfl⟩ ?_
            rintro m l h' ⟨k, hk, A, hk3, swk, hA, hA10, hEk, rfl, rfl, rfl⟩ K36 hK36
            try clear q0 q1 q2 q3 q4 q5 q6 q7 q8 q9 q10 q11 q12 q13 q14 q15 q16 q17 q18 q19 q20 dok
            obtain ⟨q0, q1, q2, q3, q4, q5, q6, q7, q8, q9, q10, q11, q12, q13, q14, q15, q16, q17, q18, q19, q20⟩ := dq (swk.x)
            have dok := dok_ (swk.x)
            try simp only [] at q0 q1 q2 q3 q4 q5 q6 q7 q8 q9 q10 q11 q12 q13 q14 q15 q16 q17 q18 q19 q20
            try clear lok
            have lok := ia_ok swk.l
            refine V_seq (fun K37 hK37 => ?_)
            refine V_sr T.mix (by kernel_rfl) (fun K38 hK38 => ?_)
            refine S_mv rfl ?_
            refine S_mv rfl ?_
            refine S_bin rfl rfl rfl ?_
            refine S_nil (hK38 _ _ (V_keep [0, 7, 8, 9, 111] (by simp only [proj, lk, reduceIte, Nat.reduceEqDiff]; rfl) ?_)); clear hK38
            refine V_condp rfl (fun c44 => ?_) (fun c44 => ?_)
            · skip
              refine V_skipk [0, 7, 8, 9] (by simp only [proj, lk, reduceIte, Nat.reduceEqDiff]; rfl) ?_
              refine hK37 _ _ ?_; clear hK37
              refine V_seq (fun K39 hK39 => ?_)
              refine V_block ?_
              refine V_sr T.mix (by kernel_rfl) (fun K40 hK40 => ?_)
              refine S_mv rfl ?_
              refine S_nc rfl ?_
              first | refine S_fa0 T.f77_9 rfl ?_ | refine S_fa T.f77_9 rfl ?_
              refine S_ldK T.ag56 rfl (fun K' hK' => ?_)
              simp (disch := omega) only [q0, q1, q2, q3, q4, q5, q6, q7, q8, q9, q10, q11, q12, q13, q14, q15, q16, q17, q18, q19, q20, al, oP_some, Nat.add_zero]
              refine hK' _ ?_; clear hK' K'
              refine S_mv rfl ?_
              refine S_nc rfl ?_
              first | refine S_fa0 T.f77_10 rfl ?_ | refine S_fa T.f77_10 rfl ?_
              refine S_ldK T.ag3 rfl (fun K' hK' => ?_)
              simp (disch := omega) only [q0, q1, q2, q3, q4, q5, q6, q7, q8, q9, q10, q11, q12, q13, q14, q15, q16, q17, q18, q19, q20, al, oP_some, Nat.add_zero]
              refine hK' _ ?_; clear hK' K'
              refine S_mv rfl ?_
              first | refine S_ixn T.el56 rfl rfl (by omega) ?_ | refine S_ix1 T.el56 rfl rfl (by omega) (by omega) ?_ | refine S_ix T.el56 rfl rfl (by omega) (by omega) ?_
              refine S_st T.sz3 rfl rfl rfl rfl (by simp (disch := omega) only [lok]) ?_
              generalize hh : putH _ _ _ = h5
              have sw5 := swk.sl (h' := h5) (by rw [← hh]; exact ia_put swk.l (r.ix + k) (val)) (by rw [← hh]; exact Ext.put _ _ rfl)
              have hEh5 : Ext (WTs W) hk h5 := by rw [← hh]; exact Ext.put _ _ (wd (by omega))
              clear hh
              try clear q0 q1 q2 q3 q4 q5 q6 q7 q8 q9 q10 q11 q12 q13 q14 q15 q16 q17 q18 q19 q20 dok
              obtain ⟨q0, q1, q2, q3, q4, q5, q6, q7, q8, q9, q10, q11, q12, q13, q14, q15, q16, q17, q18, q19, q20⟩ := dq (sw5.x)
              have dok := dok_ (sw5.x)
              try simp only [] at q0 q1 q2 q3 q4 q5 q6 q7 q8 q9 q10 q11 q12 q13 q14 q15 q16 q17 q18 q19 q20
              refine S_nil (hK40 _ _ (V_keep [0, 7, 8, 9] (by simp only [proj, lk, reduceIte, Nat.reduceEqDiff]; rfl) ?_)); clear hK40
              refine V_reg T.mix (by kernel_rfl) ?_
              refine S_mv rfl ?_
              refine S_nc rfl ?_
              first | refine S_fa0 T.f77_10 rfl ?_ | refine S_fa T.f77_10 rfl ?_
              refine S_ldK T.ag3 rfl (fun K' hK' => ?_)
              simp (disch := omega) only [q0, q1, q2, q3, q4, q5, q6, q7, q8, q9, q10, q11, q12, q13, q14, q15, q16, q17, q18, q19, q20, al, oP_some, Nat.add_zero]
              refine hK' _ ?_; clear hK' K'
              refine S_addN (r.ix + (k + 1)) rfl rfl (by omega) (by omega) ?_
              refine S_nc rfl ?_
              first | refine S_fa0 T.f77_10 rfl ?_ | refine S_fa T.f77_10 rfl ?_
              refine S_st T.sz3 rfl rfl rfl rfl (by simp (disch := omega) only [dok]) ?_
              generalize hh : putH _ _ _ = h6
              have sw6 := sw5.sx (h' := h6) (r' := { { r with at_ := s.p } with ls := Huf.ups A (r.ix + k) val, ix := r.ix + (k + 1) }) (by rw [← hh]; exact (sw5.x.put 10 _).cong (by simp [dcs])) (by rw [← hh]; exact Ext.put _ _ rfl) rfl rfl rfl
              have hEh6 : Ext (WTs W) h5 h6 := by rw [← hh]; exact Ext.put _ _ wd0
              clear hh
              try clear q0 q1 q2 q3 q4 q5 q6 q7 q8 q9 q10 q11 q12 q13 q14 q15 q16 q17 q18 q19 q20 dok
              obtain ⟨q0, q1, q2, q3, q4, q5, q6, q7, q8, q9, q10, q11, q12, q13, q14, q15, q16, q17, q18, q19, q20⟩ := dq (sw6.x)
              have dok := dok_ (sw6.x)
              try simp only [] at q0 q1 q2 q3 q4 q5 q6 q7 q8 q9 q10 q11 q12 q13 q14 q15 q16 q17 q18 q19 q20
              refine S_nilk [0, 7, 8, 9] (by simp only [proj, lk, reduceIte, Nat.reduceEqDiff]; rfl) ?_
              refine hK39 _ _ ?_; clear hK39
              refine V_reg T.mix (by kernel_rfl) ?_
              refine S_mv rfl ?_
              first | refine S_add rfl rfl (by omega) (by omega) ?_ | refine S_bin rfl rfl rfl ?_
              refine S_as rfl ?_
              refine S_nilk [0, 7, 8, 9] (by simp only [proj, lk, reduceIte, Nat.reduceEqDiff]; rfl) ?_
              exact hK36 _ _ ⟨_, by omega, k + 1, h6, Huf.ups A (r.ix + k) val, by omega, sw6, by rw [← Nat.add_assoc, ra_ups, hA, List.append_assoc, ← rep_snoc], fun j hj => by unfold Huf.ups; split; (exact hv10); (exact hA10 j hj), (hEk.trans hEh5).trans hEh6, rfl, rfl, rfl⟩
            · skip
              refine V_exitk [0] rfl (by simp only [proj, lk, reduceIte, Nat.reduceEqDiff]; rfl) ?_
              refine hK34 _ _ ?_; clear hK34
              refine V_sr T.mix (by kernel_rfl) (fun K41 hK41 => ?_)
              refine S_mv rfl ?_
              refine S_call T.hb174 rfl ?_
              refine FC.mono (listend_spec hk W _ _ ua ub swk) ?_
              rintro v' h5 ⟨e9, r9, va, vb, rfl, sw9, hle, hE9⟩
              simp only [] at hle
              refine S_as rfl ?_
              refine S_nil (hK41 _ _ (V_keep [2] (by simp only [proj, lk, reduceIte, Nat.reduceEqDiff]; rfl) ?_)); clear hK41
              refine V_ret ?_
              refine hR _ _ (ret1 rfl rfl ?_)
              have hk9 : k = 3 + x := by omega
              have hEx := hEk
              obtain ⟨_, _, he7, _⟩ := lookw (s := s) (w := wd_) hw7 (by omega)
              have p1 := skip_p he7
              rw [← hsb] at p1
              have hl10 := hA10
              have g := m.grun (w := wd_) (x := x) (val := val) hp (by rw [hwd, hit0]) he7 (by omega) (by omega) (by omega) hx (by omega) (by rw [← hit0]; exact hval)
              rw [← hsb, ← hk9, ← hA] at g
              rcases hle with ⟨q1, qe, qr, qa, qb⟩ | ⟨q1, qe, qr, q4, q5⟩
              · exact ⟨e9, r9, out, _, va, vb, rfl, sw9, by rw [qe, qr, qa, qb]; exact m.item (r1 := { { r with at_ := s.p } with ls := A, ix := r.ix + k }) hp (ad_of hsb) (ok_of hsb m.w.ok) (by omega) rfl rfl rfl rfl rfl rfl rfl hl10 rfl rfl rfl rfl hp q1 (g), hEx.trans hE9, by first | exact ⟨[], (List.append_nil _).symm⟩ | exact ⟨_, rfl⟩ | exact cpy_pre _ _ _⟩
              · have hix3 : r.ix + k = 273 := by omega
                have h9 := g
                rw [hix3] at h9
                obtain ⟨LX, hLX⟩ : ∃ x, x = ra 273 (A) := ⟨_, rfl⟩
                rw [← hLX] at h9 qe qr q4
                have z9 := m.full2 (B := A) (r1 := ({ { r with at_ := s.p } with ls := A, ix := r.ix + k } : SR)) (l := LX) (va := va) (vb := vb) (e := e9) (r9 := r9) hLX rfl qe qr hp (ad_of hsb) (ok_of hsb m.w.ok) (by omega) rfl rfl rfl rfl rfl rfl rfl hl10 rfl rfl hp h9 q4 q5
                exact ⟨e9, r9, out, _, va, vb, rfl, sw9, z9, hEx.trans hE9, by first | exact ⟨[], (List.append_nil _).symm⟩ | exact ⟨_, rfl⟩ | exact cpy_pre _ _ _⟩
end Go.Proofs.Qxb6500404aGreat
