import Derived.Test.Qxb6500404aGreatRf
set_option linter.unusedVariables false
set_option linter.unusedSimpArgs false
namespace Go.Proofs.Qxb6500404aGreat
open Go.Eng Go.Bits Go.Blk HufW

theorem fnd_sy (s : TS) (lf : Nat → Nat) (N : Nat) : fndI lf N ((peekV s 10 : Nat) : Int) ((gotF s 10 : Nat) : Int) = syQ s lf N := rfl
theorem sy_q {s : TS} {lf : Nat → Nat} {N : Nat} {q : Nat × Nat × Nat} (h : q = syQ s lf N) : syF s lf N = if q.2.2 ≠ 0 then ⟨0, q.2.2, s⟩ else ⟨q.1, 0, skipS s (q.2.1 : Int)⟩ := by unfold syF; rw [← h]
theorem and15 (v : Nat) : v &&& 15 = v % 16 := by rw [show (15 : Nat) = 2 ^ 4 - 1 from rfl, Nat.and_two_pow_sub_one_eq_mod]
theorem andw (v w : Nat) : v &&& (2 ^ w - 1) = v % 2 ^ w := by rw [Nat.and_two_pow_sub_one_eq_mod]
theorem cpy_pre (out : List Int) (d : Nat) : ∀ n, ∃ x, cpy out d n = out ++ x
  | 0 => ⟨[], (List.append_nil _).symm⟩
  | n + 1 => by
    obtain ⟨x, hx⟩ := cpy_pre out d n
    refine ⟨x ++ [(cpy out d n).getD ((cpy out d n).length - d) 0], ?_⟩
    rw [← List.append_assoc, ← hx]; rfl
theorem ad_of {s s' : TS} {k : Int} (h : s' = skipS s k) : Ad s s' := by rw [h]; exact skip_ad s k
theorem ok_of {s s' : TS} {k : Int} (h : s' = skipS s k) (o : OK s) : OK s' := by rw [h]; exact o.skip k
set_option maxHeartbeats 800000 in
theorem turnfinal_spec (h : Heap) (W : SA) (r : SR) (s : TS) (ua ub : HC) (sw : SW h W r s ua ub) (raw : ByteArray) (out : List Int) (sent : Nat) (fa fb : Nat → Nat) (m : MI raw r out sent s ua ub fa fb) (hp : r.ph = 0) :
    FC Tryz.prog 140 (#[.pointer (some ⟨W.D, 0, none⟩)] : Array Value) h fun rv h' => ∃ e r' out' s' va vb, rv = .int .i64 ((e : Nat) : Int) ∧ SW h' W r' s' va vb ∧ TPo raw r out sent s e r' out' s' va vb ∧ Ext (WTs W) h h' ∧ ∃ x, out' = out ++ x := by
  try clear q0 q1 q2 q3 q4 q5 q6 q7 q8 q9 q10 q11 q12 q13 q14 q15 q16 q17 q18 q19 q20 dok
  obtain ⟨q0, q1, q2, q3, q4, q5, q6, q7, q8, q9, q10, q11, q12, q13, q14, q15, q16, q17, q18, q19, q20⟩ := dq (sw.x)
  have dok := dok_ (sw.x)
  try simp only [] at q0 q1 q2 q3 q4 q5 q6 q7 q8 q9 q10 q11 q12 q13 q14 q15 q16 q17 q18 q19 q20
  refine FC_of [(0, .pointer (some ⟨W.D, 0, none⟩))] Tryz.func140 rfl Tryz.ntmps140 (by simp) rfl (fun R hR => ?_)
  refine V_sr T.mix (by kernel_rfl) (fun K1 hK1 => ?_)
  refine S_as rfl ?_
  refine S_nil (hK1 _ _ (V_keep [0] (by simp only [proj, lk, reduceIte, Nat.reduceEqDiff]; rfl) ?_)); clear hK1
  refine V_sr T.mix (by kernel_rfl) (fun K2 hK2 => ?_)
  refine S_mv rfl ?_
  refine S_mv rfl ?_
  refine S_nc rfl ?_
  first | refine S_fa0 T.f77_0 rfl ?_ | refine S_fa T.f77_0 rfl ?_
  refine S_ldK T.ag47 rfl (fun K' hK' => ?_)
  simp (disch := omega) only [q0, q1, q2, q3, q4, q5, q6, q7, q8, q9, q10, q11, q12, q13, q14, q15, q16, q17, q18, q19, q20, oP_some, Nat.add_zero]
  refine hK' _ ?_; clear hK' K'
  refine S_call T.hb148 rfl ?_
  refine FC.mono (BitW.pos_spec h W.T W.tb s sw.rt) ?_
  rintro v' h' ⟨rfl, rfl⟩
  refine S_nc rfl ?_
  first | refine S_fa0 T.f77_6 rfl ?_ | refine S_fa T.f77_6 rfl ?_
  refine S_st T.sz3 rfl rfl rfl rfl (by simp (disch := omega) only [dok]) ?_
  generalize hh : putH _ _ _ = h1
  have sw1 := sw.sx (h' := h1) (r' := { r with at_ := s.p }) (by rw [← hh]; exact (sw.x.put 6 _).cong (by simp [dcs])) (by rw [← hh]; exact Ext.put _ _ rfl) rfl rfl rfl
  have hEh1 : Ext (WTs W) h h1 := by rw [← hh]; exact Ext.put _ _ wd0
  clear hh
  try clear q0 q1 q2 q3 q4 q5 q6 q7 q8 q9 q10 q11 q12 q13 q14 q15 q16 q17 q18 q19 q20 dok
  obtain ⟨q0, q1, q2, q3, q4, q5, q6, q7, q8, q9, q10, q11, q12, q13, q14, q15, q16, q17, q18, q19, q20⟩ := dq (sw1.x)
  have dok := dok_ (sw1.x)
  try simp only [] at q0 q1 q2 q3 q4 q5 q6 q7 q8 q9 q10 q11 q12 q13 q14 q15 q16 q17 q18 q19 q20
  refine S_nil (hK2 _ _ (V_keep [0] (by simp only [proj, lk, reduceIte, Nat.reduceEqDiff]; rfl) ?_)); clear hK2
  refine V_sr T.mix (by kernel_rfl) (fun K3 hK3 => ?_)
  refine S_mv rfl ?_
  refine S_nc rfl ?_
  first | refine S_fa0 T.f77_0 rfl ?_ | refine S_fa T.f77_0 rfl ?_
  refine S_ldK T.ag47 rfl (fun K' hK' => ?_)
  simp (disch := omega) only [q0, q1, q2, q3, q4, q5, q6, q7, q8, q9, q10, q11, q12, q13, q14, q15, q16, q17, q18, q19, q20, oP_some, Nat.add_zero]
  refine hK' _ ?_; clear hK' K'
  refine S_call T.hb166 rfl ?_
  refine FC.mono (BitW.take_spec h1 W.T W.tb s sw1.rt (1)) ?_
  rintro v' h2 ⟨hv', rta, hXa⟩
  obtain ⟨ea, hea⟩ : ∃ x, x = skipE s (1) := ⟨_, rfl⟩
  obtain ⟨ca, hca⟩ : ∃ x, x = takeV s (1) := ⟨_, rfl⟩
  obtain ⟨sa, hsa⟩ : ∃ x, x = skipS s (1) := ⟨_, rfl⟩
  rw [← hea, ← hca] at hv'
  rw [← hsa] at rta
  subst hv'
  have sw2 := sw1.st rta hXa
  have hEh2 : Ext (WTs W) h1 h2 := hXa.mono fun _ e => wsT e
  try clear q0 q1 q2 q3 q4 q5 q6 q7 q8 q9 q10 q11 q12 q13 q14 q15 q16 q17 q18 q19 q20 dok
  obtain ⟨q0, q1, q2, q3, q4, q5, q6, q7, q8, q9, q10, q11, q12, q13, q14, q15, q16, q17, q18, q19, q20⟩ := dq (sw2.x)
  have dok := dok_ (sw2.x)
  try simp only [] at q0 q1 q2 q3 q4 q5 q6 q7 q8 q9 q10 q11 q12 q13 q14 q15 q16 q17 q18 q19 q20
  refine S_mv rfl ?_
  refine S_ex rfl rfl ?_
  refine S_ex rfl rfl ?_
  refine S_as rfl ?_
  refine S_as rfl ?_
  refine S_nil (hK3 _ _ (V_keep [0, 3, 4] (by simp only [proj, lk, reduceIte, Nat.reduceEqDiff]; rfl) ?_)); clear hK3
  refine V_seq (fun K4 hK4 => ?_)
  refine V_sr T.mix (by kernel_rfl) (fun K5 hK5 => ?_)
  refine S_mv rfl ?_
  refine S_bin rfl rfl rfl ?_
  refine S_nil (hK5 _ _ (V_keep [0, 3, 4, 22] (by simp only [proj, lk, reduceIte, Nat.reduceEqDiff]; rfl) ?_)); clear hK5
  refine V_condp rfl (fun c33 => ?_) (fun c33 => ?_)
  · skip
    refine V_sr T.mix (by kernel_rfl) (fun K6 hK6 => ?_)
    refine S_mv rfl ?_
    refine S_as rfl ?_
    refine S_nil (hK6 _ _ (V_keep [2] (by simp only [proj, lk, reduceIte, Nat.reduceEqDiff]; rfl) ?_)); clear hK6
    refine V_ret ?_
    refine hR _ _ (ret1 rfl rfl ?_)
    exact ⟨ea, _, out, _, _, _, rfl, sw2, m.no (e := ea) (a := s.p) (s' := sa) (by omega) (by have h9 := m.w.at_; omega) (.inl (by omega)) (by rw [rs0 hp]; simp only []; rw [rn_no (by rw [← hea]; omega), ← hea]) (fun _ => by rw [hsa, BitW.skipS_ne (by rw [← hea]; omega)]) (ad_of hsa) (ok_of hsa m.w.ok), hEh1.trans hEh2, by first | exact ⟨[], (List.append_nil _).symm⟩ | exact ⟨_, rfl⟩ | exact cpy_pre _ _ _⟩
  · skip
    refine V_skipk [0, 3] (by simp only [proj, lk, reduceIte, Nat.reduceEqDiff]; rfl) ?_
    refine hK4 _ _ ?_; clear hK4
    refine V_sr T.mix (by kernel_rfl) (fun K7 hK7 => ?_)
    refine S_mv rfl ?_
    refine S_mv rfl ?_
    refine S_nc rfl ?_
    first | refine S_fa0 T.f77_5 rfl ?_ | refine S_fa T.f77_5 rfl ?_
    refine S_st T.sz3 rfl rfl rfl rfl (by simp (disch := omega) only [dok]) ?_
    generalize hh : putH _ _ _ = h3
    have sw3 := sw2.sx (h' := h3) (r' := { { r with at_ := s.p } with fi := ca }) (by rw [← hh]; exact (sw2.x.put 5 _).cong (by simp [dcs])) (by rw [← hh]; exact Ext.put _ _ rfl) rfl rfl rfl
    have hEh3 : Ext (WTs W) h2 h3 := by rw [← hh]; exact Ext.put _ _ wd0
    clear hh
    try clear q0 q1 q2 q3 q4 q5 q6 q7 q8 q9 q10 q11 q12 q13 q14 q15 q16 q17 q18 q19 q20 dok
    obtain ⟨q0, q1, q2, q3, q4, q5, q6, q7, q8, q9, q10, q11, q12, q13, q14, q15, q16, q17, q18, q19, q20⟩ := dq (sw3.x)
    have dok := dok_ (sw3.x)
    try simp only [] at q0 q1 q2 q3 q4 q5 q6 q7 q8 q9 q10 q11 q12 q13 q14 q15 q16 q17 q18 q19 q20
    refine S_nil (hK7 _ _ (V_keep [0] (by simp only [proj, lk, reduceIte, Nat.reduceEqDiff]; rfl) ?_)); clear hK7
    refine V_sr T.mix (by kernel_rfl) (fun K8 hK8 => ?_)
    refine S_mv rfl ?_
    refine S_nc rfl ?_
    first | refine S_fa0 T.f77_4 rfl ?_ | refine S_fa T.f77_4 rfl ?_
    refine S_st T.sz3 rfl rfl rfl rfl (by simp (disch := omega) only [dok]) ?_
    generalize hh : putH _ _ _ = h4
    have sw4 := sw3.sx (h' := h4) (r' := { { { r with at_ := s.p } with fi := ca } with ph := 1 }) (by rw [← hh]; exact (sw3.x.put 4 _).cong (by simp [dcs])) (by rw [← hh]; exact Ext.put _ _ rfl) rfl rfl rfl
    have hEh4 : Ext (WTs W) h3 h4 := by rw [← hh]; exact Ext.put _ _ wd0
    clear hh
    try clear q0 q1 q2 q3 q4 q5 q6 q7 q8 q9 q10 q11 q12 q13 q14 q15 q16 q17 q18 q19 q20 dok
    obtain ⟨q0, q1, q2, q3, q4, q5, q6, q7, q8, q9, q10, q11, q12, q13, q14, q15, q16, q17, q18, q19, q20⟩ := dq (sw4.x)
    have dok := dok_ (sw4.x)
    try simp only [] at q0 q1 q2 q3 q4 q5 q6 q7 q8 q9 q10 q11 q12 q13 q14 q15 q16 q17 q18 q19 q20
    refine S_nil (hK8 _ _ (V_keep [] (by simp only [proj, lk, reduceIte, Nat.reduceEqDiff]; rfl) ?_)); clear hK8
    refine V_sr T.mix (by kernel_rfl) (fun K9 hK9 => ?_)
    refine S_as rfl ?_
    refine S_nil (hK9 _ _ (V_keep [2] (by simp only [proj, lk, reduceIte, Nat.reduceEqDiff]; rfl) ?_)); clear hK9
    refine V_ret ?_
    refine hR _ _ (ret1 rfl rfl ?_)
    have h9 := m.final hp (by omega)
    rw [← hca, ← hsa] at h9
    exact ⟨0, _, out, _, _, _, rfl, sw4, h9, ((hEh1.trans hEh2).trans hEh3).trans hEh4, by first | exact ⟨[], (List.append_nil _).symm⟩ | exact ⟨_, rfl⟩ | exact cpy_pre _ _ _⟩
set_option maxHeartbeats 3200000 in
theorem turnkind_spec (h : Heap) (W : SA) (r : SR) (s : TS) (ua ub : HC) (sw : SW h W r s ua ub) (raw : ByteArray) (out : List Int) (sent : Nat) (fa fb : Nat → Nat) (m : MI raw r out sent s ua ub fa fb) (hp : r.ph = 1) :
    FC Tryz.prog 141 (#[.pointer (some ⟨W.D, 0, none⟩)] : Array Value) h fun rv h' => ∃ e r' out' s' va vb, rv = .int .i64 ((e : Nat) : Int) ∧ SW h' W r' s' va vb ∧ TPo raw r out sent s e r' out' s' va vb ∧ Ext (WTs W) h h' ∧ ∃ x, out' = out ++ x := by
  try clear q0 q1 q2 q3 q4 q5 q6 q7 q8 q9 q10 q11 q12 q13 q14 q15 q16 q17 q18 q19 q20 dok
  obtain ⟨q0, q1, q2, q3, q4, q5, q6, q7, q8, q9, q10, q11, q12, q13, q14, q15, q16, q17, q18, q19, q20⟩ := dq (sw.x)
  have dok := dok_ (sw.x)
  try simp only [] at q0 q1 q2 q3 q4 q5 q6 q7 q8 q9 q10 q11 q12 q13 q14 q15 q16 q17 q18 q19 q20
  have hple : s.p ≤ 4096 := by have h8 := m.w.ok.2.1; have h9 := m.w.ok.2.2; omega
  refine FC_of [(0, .pointer (some ⟨W.D, 0, none⟩))] Tryz.func141 rfl Tryz.ntmps141 (by simp) rfl (fun R hR => ?_)
  refine V_sr T.mix (by kernel_rfl) (fun K1 hK1 => ?_)
  refine S_as rfl ?_
  refine S_nil (hK1 _ _ (V_keep [0] (by simp only [proj, lk, reduceIte, Nat.reduceEqDiff]; rfl) ?_)); clear hK1
  refine V_sr T.mix (by kernel_rfl) (fun K2 hK2 => ?_)
  refine S_mv rfl ?_
  refine S_mv rfl ?_
  refine S_nc rfl ?_
  first | refine S_fa0 T.f77_0 rfl ?_ | refine S_fa T.f77_0 rfl ?_
  refine S_ldK T.ag47 rfl (fun K' hK' => ?_)
  simp (disch := omega) only [q0, q1, q2, q3, q4, q5, q6, q7, q8, q9, q10, q11, q12, q13, q14, q15, q16, q17, q18, q19, q20, oP_some, Nat.add_zero]
  refine hK' _ ?_; clear hK' K'
  refine S_call T.hb148 rfl ?_
  refine FC.mono (BitW.pos_spec h W.T W.tb s sw.rt) ?_
  rintro v' h' ⟨rfl, rfl⟩
  refine S_nc rfl ?_
  first | refine S_fa0 T.f77_6 rfl ?_ | refine S_fa T.f77_6 rfl ?_
  refine S_st T.sz3 rfl rfl rfl rfl (by simp (disch := omega) only [dok]) ?_
  generalize hh : putH _ _ _ = h1
  have sw1 := sw.sx (h' := h1) (r' := { r with at_ := s.p }) (by rw [← hh]; exact (sw.x.put 6 _).cong (by simp [dcs])) (by rw [← hh]; exact Ext.put _ _ rfl) rfl rfl rfl
  have hEh1 : Ext (WTs W) h h1 := by rw [← hh]; exact Ext.put _ _ wd0
  clear hh
  try clear q0 q1 q2 q3 q4 q5 q6 q7 q8 q9 q10 q11 q12 q13 q14 q15 q16 q17 q18 q19 q20 dok
  obtain ⟨q0, q1, q2, q3, q4, q5, q6, q7, q8, q9, q10, q11, q12, q13, q14, q15, q16, q17, q18, q19, q20⟩ := dq (sw1.x)
  have dok := dok_ (sw1.x)
  try simp only [] at q0 q1 q2 q3 q4 q5 q6 q7 q8 q9 q10 q11 q12 q13 q14 q15 q16 q17 q18 q19 q20
  refine S_nil (hK2 _ _ (V_keep [0] (by simp only [proj, lk, reduceIte, Nat.reduceEqDiff]; rfl) ?_)); clear hK2
  refine V_sr T.mix (by kernel_rfl) (fun K3 hK3 => ?_)
  refine S_mv rfl ?_
  refine S_nc rfl ?_
  first | refine S_fa0 T.f77_0 rfl ?_ | refine S_fa T.f77_0 rfl ?_
  refine S_ldK T.ag47 rfl (fun K' hK' => ?_)
  simp (disch := omega) only [q0, q1, q2, q3, q4, q5, q6, q7, q8, q9, q10, q11, q12, q13, q14, q15, q16, q17, q18, q19, q20, oP_some, Nat.add_zero]
  refine hK' _ ?_; clear hK' K'
  refine S_call T.hb166 rfl ?_
  refine FC.mono (BitW.take_spec h1 W.T W.tb s sw1.rt (2)) ?_
  rintro v' h2 ⟨hv', rta, hXa⟩
  obtain ⟨ea, hea⟩ : ∃ x, x = skipE s (2) := ⟨_, rfl⟩
  obtain ⟨ca, hca⟩ : ∃ x, x = takeV s (2) := ⟨_, rfl⟩
  obtain ⟨sa, hsa⟩ : ∃ x, x = skipS s (2) := ⟨_, rfl⟩
  rw [← hea, ← hca] at hv'
  rw [← hsa] at rta
  subst hv'
  have sw2 := sw1.st rta hXa
  have hEh2 : Ext (WTs W) h1 h2 := hXa.mono fun _ e => wsT e
  try clear q0 q1 q2 q3 q4 q5 q6 q7 q8 q9 q10 q11 q12 q13 q14 q15 q16 q17 q18 q19 q20 dok
  obtain ⟨q0, q1, q2, q3, q4, q5, q6, q7, q8, q9, q10, q11, q12, q13, q14, q15, q16, q17, q18, q19, q20⟩ := dq (sw2.x)
  have dok := dok_ (sw2.x)
  try simp only [] at q0 q1 q2 q3 q4 q5 q6 q7 q8 q9 q10 q11 q12 q13 q14 q15 q16 q17 q18 q19 q20
  refine S_mv rfl ?_
  refine S_ex rfl rfl ?_
  refine S_ex rfl rfl ?_
  refine S_as rfl ?_
  refine S_as rfl ?_
  refine S_nil (hK3 _ _ (V_keep [0, 3, 4] (by simp only [proj, lk, reduceIte, Nat.reduceEqDiff]; rfl) ?_)); clear hK3
  refine V_seq (fun K4 hK4 => ?_)
  refine V_sr T.mix (by kernel_rfl) (fun K5 hK5 => ?_)
  refine S_mv rfl ?_
  refine S_bin rfl rfl rfl ?_
  refine S_nil (hK5 _ _ (V_keep [0, 3, 4, 22] (by simp only [proj, lk, reduceIte, Nat.reduceEqDiff]; rfl) ?_)); clear hK5
  refine V_condp rfl (fun c45 => ?_) (fun c45 => ?_)
  · skip
    refine V_sr T.mix (by kernel_rfl) (fun K6 hK6 => ?_)
    refine S_mv rfl ?_
    refine S_as rfl ?_
    refine S_nil (hK6 _ _ (V_keep [2] (by simp only [proj, lk, reduceIte, Nat.reduceEqDiff]; rfl) ?_)); clear hK6
    refine V_ret ?_
    refine hR _ _ (ret1 rfl rfl ?_)
    exact ⟨ea, _, out, _, _, _, rfl, sw2, m.no (e := ea) (a := s.p) (s' := sa) (by omega) (by have h9 := m.w.at_; omega) (.inl (by omega)) (by rw [rs1 hp]; simp only []; rw [kn_no (by rw [← hea]; omega), ← hea]) (fun _ => by rw [hsa, BitW.skipS_ne (by rw [← hea]; omega)]) (ad_of hsa) (ok_of hsa m.w.ok), hEh1.trans hEh2, by first | exact ⟨[], (List.append_nil _).symm⟩ | exact ⟨_, rfl⟩ | exact cpy_pre _ _ _⟩
  · skip
    refine V_skipk [0, 3] (by simp only [proj, lk, reduceIte, Nat.reduceEqDiff]; rfl) ?_
    refine hK4 _ _ ?_; clear hK4
    refine V_sr T.mix (by kernel_rfl) (fun K7 hK7 => ?_)
    refine S_mv rfl ?_
    refine S_mv rfl ?_
    refine S_nc rfl ?_
    first | refine S_fa0 T.f77_6 rfl ?_ | refine S_fa T.f77_6 rfl ?_
    refine S_ldK T.ag3 rfl (fun K' hK' => ?_)
    simp (disch := omega) only [q0, q1, q2, q3, q4, q5, q6, q7, q8, q9, q10, q11, q12, q13, q14, q15, q16, q17, q18, q19, q20, oP_some, Nat.add_zero]
    refine hK' _ ?_; clear hK' K'
    refine S_addN (s.p + 2) rfl rfl (by omega) (by omega) ?_
    refine S_nc rfl ?_
    first | refine S_fa0 T.f77_7 rfl ?_ | refine S_fa T.f77_7 rfl ?_
    refine S_st T.sz3 rfl rfl rfl rfl (by simp (disch := omega) only [dok]) ?_
    generalize hh : putH _ _ _ = h3
    have sw3 := sw2.sx (h' := h3) (r' := { { r with at_ := s.p } with hd := s.p + 2 }) (by rw [← hh]; exact (sw2.x.put 7 _).cong (by simp [dcs])) (by rw [← hh]; exact Ext.put _ _ rfl) rfl rfl rfl
    have hEh3 : Ext (WTs W) h2 h3 := by rw [← hh]; exact Ext.put _ _ wd0
    clear hh
    try clear q0 q1 q2 q3 q4 q5 q6 q7 q8 q9 q10 q11 q12 q13 q14 q15 q16 q17 q18 q19 q20 dok
    obtain ⟨q0, q1, q2, q3, q4, q5, q6, q7, q8, q9, q10, q11, q12, q13, q14, q15, q16, q17, q18, q19, q20⟩ := dq (sw3.x)
    have dok := dok_ (sw3.x)
    try simp only [] at q0 q1 q2 q3 q4 q5 q6 q7 q8 q9 q10 q11 q12 q13 q14 q15 q16 q17 q18 q19 q20
    refine S_nil (hK7 _ _ (V_keep [0, 3] (by simp only [proj, lk, reduceIte, Nat.reduceEqDiff]; rfl) ?_)); clear hK7
    refine V_seq (fun K8 hK8 => ?_)
    refine V_sr T.mix (by kernel_rfl) (fun K9 hK9 => ?_)
    refine S_mv rfl ?_
    refine S_nil (hK9 _ _ (V_keep [0, 32] (by simp only [proj, lk, reduceIte, Nat.reduceEqDiff]; rfl) ?_)); clear hK9
    refine V_block ?_
    refine V_sr T.mix (by kernel_rfl) (fun K10 hK10 => ?_)
    refine S_bin rfl rfl rfl ?_
    refine S_as rfl ?_
    refine S_nil (hK10 _ _ (V_keep [0, 32, 33] (by simp only [proj, lk, reduceIte, Nat.reduceEqDiff]; rfl) ?_)); clear hK10
    refine V_condp rfl (fun c50 => ?_) (fun c50 => ?_)
    · skip
      refine V_sr T.mix (by kernel_rfl) (fun K11 hK11 => ?_)
      refine S_mv rfl ?_
      refine S_nc rfl ?_
      first | refine S_fa0 T.f77_0 rfl ?_ | refine S_fa T.f77_0 rfl ?_
      refine S_ldK T.ag47 rfl (fun K' hK' => ?_)
      simp (disch := omega) only [q0, q1, q2, q3, q4, q5, q6, q7, q8, q9, q10, q11, q12, q13, q14, q15, q16, q17, q18, q19, q20, oP_some, Nat.add_zero]
      refine hK' _ ?_; clear hK' K'
      refine S_call T.hb167 rfl ?_
      refine FC.mono (BitW.sync_spec h3 W.T W.tb sa sw3.rt) ?_
      rintro v' h4 ⟨rfl, rtb, hXb⟩
      have sw4 := sw3.st rtb hXb
      have hEh4 : Ext (WTs W) h3 h4 := hXb.mono fun _ e => wsT e
      try clear q0 q1 q2 q3 q4 q5 q6 q7 q8 q9 q10 q11 q12 q13 q14 q15 q16 q17 q18 q19 q20 dok
      obtain ⟨q0, q1, q2, q3, q4, q5, q6, q7, q8, q9, q10, q11, q12, q13, q14, q15, q16, q17, q18, q19, q20⟩ := dq (sw4.x)
      have dok := dok_ (sw4.x)
      refine S_nil (hK11 _ _ (V_keep [0] (by simp only [proj, lk, reduceIte, Nat.reduceEqDiff]; rfl) ?_)); clear hK11
      refine V_sr T.mix (by kernel_rfl) (fun K12 hK12 => ?_)
      refine S_mv rfl ?_
      refine S_nc rfl ?_
      first | refine S_fa0 T.f77_4 rfl ?_ | refine S_fa T.f77_4 rfl ?_
      refine S_st T.sz3 rfl rfl rfl rfl (by simp (disch := omega) only [dok]) ?_
      generalize hh : putH _ _ _ = h5
      have sw5 := sw4.sx (h' := h5) (r' := { { { r with at_ := s.p } with hd := s.p + 2 } with ph := 2 }) (by rw [← hh]; exact (sw4.x.put 4 _).cong (by simp [dcs])) (by rw [← hh]; exact Ext.put _ _ rfl) rfl rfl rfl
      have hEh5 : Ext (WTs W) h4 h5 := by rw [← hh]; exact Ext.put _ _ wd0
      clear hh
      try clear q0 q1 q2 q3 q4 q5 q6 q7 q8 q9 q10 q11 q12 q13 q14 q15 q16 q17 q18 q19 q20 dok
      obtain ⟨q0, q1, q2, q3, q4, q5, q6, q7, q8, q9, q10, q11, q12, q13, q14, q15, q16, q17, q18, q19, q20⟩ := dq (sw5.x)
      have dok := dok_ (sw5.x)
      try simp only [] at q0 q1 q2 q3 q4 q5 q6 q7 q8 q9 q10 q11 q12 q13 q14 q15 q16 q17 q18 q19 q20
      refine S_nil (hK12 _ _ (V_keep [] (by simp only [proj, lk, reduceIte, Nat.reduceEqDiff]; rfl) ?_)); clear hK12
      refine V_sr T.mix (by kernel_rfl) (fun K13 hK13 => ?_)
      refine S_as rfl ?_
      refine S_nil (hK13 _ _ (V_keep [2] (by simp only [proj, lk, reduceIte, Nat.reduceEqDiff]; rfl) ?_)); clear hK13
      refine V_ret ?_
      refine hR _ _ (ret1 rfl rfl ?_)
      have h9 := m.kind0 hp (by omega) (by omega)
      rw [← hsa] at h9
      exact ⟨0, _, out, _, _, _, rfl, sw5, h9, (((hEh1.trans hEh2).trans hEh3).trans hEh4).trans hEh5, by first | exact ⟨[], (List.append_nil _).symm⟩ | exact ⟨_, rfl⟩ | exact cpy_pre _ _ _⟩
    · skip
      refine V_sr T.mix (by kernel_rfl) (fun K14 hK14 => ?_)
      refine S_bin rfl rfl rfl ?_
      refine S_as rfl ?_
      refine S_nil (hK14 _ _ (V_keep [0, 32, 43] (by simp only [proj, lk, reduceIte, Nat.reduceEqDiff]; rfl) ?_)); clear hK14
      refine V_condp rfl (fun c54 => ?_) (fun c54 => ?_)
      · skip
        refine V_seq (fun K15 hK15 => ?_)
        refine V_sr T.mix (by kernel_rfl) (fun K16 hK16 => ?_)
        refine S_mv rfl ?_
        refine S_nc rfl ?_
        first | refine S_fa0 T.f77_3 rfl ?_ | refine S_fa T.f77_3 rfl ?_
        refine S_ldK T.ag4 rfl (fun K' hK' => ?_)
        simp (disch := omega) only [q0, q1, q2, q3, q4, q5, q6, q7, q8, q9, q10, q11, q12, q13, q14, q15, q16, q17, q18, q19, q20, oP_some, Nat.add_zero]
        refine hK' _ ?_; clear hK' K'
        refine S_nil (hK16 _ _ (V_keep [0, 48] (by simp only [proj, lk, reduceIte, Nat.reduceEqDiff]; rfl) ?_)); clear hK16
        refine V_condb rfl (fun c55 => ?_) (fun c55 => ?_)
        · skip
          refine V_sr T.mix (by kernel_rfl) (fun K17 hK17 => ?_)
          refine S_mv rfl ?_
          refine S_nc rfl ?_
          first | refine S_fa0 T.f77_4 rfl ?_ | refine S_fa T.f77_4 rfl ?_
          refine S_st T.sz3 rfl rfl rfl rfl (by simp (disch := omega) only [dok]) ?_
          generalize hh : putH _ _ _ = h4
          have sw4 := sw3.sx (h' := h4) (r' := { { { r with at_ := s.p } with hd := s.p + 2 } with ph := 5 }) (by rw [← hh]; exact (sw3.x.put 4 _).cong (by simp [dcs])) (by rw [← hh]; exact Ext.put _ _ rfl) rfl rfl rfl
          have hEh4 : Ext (WTs W) h3 h4 := by rw [← hh]; exact Ext.put _ _ wd0
          clear hh
          try clear q0 q1 q2 q3 q4 q5 q6 q7 q8 q9 q10 q11 q12 q13 q14 q15 q16 q17 q18 q19 q20 dok
          obtain ⟨q0, q1, q2, q3, q4, q5, q6, q7, q8, q9, q10, q11, q12, q13, q14, q15, q16, q17, q18, q19, q20⟩ := dq (sw4.x)
          have dok := dok_ (sw4.x)
          try simp only [] at q0 q1 q2 q3 q4 q5 q6 q7 q8 q9 q10 q11 q12 q13 q14 q15 q16 q17 q18 q19 q20
          refine S_nil (hK17 _ _ (V_keep [] (by simp only [proj, lk, reduceIte, Nat.reduceEqDiff]; rfl) ?_)); clear hK17
          refine V_sr T.mix (by kernel_rfl) (fun K18 hK18 => ?_)
          refine S_as rfl ?_
          refine S_nil (hK18 _ _ (V_keep [2] (by simp only [proj, lk, reduceIte, Nat.reduceEqDiff]; rfl) ?_)); clear hK18
          refine V_ret ?_
          refine hR _ _ (ret1 rfl rfl ?_)
          have h9 := m.kind1 hp (by omega) (by omega) (r' := { { { r with at_ := s.p } with hd := s.p + 2 } with ph := 5 }) (va := ua) (vb := ub) rfl rfl rfl rfl rfl rfl rfl m.w.l10 (by simp only []; omega) rfl rfl rfl (m.w.hl (by assumption))
          rw [← hsa] at h9
          exact ⟨0, _, out, _, _, _, rfl, sw4, h9, ((hEh1.trans hEh2).trans hEh3).trans hEh4, by first | exact ⟨[], (List.append_nil _).symm⟩ | exact ⟨_, rfl⟩ | exact cpy_pre _ _ _⟩
        · skip
          refine V_skipk [0] (by simp only [proj, lk, reduceIte, Nat.reduceEqDiff]; rfl) ?_
          refine hK15 _ _ ?_; clear hK15
          refine V_sr T.mix (by kernel_rfl) (fun K19 hK19 => ?_)
          refine S_mv rfl ?_
          refine S_call T.hb168 rfl ?_
          refine FC.mono (sfixed_spec h3 W _ sa ua ub sw3) ?_
          rintro v' h4 ⟨rfl, ⟨A, hA, sw4⟩, hEh4⟩
          try clear q0 q1 q2 q3 q4 q5 q6 q7 q8 q9 q10 q11 q12 q13 q14 q15 q16 q17 q18 q19 q20 dok
          obtain ⟨q0, q1, q2, q3, q4, q5, q6, q7, q8, q9, q10, q11, q12, q13, q14, q15, q16, q17, q18, q19, q20⟩ := dq (sw4.x)
          have dok := dok_ (sw4.x)
          try simp only [] at q0 q1 q2 q3 q4 q5 q6 q7 q8 q9 q10 q11 q12 q13 q14 q15 q16 q17 q18 q19 q20
          refine S_nil (hK19 _ _ (V_keep [0] (by simp only [proj, lk, reduceIte, Nat.reduceEqDiff]; rfl) ?_)); clear hK19
          refine V_sr T.mix (by kernel_rfl) (fun K20 hK20 => ?_)
          refine S_mv rfl ?_
          refine S_call T.hb169 rfl ?_
          refine FC.mono (sets_spec h4 W _ sa ua ub sw4) ?_
          have hfx : ra 273 A = fixL := by rw [ra_cong hA, ra_getD fix_len]
          simp only []
          rw [hfx, fix_e]
          rintro v' h5 ⟨va, vb, rfl, sw5, hk5, _, hEh5⟩
          rw [if_pos rfl] at sw5
          have hk5 := hk5 rfl
          try clear q0 q1 q2 q3 q4 q5 q6 q7 q8 q9 q10 q11 q12 q13 q14 q15 q16 q17 q18 q19 q20 dok
          obtain ⟨q0, q1, q2, q3, q4, q5, q6, q7, q8, q9, q10, q11, q12, q13, q14, q15, q16, q17, q18, q19, q20⟩ := dq (sw5.x)
          have dok := dok_ (sw5.x)
          try simp only [] at q0 q1 q2 q3 q4 q5 q6 q7 q8 q9 q10 q11 q12 q13 q14 q15 q16 q17 q18 q19 q20
          refine S_as rfl ?_
          refine S_nil (hK20 _ _ (V_keep [0, 4] (by simp only [proj, lk, reduceIte, Nat.reduceEqDiff]; rfl) ?_)); clear hK20
          refine V_sr T.mix (by kernel_rfl) (fun K21 hK21 => ?_)
          refine S_mv rfl ?_
          refine S_mv rfl ?_
          refine S_bin rfl rfl rfl ?_
          refine S_nc rfl ?_
          first | refine S_fa0 T.f77_3 rfl ?_ | refine S_fa T.f77_3 rfl ?_
          refine S_st T.sz4 rfl rfl rfl rfl (by simp (disch := omega) only [dok]) ?_
          generalize hh : putH _ _ _ = h6
          have sw6 := sw5.sx (h' := h6) (r' := { { { { r with at_ := s.p } with hd := s.p + 2 } with ls := A, at_ := s.p + 2, held := false, ph := 5 } with held := true }) (by rw [← hh]; exact (sw5.x.put 3 _).cong (by simp [dcs])) (by rw [← hh]; exact Ext.put _ _ rfl) rfl rfl rfl
          have hEh6 : Ext (WTs W) h5 h6 := by rw [← hh]; exact Ext.put _ _ wd0
          clear hh
          try clear q0 q1 q2 q3 q4 q5 q6 q7 q8 q9 q10 q11 q12 q13 q14 q15 q16 q17 q18 q19 q20 dok
          obtain ⟨q0, q1, q2, q3, q4, q5, q6, q7, q8, q9, q10, q11, q12, q13, q14, q15, q16, q17, q18, q19, q20⟩ := dq (sw6.x)
          have dok := dok_ (sw6.x)
          try simp only [] at q0 q1 q2 q3 q4 q5 q6 q7 q8 q9 q10 q11 q12 q13 q14 q15 q16 q17 q18 q19 q20
          refine S_nil (hK21 _ _ (V_keep [4] (by simp only [proj, lk, reduceIte, Nat.reduceEqDiff]; rfl) ?_)); clear hK21
          refine V_sr T.mix (by kernel_rfl) (fun K22 hK22 => ?_)
          refine S_mv rfl ?_
          refine S_as rfl ?_
          refine S_nil (hK22 _ _ (V_keep [2] (by simp only [proj, lk, reduceIte, Nat.reduceEqDiff]; rfl) ?_)); clear hK22
          refine V_ret ?_
          refine hR _ _ (ret1 rfl rfl ?_)
          have h9 := m.kind1 hp (by omega) (by omega) (r' := { { { { r with at_ := s.p } with hd := s.p + 2 } with ls := A, at_ := s.p + 2, held := false, ph := 5 } with held := true }) (va := va) (vb := vb) rfl rfl rfl rfl rfl rfl rfl (fun j hj => by simp only []; rw [hA j hj]; have h8 := fix_le9 hj; omega) (by simp only []; omega) rfl rfl rfl hk5
          rw [← hsa] at h9
          exact ⟨0, _, out, _, _, _, rfl, sw6, h9, ((((hEh1.trans hEh2).trans hEh3).trans hEh4).trans hEh5).trans hEh6, by first | exact ⟨[], (List.append_nil _).symm⟩ | exact ⟨_, rfl⟩ | exact cpy_pre _ _ _⟩
      · skip
        refine V_sr T.mix (by kernel_rfl) (fun K23 hK23 => ?_)
        refine S_bin rfl rfl rfl ?_
        refine S_as rfl ?_
        refine S_nil (hK23 _ _ (V_keep [0, 62] (by simp only [proj, lk, reduceIte, Nat.reduceEqDiff]; rfl) ?_)); clear hK23
        refine V_condp rfl (fun c63 => ?_) (fun c63 => ?_)
        · skip
          refine V_sr T.mix (by kernel_rfl) (fun K24 hK24 => ?_)
          refine S_mv rfl ?_
          refine S_nc rfl ?_
          first | refine S_fa0 T.f77_10 rfl ?_ | refine S_fa T.f77_10 rfl ?_
          refine S_st T.sz3 rfl rfl rfl rfl (by simp (disch := omega) only [dok]) ?_
          generalize hh : putH _ _ _ = h4
          have sw4 := sw3.sx (h' := h4) (r' := { { { r with at_ := s.p } with hd := s.p + 2 } with ix := 0 }) (by rw [← hh]; exact (sw3.x.put 10 _).cong (by simp [dcs])) (by rw [← hh]; exact Ext.put _ _ rfl) rfl rfl rfl
          have hEh4 : Ext (WTs W) h3 h4 := by rw [← hh]; exact Ext.put _ _ wd0
          clear hh
          try clear q0 q1 q2 q3 q4 q5 q6 q7 q8 q9 q10 q11 q12 q13 q14 q15 q16 q17 q18 q19 q20 dok
          obtain ⟨q0, q1, q2, q3, q4, q5, q6, q7, q8, q9, q10, q11, q12, q13, q14, q15, q16, q17, q18, q19, q20⟩ := dq (sw4.x)
          have dok := dok_ (sw4.x)
          try simp only [] at q0 q1 q2 q3 q4 q5 q6 q7 q8 q9 q10 q11 q12 q13 q14 q15 q16 q17 q18 q19 q20
          refine S_nil (hK24 _ _ (V_keep [0] (by simp only [proj, lk, reduceIte, Nat.reduceEqDiff]; rfl) ?_)); clear hK24
          refine V_sr T.mix (by kernel_rfl) (fun K25 hK25 => ?_)
          refine S_mv rfl ?_
          refine S_nc rfl ?_
          first | refine S_fa0 T.f77_4 rfl ?_ | refine S_fa T.f77_4 rfl ?_
          refine S_st T.sz3 rfl rfl rfl rfl (by simp (disch := omega) only [dok]) ?_
          generalize hh : putH _ _ _ = h5
          have sw5 := sw4.sx (h' := h5) (r' := { { { { r with at_ := s.p } with hd := s.p + 2 } with ix := 0 } with ph := 4 }) (by rw [← hh]; exact (sw4.x.put 4 _).cong (by simp [dcs])) (by rw [← hh]; exact Ext.put _ _ rfl) rfl rfl rfl
          have hEh5 : Ext (WTs W) h4 h5 := by rw [← hh]; exact Ext.put _ _ wd0
          clear hh
          try clear q0 q1 q2 q3 q4 q5 q6 q7 q8 q9 q10 q11 q12 q13 q14 q15 q16 q17 q18 q19 q20 dok
          obtain ⟨q0, q1, q2, q3, q4, q5, q6, q7, q8, q9, q10, q11, q12, q13, q14, q15, q16, q17, q18, q19, q20⟩ := dq (sw5.x)
          have dok := dok_ (sw5.x)
          try simp only [] at q0 q1 q2 q3 q4 q5 q6 q7 q8 q9 q10 q11 q12 q13 q14 q15 q16 q17 q18 q19 q20
          refine S_nil (hK25 _ _ (V_keep [] (by simp only [proj, lk, reduceIte, Nat.reduceEqDiff]; rfl) ?_)); clear hK25
          refine V_sr T.mix (by kernel_rfl) (fun K26 hK26 => ?_)
          refine S_as rfl ?_
          refine S_nil (hK26 _ _ (V_keep [2] (by simp only [proj, lk, reduceIte, Nat.reduceEqDiff]; rfl) ?_)); clear hK26
          refine V_ret ?_
          refine hR _ _ (ret1 rfl rfl ?_)
          have h9 := m.kind2 hp (by omega) (by omega)
          rw [← hsa] at h9
          exact ⟨0, _, out, _, _, _, rfl, sw5, h9, (((hEh1.trans hEh2).trans hEh3).trans hEh4).trans hEh5, by first | exact ⟨[], (List.append_nil _).symm⟩ | exact ⟨_, rfl⟩ | exact cpy_pre _ _ _⟩
        · skip
          refine V_skipk [] (by simp only [proj, lk, reduceIte, Nat.reduceEqDiff]; rfl) ?_
          refine hK8 _ _ ?_; clear hK8
          refine V_sr T.mix (by kernel_rfl) (fun K27 hK27 => ?_)
          refine S_as rfl ?_
          refine S_nil (hK27 _ _ (V_keep [2] (by simp only [proj, lk, reduceIte, Nat.reduceEqDiff]; rfl) ?_)); clear hK27
          refine V_ret ?_
          refine hR _ _ (ret1 rfl rfl ?_)
          have h9 := m.kind3 hp (by omega) (by omega) (by omega) (by omega)
          rw [← hsa] at h9
          exact ⟨5, _, out, _, _, _, rfl, sw3, h9, ((hEh1.trans hEh2).trans hEh3), by first | exact ⟨[], (List.append_nil _).symm⟩ | exact ⟨_, rfl⟩ | exact cpy_pre _ _ _⟩
set_option maxHeartbeats 1600000 in
theorem turnsize_spec (h : Heap) (W : SA) (r : SR) (s : TS) (ua ub : HC) (sw : SW h W r s ua ub) (raw : ByteArray) (out : List Int) (sent : Nat) (fa fb : Nat → Nat) (m : MI raw r out sent s ua ub fa fb) (hp : r.ph = 2) :
    FC Tryz.prog 142 (#[.pointer (some ⟨W.D, 0, none⟩)] : Array Value) h fun rv h' => ∃ e r' out' s' va vb, rv = .int .i64 ((e : Nat) : Int) ∧ SW h' W r' s' va vb ∧ TPo raw r out sent s e r' out' s' va vb ∧ Ext (WTs W) h h' ∧ ∃ x, out' = out ++ x := by
  try clear q0 q1 q2 q3 q4 q5 q6 q7 q8 q9 q10 q11 q12 q13 q14 q15 q16 q17 q18 q19 q20 dok
  obtain ⟨q0, q1, q2, q3, q4, q5, q6, q7, q8, q9, q10, q11, q12, q13, q14, q15, q16, q17, q18, q19, q20⟩ := dq (sw.x)
  have dok := dok_ (sw.x)
  try simp only [] at q0 q1 q2 q3 q4 q5 q6 q7 q8 q9 q10 q11 q12 q13 q14 q15 q16 q17 q18 q19 q20
  refine FC_of [(0, .pointer (some ⟨W.D, 0, none⟩))] Tryz.func142 rfl Tryz.ntmps142 (by simp) rfl (fun R hR => ?_)
  refine V_sr T.mix (by kernel_rfl) (fun K1 hK1 => ?_)
  refine S_as rfl ?_
  refine S_nil (hK1 _ _ (V_keep [0] (by simp only [proj, lk, reduceIte, Nat.reduceEqDiff]; rfl) ?_)); clear hK1
  refine V_sr T.mix (by kernel_rfl) (fun K2 hK2 => ?_)
  refine S_mv rfl ?_
  refine S_mv rfl ?_
  refine S_nc rfl ?_
  first | refine S_fa0 T.f77_0 rfl ?_ | refine S_fa T.f77_0 rfl ?_
  refine S_ldK T.ag47 rfl (fun K' hK' => ?_)
  simp (disch := omega) only [q0, q1, q2, q3, q4, q5, q6, q7, q8, q9, q10, q11, q12, q13, q14, q15, q16, q17, q18, q19, q20, oP_some, Nat.add_zero]
  refine hK' _ ?_; clear hK' K'
  refine S_call T.hb148 rfl ?_
  refine FC.mono (BitW.pos_spec h W.T W.tb s sw.rt) ?_
  rintro v' h' ⟨rfl, rfl⟩
  refine S_nc rfl ?_
  first | refine S_fa0 T.f77_6 rfl ?_ | refine S_fa T.f77_6 rfl ?_
  refine S_st T.sz3 rfl rfl rfl rfl (by simp (disch := omega) only [dok]) ?_
  generalize hh : putH _ _ _ = h1
  have sw1 := sw.sx (h' := h1) (r' := { r with at_ := s.p }) (by rw [← hh]; exact (sw.x.put 6 _).cong (by simp [dcs])) (by rw [← hh]; exact Ext.put _ _ rfl) rfl rfl rfl
  have hEh1 : Ext (WTs W) h h1 := by rw [← hh]; exact Ext.put _ _ wd0
  clear hh
  try clear q0 q1 q2 q3 q4 q5 q6 q7 q8 q9 q10 q11 q12 q13 q14 q15 q16 q17 q18 q19 q20 dok
  obtain ⟨q0, q1, q2, q3, q4, q5, q6, q7, q8, q9, q10, q11, q12, q13, q14, q15, q16, q17, q18, q19, q20⟩ := dq (sw1.x)
  have dok := dok_ (sw1.x)
  try simp only [] at q0 q1 q2 q3 q4 q5 q6 q7 q8 q9 q10 q11 q12 q13 q14 q15 q16 q17 q18 q19 q20
  refine S_nil (hK2 _ _ (V_keep [0] (by simp only [proj, lk, reduceIte, Nat.reduceEqDiff]; rfl) ?_)); clear hK2
  refine V_sr T.mix (by kernel_rfl) (fun K3 hK3 => ?_)
  refine S_mv rfl ?_
  refine S_nc rfl ?_
  first | refine S_fa0 T.f77_0 rfl ?_ | refine S_fa T.f77_0 rfl ?_
  refine S_ldK T.ag47 rfl (fun K' hK' => ?_)
  simp (disch := omega) only [q0, q1, q2, q3, q4, q5, q6, q7, q8, q9, q10, q11, q12, q13, q14, q15, q16, q17, q18, q19, q20, oP_some, Nat.add_zero]
  refine hK' _ ?_; clear hK' K'
  refine S_call T.hb166 rfl ?_
  refine FC.mono (BitW.take_spec h1 W.T W.tb s sw1.rt (16)) ?_
  rintro v' h2 ⟨hv', rta, hXa⟩
  obtain ⟨ea, hea⟩ : ∃ x, x = skipE s (16) := ⟨_, rfl⟩
  obtain ⟨ca, hca⟩ : ∃ x, x = takeV s (16) := ⟨_, rfl⟩
  obtain ⟨sa, hsa⟩ : ∃ x, x = skipS s (16) := ⟨_, rfl⟩
  rw [← hea, ← hca] at hv'
  rw [← hsa] at rta
  subst hv'
  have sw2 := sw1.st rta hXa
  have hEh2 : Ext (WTs W) h1 h2 := hXa.mono fun _ e => wsT e
  try clear q0 q1 q2 q3 q4 q5 q6 q7 q8 q9 q10 q11 q12 q13 q14 q15 q16 q17 q18 q19 q20 dok
  obtain ⟨q0, q1, q2, q3, q4, q5, q6, q7, q8, q9, q10, q11, q12, q13, q14, q15, q16, q17, q18, q19, q20⟩ := dq (sw2.x)
  have dok := dok_ (sw2.x)
  try simp only [] at q0 q1 q2 q3 q4 q5 q6 q7 q8 q9 q10 q11 q12 q13 q14 q15 q16 q17 q18 q19 q20
  refine S_mv rfl ?_
  refine S_ex rfl rfl ?_
  refine S_ex rfl rfl ?_
  refine S_as rfl ?_
  refine S_as rfl ?_
  refine S_nil (hK3 _ _ (V_keep [0, 3, 4] (by simp only [proj, lk, reduceIte, Nat.reduceEqDiff]; rfl) ?_)); clear hK3
  refine V_seq (fun K4 hK4 => ?_)
  refine V_sr T.mix (by kernel_rfl) (fun K5 hK5 => ?_)
  refine S_mv rfl ?_
  refine S_bin rfl rfl rfl ?_
  refine S_nil (hK5 _ _ (V_keep [0, 3, 4, 22] (by simp only [proj, lk, reduceIte, Nat.reduceEqDiff]; rfl) ?_)); clear hK5
  refine V_condp rfl (fun c75 => ?_) (fun c75 => ?_)
  · skip
    refine V_sr T.mix (by kernel_rfl) (fun K6 hK6 => ?_)
    refine S_mv rfl ?_
    refine S_as rfl ?_
    refine S_nil (hK6 _ _ (V_keep [2] (by simp only [proj, lk, reduceIte, Nat.reduceEqDiff]; rfl) ?_)); clear hK6
    refine V_ret ?_
    refine hR _ _ (ret1 rfl rfl ?_)
    exact ⟨ea, _, out, _, _, _, rfl, sw2, m.no (e := ea) (a := s.p) (s' := sa) (by omega) (by have h9 := m.w.at_; omega) (.inl (by omega)) (by rw [rs2 hp]; simp only []; rw [sz_no (by rw [← hea]; omega), ← hea]) (fun _ => by rw [hsa, BitW.skipS_ne (by rw [← hea]; omega)]) (ad_of hsa) (ok_of hsa m.w.ok), hEh1.trans hEh2, by first | exact ⟨[], (List.append_nil _).symm⟩ | exact ⟨_, rfl⟩ | exact cpy_pre _ _ _⟩
  · skip
    refine V_skipk [0, 3] (by simp only [proj, lk, reduceIte, Nat.reduceEqDiff]; rfl) ?_
    refine hK4 _ _ ?_; clear hK4
    refine V_sr T.mix (by kernel_rfl) (fun K7 hK7 => ?_)
    refine S_mv rfl ?_
    refine S_mv rfl ?_
    refine S_nc rfl ?_
    first | refine S_fa0 T.f77_8 rfl ?_ | refine S_fa T.f77_8 rfl ?_
    refine S_st T.sz3 rfl rfl rfl rfl (by simp (disch := omega) only [dok]) ?_
    generalize hh : putH _ _ _ = h3
    have sw3 := sw2.sx (h' := h3) (r' := { { r with at_ := s.p } with du := ca }) (by rw [← hh]; exact (sw2.x.put 8 _).cong (by simp [dcs])) (by rw [← hh]; exact Ext.put _ _ rfl) rfl rfl rfl
    have hEh3 : Ext (WTs W) h2 h3 := by rw [← hh]; exact Ext.put _ _ wd0
    clear hh
    try clear q0 q1 q2 q3 q4 q5 q6 q7 q8 q9 q10 q11 q12 q13 q14 q15 q16 q17 q18 q19 q20 dok
    obtain ⟨q0, q1, q2, q3, q4, q5, q6, q7, q8, q9, q10, q11, q12, q13, q14, q15, q16, q17, q18, q19, q20⟩ := dq (sw3.x)
    have dok := dok_ (sw3.x)
    try simp only [] at q0 q1 q2 q3 q4 q5 q6 q7 q8 q9 q10 q11 q12 q13 q14 q15 q16 q17 q18 q19 q20
    refine S_nil (hK7 _ _ (V_keep [0, 3] (by simp only [proj, lk, reduceIte, Nat.reduceEqDiff]; rfl) ?_)); clear hK7
    refine V_sr T.mix (by kernel_rfl) (fun K8 hK8 => ?_)
    refine S_mv rfl ?_
    refine S_nc rfl ?_
    first | refine S_fa0 T.f77_4 rfl ?_ | refine S_fa T.f77_4 rfl ?_
    refine S_st T.sz3 rfl rfl rfl rfl (by simp (disch := omega) only [dok]) ?_
    generalize hh : putH _ _ _ = h4
    have sw4 := sw3.sx (h' := h4) (r' := { { { r with at_ := s.p } with du := ca } with ph := 3 }) (by rw [← hh]; exact (sw3.x.put 4 _).cong (by simp [dcs])) (by rw [← hh]; exact Ext.put _ _ rfl) rfl rfl rfl
    have hEh4 : Ext (WTs W) h3 h4 := by rw [← hh]; exact Ext.put _ _ wd0
    clear hh
    try clear q0 q1 q2 q3 q4 q5 q6 q7 q8 q9 q10 q11 q12 q13 q14 q15 q16 q17 q18 q19 q20 dok
    obtain ⟨q0, q1, q2, q3, q4, q5, q6, q7, q8, q9, q10, q11, q12, q13, q14, q15, q16, q17, q18, q19, q20⟩ := dq (sw4.x)
    have dok := dok_ (sw4.x)
    try simp only [] at q0 q1 q2 q3 q4 q5 q6 q7 q8 q9 q10 q11 q12 q13 q14 q15 q16 q17 q18 q19 q20
    refine S_nil (hK8 _ _ (V_keep [0, 3] (by simp only [proj, lk, reduceIte, Nat.reduceEqDiff]; rfl) ?_)); clear hK8
    refine V_seq (fun K9 hK9 => ?_)
    refine V_sr T.mix (by kernel_rfl) (fun K10 hK10 => ?_)
    refine S_mv rfl ?_
    refine S_bin rfl rfl rfl ?_
    refine S_nil (hK10 _ _ (V_keep [0, 32] (by simp only [proj, lk, reduceIte, Nat.reduceEqDiff]; rfl) ?_)); clear hK10
    refine V_condp rfl (fun c80 => ?_) (fun c80 => ?_)
    · skip
      refine V_reg T.mix (by kernel_rfl) ?_
      refine S_mv rfl ?_
      refine S_call T.hb170 rfl ?_
      refine FC.mono (shut_spec h4 W _ sa ua ub sw4) ?_
      rintro v' h5 ⟨rfl, sw5, hEh5⟩
      refine S_nilk [] (by simp only [proj, lk, reduceIte, Nat.reduceEqDiff]; rfl) ?_
      refine hK9 _ _ ?_; clear hK9
      refine V_sr T.mix (by kernel_rfl) (fun K11 hK11 => ?_)
      refine S_as rfl ?_
      refine S_nil (hK11 _ _ (V_keep [2] (by simp only [proj, lk, reduceIte, Nat.reduceEqDiff]; rfl) ?_)); clear hK11
      refine V_ret ?_
      refine hR _ _ (ret1 rfl rfl ?_)
      have h9 := m.size0 hp (by omega) (by omega)
      rw [← hca, ← hsa] at h9
      exact ⟨0, _, out, _, _, _, rfl, sw5, h9, (((hEh1.trans hEh2).trans hEh3).trans hEh4).trans hEh5, by first | exact ⟨[], (List.append_nil _).symm⟩ | exact ⟨_, rfl⟩ | exact cpy_pre _ _ _⟩
    · skip
      refine V_skipk [] (by simp only [proj, lk, reduceIte, Nat.reduceEqDiff]; rfl) ?_
      refine hK9 _ _ ?_; clear hK9
      refine V_sr T.mix (by kernel_rfl) (fun K12 hK12 => ?_)
      refine S_as rfl ?_
      refine S_nil (hK12 _ _ (V_keep [2] (by simp only [proj, lk, reduceIte, Nat.reduceEqDiff]; rfl) ?_)); clear hK12
      refine V_ret ?_
      refine hR _ _ (ret1 rfl rfl ?_)
      have h9 := m.size1 hp (by omega) (by omega)
      rw [← hca, ← hsa] at h9
      exact ⟨0, _, out, _, _, _, rfl, sw4, h9, ((hEh1.trans hEh2).trans hEh3).trans hEh4, by first | exact ⟨[], (List.append_nil _).symm⟩ | exact ⟨_, rfl⟩ | exact cpy_pre _ _ _⟩
set_option maxHeartbeats 1600000 in
theorem turnbyte_spec (h : Heap) (W : SA) (r : SR) (s : TS) (ua ub : HC) (sw : SW h W r s ua ub) (raw : ByteArray) (out : List Int) (sent : Nat) (fa fb : Nat → Nat) (m : MI raw r out sent s ua ub fa fb) (hp : r.ph = 3) :
    FC Tryz.prog 143 (#[.pointer (some ⟨W.D, 0, none⟩)] : Array Value) h fun rv h' => ∃ e r' out' s' va vb, rv = .int .i64 ((e : Nat) : Int) ∧ SW h' W r' s' va vb ∧ TPo raw r out sent s e r' out' s' va vb ∧ Ext (WTs W) h h' ∧ ∃ x, out' = out ++ x := by
  try clear q0 q1 q2 q3 q4 q5 q6 q7 q8 q9 q10 q11 q12 q13 q14 q15 q16 q17 q18 q19 q20 dok
  obtain ⟨q0, q1, q2, q3, q4, q5, q6, q7, q8, q9, q10, q11, q12, q13, q14, q15, q16, q17, q18, q19, q20⟩ := dq (sw.x)
  have dok := dok_ (sw.x)
  try simp only [] at q0 q1 q2 q3 q4 q5 q6 q7 q8 q9 q10 q11 q12 q13 q14 q15 q16 q17 q18 q19 q20
  have htt := m.w.si.tt
  have hdu := m.du hp
  refine FC_of [(0, .pointer (some ⟨W.D, 0, none⟩))] Tryz.func143 rfl Tryz.ntmps143 (by simp) rfl (fun R hR => ?_)
  refine V_sr T.mix (by kernel_rfl) (fun K1 hK1 => ?_)
  refine S_as rfl ?_
  refine S_nil (hK1 _ _ (V_keep [0] (by simp only [proj, lk, reduceIte, Nat.reduceEqDiff]; rfl) ?_)); clear hK1
  refine V_sr T.mix (by kernel_rfl) (fun K2 hK2 => ?_)
  refine S_mv rfl ?_
  refine S_mv rfl ?_
  refine S_nc rfl ?_
  first | refine S_fa0 T.f77_0 rfl ?_ | refine S_fa T.f77_0 rfl ?_
  refine S_ldK T.ag47 rfl (fun K' hK' => ?_)
  simp (disch := omega) only [q0, q1, q2, q3, q4, q5, q6, q7, q8, q9, q10, q11, q12, q13, q14, q15, q16, q17, q18, q19, q20, oP_some, Nat.add_zero]
  refine hK' _ ?_; clear hK' K'
  refine S_call T.hb148 rfl ?_
  refine FC.mono (BitW.pos_spec h W.T W.tb s sw.rt) ?_
  rintro v' h' ⟨rfl, rfl⟩
  refine S_nc rfl ?_
  first | refine S_fa0 T.f77_6 rfl ?_ | refine S_fa T.f77_6 rfl ?_
  refine S_st T.sz3 rfl rfl rfl rfl (by simp (disch := omega) only [dok]) ?_
  generalize hh : putH _ _ _ = h1
  have sw1 := sw.sx (h' := h1) (r' := { r with at_ := s.p }) (by rw [← hh]; exact (sw.x.put 6 _).cong (by simp [dcs])) (by rw [← hh]; exact Ext.put _ _ rfl) rfl rfl rfl
  have hEh1 : Ext (WTs W) h h1 := by rw [← hh]; exact Ext.put _ _ wd0
  clear hh
  try clear q0 q1 q2 q3 q4 q5 q6 q7 q8 q9 q10 q11 q12 q13 q14 q15 q16 q17 q18 q19 q20 dok
  obtain ⟨q0, q1, q2, q3, q4, q5, q6, q7, q8, q9, q10, q11, q12, q13, q14, q15, q16, q17, q18, q19, q20⟩ := dq (sw1.x)
  have dok := dok_ (sw1.x)
  try simp only [] at q0 q1 q2 q3 q4 q5 q6 q7 q8 q9 q10 q11 q12 q13 q14 q15 q16 q17 q18 q19 q20
  refine S_nil (hK2 _ _ (V_keep [0] (by simp only [proj, lk, reduceIte, Nat.reduceEqDiff]; rfl) ?_)); clear hK2
  refine V_sr T.mix (by kernel_rfl) (fun K3 hK3 => ?_)
  refine S_mv rfl ?_
  refine S_nc rfl ?_
  first | refine S_fa0 T.f77_0 rfl ?_ | refine S_fa T.f77_0 rfl ?_
  refine S_ldK T.ag47 rfl (fun K' hK' => ?_)
  simp (disch := omega) only [q0, q1, q2, q3, q4, q5, q6, q7, q8, q9, q10, q11, q12, q13, q14, q15, q16, q17, q18, q19, q20, oP_some, Nat.add_zero]
  refine hK' _ ?_; clear hK' K'
  refine S_call T.hb166 rfl ?_
  refine FC.mono (BitW.take_spec h1 W.T W.tb s sw1.rt (8)) ?_
  rintro v' h2 ⟨hv', rta, hXa⟩
  obtain ⟨ea, hea⟩ : ∃ x, x = skipE s (8) := ⟨_, rfl⟩
  obtain ⟨ca, hca⟩ : ∃ x, x = takeV s (8) := ⟨_, rfl⟩
  obtain ⟨sa, hsa⟩ : ∃ x, x = skipS s (8) := ⟨_, rfl⟩
  rw [← hea, ← hca] at hv'
  rw [← hsa] at rta
  subst hv'
  have sw2 := sw1.st rta hXa
  have hEh2 : Ext (WTs W) h1 h2 := hXa.mono fun _ e => wsT e
  try clear q0 q1 q2 q3 q4 q5 q6 q7 q8 q9 q10 q11 q12 q13 q14 q15 q16 q17 q18 q19 q20 dok
  obtain ⟨q0, q1, q2, q3, q4, q5, q6, q7, q8, q9, q10, q11, q12, q13, q14, q15, q16, q17, q18, q19, q20⟩ := dq (sw2.x)
  have dok := dok_ (sw2.x)
  try simp only [] at q0 q1 q2 q3 q4 q5 q6 q7 q8 q9 q10 q11 q12 q13 q14 q15 q16 q17 q18 q19 q20
  refine S_mv rfl ?_
  refine S_ex rfl rfl ?_
  refine S_ex rfl rfl ?_
  refine S_as rfl ?_
  refine S_as rfl ?_
  refine S_nil (hK3 _ _ (V_keep [0, 3, 4] (by simp only [proj, lk, reduceIte, Nat.reduceEqDiff]; rfl) ?_)); clear hK3
  refine V_seq (fun K4 hK4 => ?_)
  refine V_sr T.mix (by kernel_rfl) (fun K5 hK5 => ?_)
  refine S_mv rfl ?_
  refine S_bin rfl rfl rfl ?_
  refine S_nil (hK5 _ _ (V_keep [0, 3, 4, 22] (by simp only [proj, lk, reduceIte, Nat.reduceEqDiff]; rfl) ?_)); clear hK5
  refine V_condp rfl (fun c90 => ?_) (fun c90 => ?_)
  · skip
    refine V_sr T.mix (by kernel_rfl) (fun K6 hK6 => ?_)
    refine S_mv rfl ?_
    refine S_as rfl ?_
    refine S_nil (hK6 _ _ (V_keep [2] (by simp only [proj, lk, reduceIte, Nat.reduceEqDiff]; rfl) ?_)); clear hK6
    refine V_ret ?_
    refine hR _ _ (ret1 rfl rfl ?_)
    exact ⟨ea, _, out, _, _, _, rfl, sw2, m.no (e := ea) (a := s.p) (s' := sa) (by omega) (by have h9 := m.w.at_; omega) (.inl (by omega)) (by rw [rs3 hp]; simp only []; rw [by_no (by omega) (by rw [← hea]; omega), ← hea]) (fun _ => by rw [hsa, BitW.skipS_ne (by rw [← hea]; omega)]) (ad_of hsa) (ok_of hsa m.w.ok), hEh1.trans hEh2, by first | exact ⟨[], (List.append_nil _).symm⟩ | exact ⟨_, rfl⟩ | exact cpy_pre _ _ _⟩
  · skip
    refine V_skipk [0, 3] (by simp only [proj, lk, reduceIte, Nat.reduceEqDiff]; rfl) ?_
    refine hK4 _ _ ?_; clear hK4
    refine V_seq (fun K7 hK7 => ?_)
    refine V_sr T.mix (by kernel_rfl) (fun K8 hK8 => ?_)
    refine S_mv rfl ?_
    refine S_nc rfl ?_
    first | refine S_fa0 T.f77_19 rfl ?_ | refine S_fa T.f77_19 rfl ?_
    refine S_ldK T.ag3 rfl (fun K' hK' => ?_)
    simp (disch := omega) only [q0, q1, q2, q3, q4, q5, q6, q7, q8, q9, q10, q11, q12, q13, q14, q15, q16, q17, q18, q19, q20, oP_some, Nat.add_zero]
    refine hK' _ ?_; clear hK' K'
    refine S_bin rfl rfl rfl ?_
    refine S_nil (hK8 _ _ (V_keep [0, 3, 28] (by simp only [proj, lk, reduceIte, Nat.reduceEqDiff]; rfl) ?_)); clear hK8
    refine V_condp rfl (fun c93 => ?_) (fun c93 => ?_)
    · skip
      refine V_sr T.mix (by kernel_rfl) (fun K9 hK9 => ?_)
      refine S_as rfl ?_
      refine S_nil (hK9 _ _ (V_keep [2] (by simp only [proj, lk, reduceIte, Nat.reduceEqDiff]; rfl) ?_)); clear hK9
      refine V_ret ?_
      refine hR _ _ (ret1 rfl rfl ?_)
      exact ⟨10, _, out, _, _, _, rfl, sw2, m.no (e := 10) (a := s.p) (s' := sa) (x := skipS s 8) (by omega) (Nat.le_refl _) (.inl (by omega)) (by rw [rs3 hp]; simp only []; rw [by_out (by omega) (by rw [← hea]; omega) (by omega)]) (fun z => by omega) (ad_of hsa) (ok_of hsa m.w.ok), hEh1.trans hEh2, by first | exact ⟨[], (List.append_nil _).symm⟩ | exact ⟨_, rfl⟩ | exact cpy_pre _ _ _⟩
    · skip
      refine V_skipk [0, 3] (by simp only [proj, lk, reduceIte, Nat.reduceEqDiff]; rfl) ?_
      refine hK7 _ _ ?_; clear hK7
      refine V_sr T.mix (by kernel_rfl) (fun K10 hK10 => ?_)
      refine S_mv rfl ?_
      refine S_mv rfl ?_
      have hc8 : ca < 256 := by rw [hca]; exact take_lt (k := 8) (by omega)
      refine S_cvb T.us3 T.in5 rfl (by omega) (by omega) ?_
      refine S_call T.hb171 rfl ?_
      refine FC.mono (give_spec h2 W _ sa ua ub sw2 ((ca : Int)) (by simp only []; have h9 := m.w.si.n; have h8 := m.w.si.tt; omega) (by simp only []; have h9 := m.w.si.w; omega) (by simp only []; omega)) ?_
      rintro v' h3 ⟨rfl, sw3, hEh3⟩
      try clear q0 q1 q2 q3 q4 q5 q6 q7 q8 q9 q10 q11 q12 q13 q14 q15 q16 q17 q18 q19 q20 dok
      obtain ⟨q0, q1, q2, q3, q4, q5, q6, q7, q8, q9, q10, q11, q12, q13, q14, q15, q16, q17, q18, q19, q20⟩ := dq (sw3.x)
      have dok := dok_ (sw3.x)
      try simp only [] at q0 q1 q2 q3 q4 q5 q6 q7 q8 q9 q10 q11 q12 q13 q14 q15 q16 q17 q18 q19 q20
      refine S_nil (hK10 _ _ (V_keep [0] (by simp only [proj, lk, reduceIte, Nat.reduceEqDiff]; rfl) ?_)); clear hK10
      refine V_sr T.mix (by kernel_rfl) (fun K11 hK11 => ?_)
      refine S_mv rfl ?_
      refine S_nc rfl ?_
      first | refine S_fa0 T.f77_8 rfl ?_ | refine S_fa T.f77_8 rfl ?_
      refine S_ldK T.ag3 rfl (fun K' hK' => ?_)
      simp (disch := omega) only [q0, q1, q2, q3, q4, q5, q6, q7, q8, q9, q10, q11, q12, q13, q14, q15, q16, q17, q18, q19, q20, oP_some, Nat.add_zero]
      refine hK' _ ?_; clear hK' K'
      have edu : (giv { r with at_ := s.p } (ca : Int)).du = r.du := rfl
      rw [edu] at q8
      refine S_subN (r.du - 1) rfl rfl (by simp only [giv]; omega) (by omega) ?_
      refine S_nc rfl ?_
      first | refine S_fa0 T.f77_8 rfl ?_ | refine S_fa T.f77_8 rfl ?_
      refine S_st T.sz3 rfl rfl rfl rfl (by simp (disch := omega) only [dok]) ?_
      generalize hh : putH _ _ _ = h4
      have sw4 := sw3.sx (h' := h4) (r' := { (giv { r with at_ := s.p } (ca : Int)) with du := r.du - 1 }) (by rw [← hh]; exact (sw3.x.put 8 _).cong (by simp [dcs])) (by rw [← hh]; exact Ext.put _ _ rfl) rfl rfl rfl
      have hEh4 : Ext (WTs W) h3 h4 := by rw [← hh]; exact Ext.put _ _ wd0
      clear hh
      try clear q0 q1 q2 q3 q4 q5 q6 q7 q8 q9 q10 q11 q12 q13 q14 q15 q16 q17 q18 q19 q20 dok
      obtain ⟨q0, q1, q2, q3, q4, q5, q6, q7, q8, q9, q10, q11, q12, q13, q14, q15, q16, q17, q18, q19, q20⟩ := dq (sw4.x)
      have dok := dok_ (sw4.x)
      try simp only [] at q0 q1 q2 q3 q4 q5 q6 q7 q8 q9 q10 q11 q12 q13 q14 q15 q16 q17 q18 q19 q20
      refine S_nil (hK11 _ _ (V_keep [0] (by simp only [proj, lk, reduceIte, Nat.reduceEqDiff]; rfl) ?_)); clear hK11
      refine V_seq (fun K12 hK12 => ?_)
      refine V_sr T.mix (by kernel_rfl) (fun K13 hK13 => ?_)
      refine S_mv rfl ?_
      refine S_nc rfl ?_
      first | refine S_fa0 T.f77_8 rfl ?_ | refine S_fa T.f77_8 rfl ?_
      refine S_ldK T.ag3 rfl (fun K' hK' => ?_)
      simp (disch := omega) only [q0, q1, q2, q3, q4, q5, q6, q7, q8, q9, q10, q11, q12, q13, q14, q15, q16, q17, q18, q19, q20, oP_some, Nat.add_zero]
      refine hK' _ ?_; clear hK' K'
      refine S_bin rfl rfl rfl ?_
      refine S_nil (hK13 _ _ (V_keep [0, 44] (by simp only [proj, lk, reduceIte, Nat.reduceEqDiff]; rfl) ?_)); clear hK13
      refine V_condp rfl (fun c98 => ?_) (fun c98 => ?_)
      · skip
        refine V_reg T.mix (by kernel_rfl) ?_
        refine S_mv rfl ?_
        refine S_call T.hb170 rfl ?_
        refine FC.mono (shut_spec h4 W _ sa ua ub sw4) ?_
        rintro v' h5 ⟨rfl, sw5, hEh5⟩
        refine S_nilk [] (by simp only [proj, lk, reduceIte, Nat.reduceEqDiff]; rfl) ?_
        refine hK12 _ _ ?_; clear hK12
        refine V_sr T.mix (by kernel_rfl) (fun K14 hK14 => ?_)
        refine S_as rfl ?_
        refine S_nil (hK14 _ _ (V_keep [2] (by simp only [proj, lk, reduceIte, Nat.reduceEqDiff]; rfl) ?_)); clear hK14
        refine V_ret ?_
        refine hR _ _ (ret1 rfl rfl ?_)
        have hd1 : r.du = 1 := by omega
        have h9 := m.byte0 hp (by omega) (by omega) hd1
        rw [← hca, ← hsa] at h9
        rw [show r.du - 1 = 0 by omega] at sw5
        exact ⟨0, _, _, _, _, _, rfl, sw5, h9, (((hEh1.trans hEh2).trans hEh3).trans hEh4).trans hEh5, by first | exact ⟨[], (List.append_nil _).symm⟩ | exact ⟨_, rfl⟩ | exact cpy_pre _ _ _⟩
      · skip
        refine V_skipk [] (by simp only [proj, lk, reduceIte, Nat.reduceEqDiff]; rfl) ?_
        refine hK12 _ _ ?_; clear hK12
        refine V_sr T.mix (by kernel_rfl) (fun K15 hK15 => ?_)
        refine S_as rfl ?_
        refine S_nil (hK15 _ _ (V_keep [2] (by simp only [proj, lk, reduceIte, Nat.reduceEqDiff]; rfl) ?_)); clear hK15
        refine V_ret ?_
        refine hR _ _ (ret1 rfl rfl ?_)
        have h9 := m.byte1 hp (by omega) (by omega) (by omega)
        rw [← hca, ← hsa] at h9
        exact ⟨0, _, _, _, _, _, rfl, sw4, h9, ((hEh1.trans hEh2).trans hEh3).trans hEh4, by first | exact ⟨[], (List.append_nil _).symm⟩ | exact ⟨_, rfl⟩ | exact cpy_pre _ _ _⟩
end Go.Proofs.Qxb6500404aGreat
