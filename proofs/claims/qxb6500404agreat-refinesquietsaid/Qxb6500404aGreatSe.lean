import Derived.Test.Qxb6500404aGreatSd
set_option linter.unusedVariables false
set_option linter.unusedSimpArgs false
namespace Go.Proofs.Qxb6500404aGreat
open Go.Eng Go.Bits Go.Blk HufW

section cy
/-- the byte that is copied lies in the ring -/
theorem ring_at {r : SR} {o : List Int} {sent d f : Nat} (si : SI r o sent) (h1 : 1 ≤ d) (h2 : d ≤ 16) (h3 : d ≤ o.length) (hf : f = (o.length - d) % 16) : r.rg f = o.getD (o.length - d) 0 := by
  rw [hf]; exact si.rg _ (by omega) (by omega)
theorem givs_w {r : SR} {out : List Int} {d : Nat} (k : Nat) : givs r out d (k + 1) = giv (givs r out d k) ((cpy out d k).getD ((cpy out d k).length - d) 0) := rfl
end cy
theorem MI.fill {raw : ByteArray} {r : SR} {out : List Int} {sent : Nat} {s : TS} {ua ub : HC} {fa fb : Nat → Nat} (m : MI raw r out sent s ua ub fa fb) {b : Nat} (hb : b ≤ 16) : r.fl < b ↔ out.length < b := by
  have := m.w.si.fl; omega
set_option maxHeartbeats 3200000 in
theorem turnsym_spec (h : Heap) (W : SA) (r : SR) (s : TS) (ua ub : HC) (sw : SW h W r s ua ub) (raw : ByteArray) (out : List Int) (sent : Nat) (fa fb : Nat → Nat) (m : MI raw r out sent s ua ub fa fb) (hp : r.ph = 5) :
    FC Tryz.prog 145 (#[.pointer (some ⟨W.D, 0, none⟩)] : Array Value) h fun rv h' => ∃ e r' out' s' va vb, rv = .int .i64 ((e : Nat) : Int) ∧ SW h' W r' s' va vb ∧ TPo raw r out sent s e r' out' s' va vb ∧ Ext (WTs W) h h' ∧ ∃ x, out' = out ++ x := by
  try clear q0 q1 q2 q3 q4 q5 q6 q7 q8 q9 q10 q11 q12 q13 q14 q15 q16 q17 q18 q19 q20 dok
  obtain ⟨q0, q1, q2, q3, q4, q5, q6, q7, q8, q9, q10, q11, q12, q13, q14, q15, q16, q17, q18, q19, q20⟩ := dq (sw.x)
  have dok := dok_ (sw.x)
  try simp only [] at q0 q1 q2 q3 q4 q5 q6 q7 q8 q9 q10 q11 q12 q13 q14 q15 q16 q17 q18 q19 q20
  obtain ⟨k1, k2, k3, k4, k5⟩ := m.ck (by omega) (by omega)
  have htt := m.w.si.tt
  have hsn := m.w.si.n
  refine FC_of [(0, .pointer (some ⟨W.D, 0, none⟩))] Tryz.func145 rfl Tryz.ntmps145 (by simp) rfl (fun R hR => ?_)
  refine V_sr T.mix (by kernel_rfl) (fun K1 hK1 => ?_)
  refine S_as rfl ?_
  refine S_nil (hK1 _ _ (V_keep [0] (by simp only [proj, lk, reduceIte, Nat.reduceEqDiff]; rfl) ?_)); clear hK1
  refine V_sr T.mix (by kernel_rfl) (fun K2 hK2 => ?_)
  refine S_mv rfl ?_
  refine S_mv rfl ?_
  refine S_nc rfl ?_
  first | refine S_fa0 T.f77_0 rfl ?_ | refine S_fa T.f77_0 rfl ?_
  refine S_ldK T.ag47 rfl (fun K' hK' => ?_)
  simp (disch := omega) only [q0, q1, q2, q3, q4, q5, q6, q7, q8, q9, q10, q11, q12, q13, q14, q15, q16, q17, q18, q19, q20, oP_some, Nat.add_zero]
  refine hK' _ ?_; clear hK' K'
  refine S_call T.hb148 rfl ?_
  refine FC.mono (BitW.pos_spec h W.T W.tb s sw.rt) ?_
  rintro v' h' ⟨rfl, rfl⟩
  refine S_nc rfl ?_
  first | refine S_fa0 T.f77_6 rfl ?_ | refine S_fa T.f77_6 rfl ?_
  refine S_st T.sz3 rfl rfl rfl rfl (by simp (disch := omega) only [dok]) ?_
  generalize hh : putH _ _ _ = h1
  have sw1 := sw.sx (h' := h1) (r' := { r with at_ := s.p }) (by rw [← hh]; exact (sw.x.put 6 _).cong (by simp [dcs])) (by rw [← hh]; exact Ext.put _ _ rfl) rfl rfl rfl
  have hEh1 : Ext (WTs W) h h1 := by rw [← hh]; exact Ext.put _ _ wd0
  clear hh
  try clear q0 q1 q2 q3 q4 q5 q6 q7 q8 q9 q10 q11 q12 q13 q14 q15 q16 q17 q18 q19 q20 dok
  obtain ⟨q0, q1, q2, q3, q4, q5, q6, q7, q8, q9, q10, q11, q12, q13, q14, q15, q16, q17, q18, q19, q20⟩ := dq (sw1.x)
  have dok := dok_ (sw1.x)
  try simp only [] at q0 q1 q2 q3 q4 q5 q6 q7 q8 q9 q10 q11 q12 q13 q14 q15 q16 q17 q18 q19 q20
  refine S_nil (hK2 _ _ (V_keep [0] (by simp only [proj, lk, reduceIte, Nat.reduceEqDiff]; rfl) ?_)); clear hK2
  refine V_sr T.mix (by kernel_rfl) (fun K3 hK3 => ?_)
  refine S_mv rfl ?_
  refine S_nc rfl ?_
  first | refine S_fa0 T.f77_0 rfl ?_ | refine S_fa T.f77_0 rfl ?_
  refine S_ldK T.ag47 rfl (fun K' hK' => ?_)
  simp (disch := omega) only [q0, q1, q2, q3, q4, q5, q6, q7, q8, q9, q10, q11, q12, q13, q14, q15, q16, q17, q18, q19, q20, oP_some, Nat.add_zero]
  refine hK' _ ?_; clear hK' K'
  refine S_call T.hb172 rfl ?_
  refine FC.mono (BitW.peek_spec h1 W.T W.tb s sw1.rt 10) ?_
  rintro v' h' ⟨rfl, rfl⟩
  refine S_mv rfl ?_
  refine S_ex rfl rfl ?_
  refine S_ex rfl rfl ?_
  refine S_as rfl ?_
  refine S_as rfl ?_
  refine S_nil (hK3 _ _ (V_keep [0, 3, 4] (by simp only [proj, lk, reduceIte, Nat.reduceEqDiff]; rfl) ?_)); clear hK3
  refine V_sr T.mix (by kernel_rfl) (fun K4 hK4 => ?_)
  refine S_mv rfl ?_
  refine S_nc rfl ?_
  first | refine S_fa0 T.f77_1 rfl ?_ | refine S_fa T.f77_1 rfl ?_
  refine S_ldK T.ag49 rfl (fun K' hK' => ?_)
  simp (disch := omega) only [q0, q1, q2, q3, q4, q5, q6, q7, q8, q9, q10, q11, q12, q13, q14, q15, q16, q17, q18, q19, q20, oP_some, Nat.add_zero]
  refine hK' _ ?_; clear hK' K'
  refine S_mv rfl ?_
  refine S_mv rfl ?_
  refine S_call T.hb175 rfl ?_
  refine FC.mono (find_spec h1 W.XA ua sw1.ca fa k1 ((peekV s 10 : Nat) : Int) ((gotF s 10 : Nat) : Int)) ?_
  rw [k2, fnd_sy]
  rcases hq_ : syQ s fa 265 with ⟨z1, z2, z3⟩
  have hsy : syF s fa 265 = if z3 ≠ 0 then ⟨0, z3, s⟩ else ⟨z1, 0, skipS s (z2 : Int)⟩ := sy_q (q := (z1, z2, z3)) hq_.symm
  unfold tri
  rintro v' h' ⟨rfl, rfl⟩
  refine S_mv rfl ?_
  refine S_ex rfl rfl ?_
  refine S_ex rfl rfl ?_
  refine S_ex rfl rfl ?_
  refine S_as rfl ?_
  refine S_as rfl ?_
  refine S_as rfl ?_
  refine S_nil (hK4 _ _ (V_keep [0, 5, 6, 7] (by simp only [proj, lk, reduceIte, Nat.reduceEqDiff]; rfl) ?_)); clear hK4
  refine V_seq (fun K5 hK5 => ?_)
  refine V_sr T.mix (by kernel_rfl) (fun K6 hK6 => ?_)
  refine S_mv rfl ?_
  refine S_bin rfl rfl rfl ?_
  refine S_nil (hK6 _ _ (V_keep [0, 5, 6, 7, 36] (by simp only [proj, lk, reduceIte, Nat.reduceEqDiff]; rfl) ?_)); clear hK6
  refine V_condp rfl (fun c12 => ?_) (fun c12 => ?_)
  · skip
    rw [if_pos (by omega)] at hsy
    refine V_sr T.mix (by kernel_rfl) (fun K7 hK7 => ?_)
    refine S_mv rfl ?_
    refine S_as rfl ?_
    refine S_nil (hK7 _ _ (V_keep [2] (by simp only [proj, lk, reduceIte, Nat.reduceEqDiff]; rfl) ?_)); clear hK7
    refine V_ret ?_
    refine hR _ _ (ret1 rfl rfl ?_)
    exact ⟨z3, _, out, _, _, _, rfl, sw1, m.no (e := z3) (a := s.p) (s' := s) (x := s) (by omega) (by have h9 := m.w.at_; omega) (.inl (by omega)) (by rw [rs5 hp]; simp only []; rw [sy_no (by rw [hsy]; simp only []; omega), hsy]) (fun _ => rfl) (Ad.refl _) (m.w.ok), hEh1, by first | exact ⟨[], (List.append_nil _).symm⟩ | exact ⟨_, rfl⟩ | exact cpy_pre _ _ _⟩
  · skip
    rw [if_neg (by omega)] at hsy
    have he0 : (syF s fa 265).e = 0 := by rw [hsy]
    have hz1 := (sy_ok he0).1
    have hv0 : (syF s fa 265).v = z1 := by rw [hsy]
    rw [hv0] at hz1
    refine V_skipk [0, 5, 6] (by simp only [proj, lk, reduceIte, Nat.reduceEqDiff]; rfl) ?_
    refine hK5 _ _ ?_; clear hK5
    refine V_sr T.mix (by kernel_rfl) (fun K8 hK8 => ?_)
    refine S_mv rfl ?_
    refine S_nc rfl ?_
    first | refine S_fa0 T.f77_0 rfl ?_ | refine S_fa T.f77_0 rfl ?_
    refine S_ldK T.ag47 rfl (fun K' hK' => ?_)
    simp (disch := omega) only [q0, q1, q2, q3, q4, q5, q6, q7, q8, q9, q10, q11, q12, q13, q14, q15, q16, q17, q18, q19, q20, oP_some, Nat.add_zero]
    refine hK' _ ?_; clear hK' K'
    refine S_mv rfl ?_
    refine S_call T.hb173 rfl ?_
    refine FC.mono (BitW.skip_spec h1 W.T W.tb s sw1.rt ((z2 : Int))) ?_
    rintro v' h2 ⟨rfl, rtb, hXb⟩
    obtain ⟨sb, hsb⟩ : ∃ x, x = skipS s ((z2 : Int)) := ⟨_, rfl⟩
    rw [← hsb] at rtb
    have sw2 := sw1.st rtb hXb
    have hEh2 : Ext (WTs W) h1 h2 := hXb.mono fun _ e => wsT e
    try clear q0 q1 q2 q3 q4 q5 q6 q7 q8 q9 q10 q11 q12 q13 q14 q15 q16 q17 q18 q19 q20 dok
    obtain ⟨q0, q1, q2, q3, q4, q5, q6, q7, q8, q9, q10, q11, q12, q13, q14, q15, q16, q17, q18, q19, q20⟩ := dq (sw2.x)
    have dok := dok_ (sw2.x)
    try simp only [] at q0 q1 q2 q3 q4 q5 q6 q7 q8 q9 q10 q11 q12 q13 q14 q15 q16 q17 q18 q19 q20
    refine S_nil (hK8 _ _ (V_keep [0, 5] (by simp only [proj, lk, reduceIte, Nat.reduceEqDiff]; rfl) ?_)); clear hK8
    refine V_seq (fun K9 hK9 => ?_)
    refine V_sr T.mix (by kernel_rfl) (fun K10 hK10 => ?_)
    refine S_mv rfl ?_
    refine S_bin rfl rfl rfl ?_
    refine S_nil (hK10 _ _ (V_keep [0, 5, 45] (by simp only [proj, lk, reduceIte, Nat.reduceEqDiff]; rfl) ?_)); clear hK10
    refine V_condp rfl (fun c16 => ?_) (fun c16 => ?_)
    · skip
      refine V_sr T.mix (by kernel_rfl) (fun K11 hK11 => ?_)
      refine S_mv rfl ?_
      refine S_call T.hb170 rfl ?_
      refine FC.mono (shut_spec h2 W _ sb ua ub sw2) ?_
      rintro v' h3 ⟨rfl, sw3, hEh3⟩
      refine S_nil (hK11 _ _ (V_keep [] (by simp only [proj, lk, reduceIte, Nat.reduceEqDiff]; rfl) ?_)); clear hK11
      refine V_sr T.mix (by kernel_rfl) (fun K12 hK12 => ?_)
      refine S_as rfl ?_
      refine S_nil (hK12 _ _ (V_keep [2] (by simp only [proj, lk, reduceIte, Nat.reduceEqDiff]; rfl) ?_)); clear hK12
      refine V_ret ?_
      refine hR _ _ (ret1 rfl rfl ?_)
      have h9 := m.symEob hp he0 (by omega)
      rw [hsy] at h9
      simp only [] at h9
      rw [← hsb] at h9
      exact ⟨0, _, out, _, _, _, rfl, sw3, h9, (hEh1.trans hEh2).trans hEh3, by first | exact ⟨[], (List.append_nil _).symm⟩ | exact ⟨_, rfl⟩ | exact cpy_pre _ _ _⟩
    · skip
      refine V_skipk [0, 5] (by simp only [proj, lk, reduceIte, Nat.reduceEqDiff]; rfl) ?_
      refine hK9 _ _ ?_; clear hK9
      refine V_seq (fun K13 hK13 => ?_)
      refine V_sr T.mix (by kernel_rfl) (fun K14 hK14 => ?_)
      refine S_mv rfl ?_
      refine S_bin rfl rfl rfl ?_
      refine S_nil (hK14 _ _ (V_keep [0, 5, 49] (by simp only [proj, lk, reduceIte, Nat.reduceEqDiff]; rfl) ?_)); clear hK14
      refine V_condp rfl (fun c20 => ?_) (fun c20 => ?_)
      · skip
        refine V_seq (fun K15 hK15 => ?_)
        refine V_sr T.mix (by kernel_rfl) (fun K16 hK16 => ?_)
        refine S_mv rfl ?_
        refine S_nc rfl ?_
        first | refine S_fa0 T.f77_19 rfl ?_ | refine S_fa T.f77_19 rfl ?_
        refine S_ldK T.ag3 rfl (fun K' hK' => ?_)
        simp (disch := omega) only [q0, q1, q2, q3, q4, q5, q6, q7, q8, q9, q10, q11, q12, q13, q14, q15, q16, q17, q18, q19, q20, oP_some, Nat.add_zero]
        refine hK' _ ?_; clear hK' K'
        refine S_bin rfl rfl rfl ?_
        refine S_nil (hK16 _ _ (V_keep [0, 5, 54] (by simp only [proj, lk, reduceIte, Nat.reduceEqDiff]; rfl) ?_)); clear hK16
        refine V_condp rfl (fun c21 => ?_) (fun c21 => ?_)
        · skip
          refine V_sr T.mix (by kernel_rfl) (fun K17 hK17 => ?_)
          refine S_as rfl ?_
          refine S_nil (hK17 _ _ (V_keep [2] (by simp only [proj, lk, reduceIte, Nat.reduceEqDiff]; rfl) ?_)); clear hK17
          refine V_ret ?_
          refine hR _ _ (ret1 rfl rfl ?_)
          exact ⟨10, _, out, _, _, _, rfl, sw2, m.no (e := 10) (a := s.p) (s' := sb) (x := (syF s fa 265).s) (by omega) (by have h9 := m.w.at_; omega) (.inl (by omega)) (by rw [rs5 hp]; simp only []; rw [sy_full he0 (by omega) (by omega)]) (fun z => by omega) (ad_of hsb) (ok_of hsb m.w.ok), hEh1.trans hEh2, by first | exact ⟨[], (List.append_nil _).symm⟩ | exact ⟨_, rfl⟩ | exact cpy_pre _ _ _⟩
        · skip
          refine V_skipk [0, 5] (by simp only [proj, lk, reduceIte, Nat.reduceEqDiff]; rfl) ?_
          refine hK15 _ _ ?_; clear hK15
          refine V_sr T.mix (by kernel_rfl) (fun K18 hK18 => ?_)
          refine S_mv rfl ?_
          refine S_mv rfl ?_
          refine S_cvb T.us3 T.in5 rfl (by omega) (by omega) ?_
          refine S_call T.hb171 rfl ?_
          refine FC.mono (give_spec h2 W _ sb ua ub sw2 ((z1 : Int)) (by simp only []; have h9 := m.w.si.n; have h8 := m.w.si.tt; omega) (by simp only []; have h9 := m.w.si.w; omega) (by simp only []; omega)) ?_
          rintro v' h3 ⟨rfl, sw3, hEh3⟩
          try clear q0 q1 q2 q3 q4 q5 q6 q7 q8 q9 q10 q11 q12 q13 q14 q15 q16 q17 q18 q19 q20 dok
          obtain ⟨q0, q1, q2, q3, q4, q5, q6, q7, q8, q9, q10, q11, q12, q13, q14, q15, q16, q17, q18, q19, q20⟩ := dq (sw3.x)
          have dok := dok_ (sw3.x)
          try simp only [] at q0 q1 q2 q3 q4 q5 q6 q7 q8 q9 q10 q11 q12 q13 q14 q15 q16 q17 q18 q19 q20
          refine S_nil (hK18 _ _ (V_keep [] (by simp only [proj, lk, reduceIte, Nat.reduceEqDiff]; rfl) ?_)); clear hK18
          refine V_sr T.mix (by kernel_rfl) (fun K19 hK19 => ?_)
          refine S_as rfl ?_
          refine S_nil (hK19 _ _ (V_keep [2] (by simp only [proj, lk, reduceIte, Nat.reduceEqDiff]; rfl) ?_)); clear hK19
          refine V_ret ?_
          refine hR _ _ (ret1 rfl rfl ?_)
          have h9 := m.symLit hp he0 (by omega) (by omega)
          rw [hsy] at h9
          simp only [] at h9
          rw [← hsb] at h9
          exact ⟨0, _, _, _, _, _, rfl, sw3, h9, (hEh1.trans hEh2).trans hEh3, by first | exact ⟨[], (List.append_nil _).symm⟩ | exact ⟨_, rfl⟩ | exact cpy_pre _ _ _⟩
      · skip
        refine V_skipk [0, 5] (by simp only [proj, lk, reduceIte, Nat.reduceEqDiff]; rfl) ?_
        refine hK13 _ _ ?_; clear hK13
        refine V_sr T.mix (by kernel_rfl) (fun K20 hK20 => ?_)
        refine S_mv rfl ?_
        refine S_mv rfl ?_
        refine S_subN (z1 - 256) rfl rfl (by omega) (by omega) ?_
        refine S_subN (z1 - 257) rfl rfl (by omega) (by omega) ?_
        refine S_addN (z1 - 254) rfl rfl (by omega) (by omega) ?_
        refine S_nc rfl ?_
        first | refine S_fa0 T.f77_11 rfl ?_ | refine S_fa T.f77_11 rfl ?_
        refine S_st T.sz3 rfl rfl rfl rfl (by simp (disch := omega) only [dok]) ?_
        generalize hh : putH _ _ _ = h3
        have sw3 := sw2.sx (h' := h3) (r' := { { r with at_ := s.p } with rn := z1 - 254 }) (by rw [← hh]; exact (sw2.x.put 11 _).cong (by simp [dcs])) (by rw [← hh]; exact Ext.put _ _ rfl) rfl rfl rfl
        have hEh3 : Ext (WTs W) h2 h3 := by rw [← hh]; exact Ext.put _ _ wd0
        clear hh
        try clear q0 q1 q2 q3 q4 q5 q6 q7 q8 q9 q10 q11 q12 q13 q14 q15 q16 q17 q18 q19 q20 dok
        obtain ⟨q0, q1, q2, q3, q4, q5, q6, q7, q8, q9, q10, q11, q12, q13, q14, q15, q16, q17, q18, q19, q20⟩ := dq (sw3.x)
        have dok := dok_ (sw3.x)
        try simp only [] at q0 q1 q2 q3 q4 q5 q6 q7 q8 q9 q10 q11 q12 q13 q14 q15 q16 q17 q18 q19 q20
        refine S_nil (hK20 _ _ (V_keep [0] (by simp only [proj, lk, reduceIte, Nat.reduceEqDiff]; rfl) ?_)); clear hK20
        refine V_sr T.mix (by kernel_rfl) (fun K21 hK21 => ?_)
        refine S_mv rfl ?_
        refine S_nc rfl ?_
        first | refine S_fa0 T.f77_4 rfl ?_ | refine S_fa T.f77_4 rfl ?_
        refine S_st T.sz3 rfl rfl rfl rfl (by simp (disch := omega) only [dok]) ?_
        generalize hh : putH _ _ _ = h4
        have sw4 := sw3.sx (h' := h4) (r' := { { { r with at_ := s.p } with rn := z1 - 254 } with ph := 6 }) (by rw [← hh]; exact (sw3.x.put 4 _).cong (by simp [dcs])) (by rw [← hh]; exact Ext.put _ _ rfl) rfl rfl rfl
        have hEh4 : Ext (WTs W) h3 h4 := by rw [← hh]; exact Ext.put _ _ wd0
        clear hh
        try clear q0 q1 q2 q3 q4 q5 q6 q7 q8 q9 q10 q11 q12 q13 q14 q15 q16 q17 q18 q19 q20 dok
        obtain ⟨q0, q1, q2, q3, q4, q5, q6, q7, q8, q9, q10, q11, q12, q13, q14, q15, q16, q17, q18, q19, q20⟩ := dq (sw4.x)
        have dok := dok_ (sw4.x)
        try simp only [] at q0 q1 q2 q3 q4 q5 q6 q7 q8 q9 q10 q11 q12 q13 q14 q15 q16 q17 q18 q19 q20
        refine S_nil (hK21 _ _ (V_keep [] (by simp only [proj, lk, reduceIte, Nat.reduceEqDiff]; rfl) ?_)); clear hK21
        refine V_sr T.mix (by kernel_rfl) (fun K22 hK22 => ?_)
        refine S_as rfl ?_
        refine S_nil (hK22 _ _ (V_keep [2] (by simp only [proj, lk, reduceIte, Nat.reduceEqDiff]; rfl) ?_)); clear hK22
        refine V_ret ?_
        refine hR _ _ (ret1 rfl rfl ?_)
        have h9 := m.symLen hp he0 (by omega)
        rw [hsy] at h9
        simp only [] at h9
        rw [← hsb] at h9
        exact ⟨0, _, _, _, _, _, rfl, sw4, h9, ((hEh1.trans hEh2).trans hEh3).trans hEh4, by first | exact ⟨[], (List.append_nil _).symm⟩ | exact ⟨_, rfl⟩ | exact cpy_pre _ _ _⟩
set_option maxHeartbeats 3200000 in
theorem turndist_spec (h : Heap) (W : SA) (r : SR) (s : TS) (ua ub : HC) (sw : SW h W r s ua ub) (raw : ByteArray) (out : List Int) (sent : Nat) (fa fb : Nat → Nat) (m : MI raw r out sent s ua ub fa fb) (hp : r.ph = 6) :
    FC Tryz.prog 146 (#[.pointer (some ⟨W.D, 0, none⟩)] : Array Value) h fun rv h' => ∃ e r' out' s' va vb, rv = .int .i64 ((e : Nat) : Int) ∧ SW h' W r' s' va vb ∧ TPo raw r out sent s e r' out' s' va vb ∧ Ext (WTs W) h h' ∧ ∃ x, out' = out ++ x := by
  try clear q0 q1 q2 q3 q4 q5 q6 q7 q8 q9 q10 q11 q12 q13 q14 q15 q16 q17 q18 q19 q20 dok
  obtain ⟨q0, q1, q2, q3, q4, q5, q6, q7, q8, q9, q10, q11, q12, q13, q14, q15, q16, q17, q18, q19, q20⟩ := dq (sw.x)
  have dok := dok_ (sw.x)
  try simp only [] at q0 q1 q2 q3 q4 q5 q6 q7 q8 q9 q10 q11 q12 q13 q14 q15 q16 q17 q18 q19 q20
  obtain ⟨k1, k2, k3, k4, k5⟩ := m.ck (by omega) (by omega)
  refine FC_of [(0, .pointer (some ⟨W.D, 0, none⟩))] Tryz.func146 rfl Tryz.ntmps146 (by simp) rfl (fun R hR => ?_)
  refine V_sr T.mix (by kernel_rfl) (fun K1 hK1 => ?_)
  refine S_as rfl ?_
  refine S_nil (hK1 _ _ (V_keep [0] (by simp only [proj, lk, reduceIte, Nat.reduceEqDiff]; rfl) ?_)); clear hK1
  refine V_sr T.mix (by kernel_rfl) (fun K2 hK2 => ?_)
  refine S_mv rfl ?_
  refine S_nc rfl ?_
  first | refine S_fa0 T.f77_0 rfl ?_ | refine S_fa T.f77_0 rfl ?_
  refine S_ldK T.ag47 rfl (fun K' hK' => ?_)
  simp (disch := omega) only [q0, q1, q2, q3, q4, q5, q6, q7, q8, q9, q10, q11, q12, q13, q14, q15, q16, q17, q18, q19, q20, oP_some, Nat.add_zero]
  refine hK' _ ?_; clear hK' K'
  refine S_call T.hb172 rfl ?_
  refine FC.mono (BitW.peek_spec h W.T W.tb s sw.rt 10) ?_
  rintro v' h' ⟨rfl, rfl⟩
  refine S_mv rfl ?_
  refine S_ex rfl rfl ?_
  refine S_ex rfl rfl ?_
  refine S_as rfl ?_
  refine S_as rfl ?_
  refine S_nil (hK2 _ _ (V_keep [0, 3, 4] (by simp only [proj, lk, reduceIte, Nat.reduceEqDiff]; rfl) ?_)); clear hK2
  refine V_sr T.mix (by kernel_rfl) (fun K3 hK3 => ?_)
  refine S_mv rfl ?_
  refine S_nc rfl ?_
  first | refine S_fa0 T.f77_2 rfl ?_ | refine S_fa T.f77_2 rfl ?_
  refine S_ldK T.ag49 rfl (fun K' hK' => ?_)
  simp (disch := omega) only [q0, q1, q2, q3, q4, q5, q6, q7, q8, q9, q10, q11, q12, q13, q14, q15, q16, q17, q18, q19, q20, oP_some, Nat.add_zero]
  refine hK' _ ?_; clear hK' K'
  refine S_mv rfl ?_
  refine S_mv rfl ?_
  refine S_call T.hb175 rfl ?_
  refine FC.mono (find_spec h W.XB ub sw.cb fb k3 ((peekV s 10 : Nat) : Int) ((gotF s 10 : Nat) : Int)) ?_
  rw [k4, fnd_sy]
  rcases hq_ : syQ s fb 8 with ⟨z1, z2, z3⟩
  have hsy : syF s fb 8 = if z3 ≠ 0 then ⟨0, z3, s⟩ else ⟨z1, 0, skipS s (z2 : Int)⟩ := sy_q (q := (z1, z2, z3)) hq_.symm
  unfold tri
  rintro v' h' ⟨rfl, rfl⟩
  refine S_mv rfl ?_
  refine S_ex rfl rfl ?_
  refine S_ex rfl rfl ?_
  refine S_ex rfl rfl ?_
  refine S_as rfl ?_
  refine S_as rfl ?_
  refine S_as rfl ?_
  refine S_nil (hK3 _ _ (V_keep [0, 5, 6, 7] (by simp only [proj, lk, reduceIte, Nat.reduceEqDiff]; rfl) ?_)); clear hK3
  refine V_seq (fun K4 hK4 => ?_)
  refine V_sr T.mix (by kernel_rfl) (fun K5 hK5 => ?_)
  refine S_mv rfl ?_
  refine S_bin rfl rfl rfl ?_
  refine S_nil (hK5 _ _ (V_keep [0, 5, 6, 7, 28] (by simp only [proj, lk, reduceIte, Nat.reduceEqDiff]; rfl) ?_)); clear hK5
  refine V_condp rfl (fun c36 => ?_) (fun c36 => ?_)
  · skip
    rw [if_pos (by omega)] at hsy
    refine V_sr T.mix (by kernel_rfl) (fun K6 hK6 => ?_)
    refine S_mv rfl ?_
    refine S_as rfl ?_
    refine S_nil (hK6 _ _ (V_keep [2] (by simp only [proj, lk, reduceIte, Nat.reduceEqDiff]; rfl) ?_)); clear hK6
    refine V_ret ?_
    refine hR _ _ (ret1 rfl rfl ?_)
    exact ⟨z3, _, out, _, _, _, rfl, sw, m.no (e := z3) (a := r.at_) (s' := s) (x := s) (by omega) (by have h9 := m.w.at_; omega) (.inr rfl) (by rw [rs6 hp]; simp only []; rw [ds_no (by rw [hsy]; simp only []; omega), hsy]) (fun _ => rfl) (Ad.refl _) (m.w.ok), Ext.refl _ _, by first | exact ⟨[], (List.append_nil _).symm⟩ | exact ⟨_, rfl⟩ | exact cpy_pre _ _ _⟩
  · skip
    rw [if_neg (by omega)] at hsy
    have he0 : (syF s fb 8).e = 0 := by rw [hsy]
    have hz1 := (sy_ok he0).1
    have hv0 : (syF s fb 8).v = z1 := by rw [hsy]
    rw [hv0] at hz1
    refine V_skipk [0, 5, 6] (by simp only [proj, lk, reduceIte, Nat.reduceEqDiff]; rfl) ?_
    refine hK4 _ _ ?_; clear hK4
    refine V_sr T.mix (by kernel_rfl) (fun K7 hK7 => ?_)
    refine S_mv rfl ?_
    refine S_nc rfl ?_
    first | refine S_fa0 T.f77_0 rfl ?_ | refine S_fa T.f77_0 rfl ?_
    refine S_ldK T.ag47 rfl (fun K' hK' => ?_)
    simp (disch := omega) only [q0, q1, q2, q3, q4, q5, q6, q7, q8, q9, q10, q11, q12, q13, q14, q15, q16, q17, q18, q19, q20, oP_some, Nat.add_zero]
    refine hK' _ ?_; clear hK' K'
    refine S_mv rfl ?_
    refine S_call T.hb173 rfl ?_
    refine FC.mono (BitW.skip_spec h W.T W.tb s sw.rt ((z2 : Int))) ?_
    rintro v' h2 ⟨rfl, rtb, hXb⟩
    obtain ⟨sb, hsb⟩ : ∃ x, x = skipS s ((z2 : Int)) := ⟨_, rfl⟩
    rw [← hsb] at rtb
    have sw2 := sw.st rtb hXb
    have hEh2 : Ext (WTs W) h h2 := hXb.mono fun _ e => wsT e
    try clear q0 q1 q2 q3 q4 q5 q6 q7 q8 q9 q10 q11 q12 q13 q14 q15 q16 q17 q18 q19 q20 dok
    obtain ⟨q0, q1, q2, q3, q4, q5, q6, q7, q8, q9, q10, q11, q12, q13, q14, q15, q16, q17, q18, q19, q20⟩ := dq (sw2.x)
    have dok := dok_ (sw2.x)
    try simp only [] at q0 q1 q2 q3 q4 q5 q6 q7 q8 q9 q10 q11 q12 q13 q14 q15 q16 q17 q18 q19 q20
    refine S_nil (hK7 _ _ (V_keep [0, 5] (by simp only [proj, lk, reduceIte, Nat.reduceEqDiff]; rfl) ?_)); clear hK7
    refine V_sr T.mix (by kernel_rfl) (fun K8 hK8 => ?_)
    refine S_mv rfl ?_
    refine S_mv rfl ?_
    refine S_mv rfl ?_
    refine S_call T.hb108 rfl ?_
    refine FC.mono (distbase_spec h2 z1 (by omega)) ?_
    rintro v' h' ⟨rfl, rfl⟩
    refine S_mv rfl ?_
    refine S_ex rfl rfl ?_
    refine S_ex rfl rfl ?_
    refine S_nc rfl ?_
    first | refine S_fa0 T.f77_12 rfl ?_ | refine S_fa T.f77_12 rfl ?_
    refine S_st T.sz3 rfl rfl rfl rfl (by simp (disch := omega) only [dok]) ?_
    generalize hh : putH _ _ _ = h3
    have sw3 := sw2.sx (h' := h3) (r' := { r with ba := dB z1 }) (by rw [← hh]; exact (sw2.x.put 12 _).cong (by simp [dcs])) (by rw [← hh]; exact Ext.put _ _ rfl) rfl rfl rfl
    have hEh3 : Ext (WTs W) h2 h3 := by rw [← hh]; exact Ext.put _ _ wd0
    clear hh
    try clear q0 q1 q2 q3 q4 q5 q6 q7 q8 q9 q10 q11 q12 q13 q14 q15 q16 q17 q18 q19 q20 dok
    obtain ⟨q0, q1, q2, q3, q4, q5, q6, q7, q8, q9, q10, q11, q12, q13, q14, q15, q16, q17, q18, q19, q20⟩ := dq (sw3.x)
    have dok := dok_ (sw3.x)
    try simp only [] at q0 q1 q2 q3 q4 q5 q6 q7 q8 q9 q10 q11 q12 q13 q14 q15 q16 q17 q18 q19 q20
    refine S_nc rfl ?_
    first | refine S_fa0 T.f77_13 rfl ?_ | refine S_fa T.f77_13 rfl ?_
    refine S_st T.sz3 rfl rfl rfl rfl (by simp (disch := omega) only [dok]) ?_
    generalize hh : putH _ _ _ = h4
    have sw4 := sw3.sx (h' := h4) (r' := { { r with ba := dB z1 } with mo := dM z1 }) (by rw [← hh]; exact (sw3.x.put 13 _).cong (by simp [dcs])) (by rw [← hh]; exact Ext.put _ _ rfl) rfl rfl rfl
    have hEh4 : Ext (WTs W) h3 h4 := by rw [← hh]; exact Ext.put _ _ wd0
    clear hh
    try clear q0 q1 q2 q3 q4 q5 q6 q7 q8 q9 q10 q11 q12 q13 q14 q15 q16 q17 q18 q19 q20 dok
    obtain ⟨q0, q1, q2, q3, q4, q5, q6, q7, q8, q9, q10, q11, q12, q13, q14, q15, q16, q17, q18, q19, q20⟩ := dq (sw4.x)
    have dok := dok_ (sw4.x)
    try simp only [] at q0 q1 q2 q3 q4 q5 q6 q7 q8 q9 q10 q11 q12 q13 q14 q15 q16 q17 q18 q19 q20
    refine S_nil (hK8 _ _ (V_keep [0] (by simp only [proj, lk, reduceIte, Nat.reduceEqDiff]; rfl) ?_)); clear hK8
    refine V_sr T.mix (by kernel_rfl) (fun K9 hK9 => ?_)
    refine S_mv rfl ?_
    refine S_nc rfl ?_
    first | refine S_fa0 T.f77_4 rfl ?_ | refine S_fa T.f77_4 rfl ?_
    refine S_st T.sz3 rfl rfl rfl rfl (by simp (disch := omega) only [dok]) ?_
    generalize hh : putH _ _ _ = h5
    have sw5 := sw4.sx (h' := h5) (r' := { { { r with ba := dB z1 } with mo := dM z1 } with ph := 7 }) (by rw [← hh]; exact (sw4.x.put 4 _).cong (by simp [dcs])) (by rw [← hh]; exact Ext.put _ _ rfl) rfl rfl rfl
    have hEh5 : Ext (WTs W) h4 h5 := by rw [← hh]; exact Ext.put _ _ wd0
    clear hh
    try clear q0 q1 q2 q3 q4 q5 q6 q7 q8 q9 q10 q11 q12 q13 q14 q15 q16 q17 q18 q19 q20 dok
    obtain ⟨q0, q1, q2, q3, q4, q5, q6, q7, q8, q9, q10, q11, q12, q13, q14, q15, q16, q17, q18, q19, q20⟩ := dq (sw5.x)
    have dok := dok_ (sw5.x)
    try simp only [] at q0 q1 q2 q3 q4 q5 q6 q7 q8 q9 q10 q11 q12 q13 q14 q15 q16 q17 q18 q19 q20
    refine S_nil (hK9 _ _ (V_keep [] (by simp only [proj, lk, reduceIte, Nat.reduceEqDiff]; rfl) ?_)); clear hK9
    refine V_sr T.mix (by kernel_rfl) (fun K10 hK10 => ?_)
    refine S_as rfl ?_
    refine S_nil (hK10 _ _ (V_keep [2] (by simp only [proj, lk, reduceIte, Nat.reduceEqDiff]; rfl) ?_)); clear hK10
    refine V_ret ?_
    refine hR _ _ (ret1 rfl rfl ?_)
    have h9 := m.dist hp he0
    rw [hsy] at h9
    simp only [] at h9
    rw [← hsb] at h9
    exact ⟨0, _, _, _, _, _, rfl, sw5, h9, ((hEh2.trans hEh3).trans hEh4).trans hEh5, by first | exact ⟨[], (List.append_nil _).symm⟩ | exact ⟨_, rfl⟩ | exact cpy_pre _ _ _⟩
set_option maxHeartbeats 3200000 in
theorem turnmore_spec (h : Heap) (W : SA) (r : SR) (s : TS) (ua ub : HC) (sw : SW h W r s ua ub) (raw : ByteArray) (out : List Int) (sent : Nat) (fa fb : Nat → Nat) (m : MI raw r out sent s ua ub fa fb) (hp : r.ph = 7) :
    FC Tryz.prog 147 (#[.pointer (some ⟨W.D, 0, none⟩)] : Array Value) h fun rv h' => ∃ e r' out' s' va vb, rv = .int .i64 ((e : Nat) : Int) ∧ SW h' W r' s' va vb ∧ TPo raw r out sent s e r' out' s' va vb ∧ Ext (WTs W) h h' ∧ ∃ x, out' = out ++ x := by
  try clear q0 q1 q2 q3 q4 q5 q6 q7 q8 q9 q10 q11 q12 q13 q14 q15 q16 q17 q18 q19 q20 dok
  obtain ⟨q0, q1, q2, q3, q4, q5, q6, q7, q8, q9, q10, q11, q12, q13, q14, q15, q16, q17, q18, q19, q20⟩ := dq (sw.x)
  have dok := dok_ (sw.x)
  try simp only [] at q0 q1 q2 q3 q4 q5 q6 q7 q8 q9 q10 q11 q12 q13 q14 q15 q16 q17 q18 q19 q20
  obtain ⟨hm2, hb1, hb17⟩ := m.ba hp
  have hrn := m.rn (.inr hp)
  have htt := m.w.si.tt
  have hsn := m.w.si.n
  have hw_ := m.w.si.w
  have hfl := m.w.si.fl
  have hole := m.w.si.le
  refine FC_of [(0, .pointer (some ⟨W.D, 0, none⟩))] Tryz.func147 rfl Tryz.ntmps147 (by simp) rfl (fun R hR => ?_)
  refine V_sr T.mix (by kernel_rfl) (fun K1 hK1 => ?_)
  refine S_as rfl ?_
  refine S_nil (hK1 _ _ (V_keep [0] (by simp only [proj, lk, reduceIte, Nat.reduceEqDiff]; rfl) ?_)); clear hK1
  refine V_sr T.mix (by kernel_rfl) (fun K2 hK2 => ?_)
  refine S_mv rfl ?_
  refine S_nc rfl ?_
  first | refine S_fa0 T.f77_0 rfl ?_ | refine S_fa T.f77_0 rfl ?_
  refine S_ldK T.ag47 rfl (fun K' hK' => ?_)
  simp (disch := omega) only [q0, q1, q2, q3, q4, q5, q6, q7, q8, q9, q10, q11, q12, q13, q14, q15, q16, q17, q18, q19, q20, oP_some, Nat.add_zero]
  refine hK' _ ?_; clear hK' K'
  refine S_mv rfl ?_
  refine S_nc rfl ?_
  first | refine S_fa0 T.f77_13 rfl ?_ | refine S_fa T.f77_13 rfl ?_
  refine S_ldK T.ag3 rfl (fun K' hK' => ?_)
  simp (disch := omega) only [q0, q1, q2, q3, q4, q5, q6, q7, q8, q9, q10, q11, q12, q13, q14, q15, q16, q17, q18, q19, q20, oP_some, Nat.add_zero]
  refine hK' _ ?_; clear hK' K'
  refine S_call T.hb166 rfl ?_
  refine FC.mono (BitW.take_spec h W.T W.tb s sw.rt ((r.mo : Int))) ?_
  rintro v' h1 ⟨hv', rta, hXa⟩
  obtain ⟨ea, hea⟩ : ∃ x, x = skipE s ((r.mo : Int)) := ⟨_, rfl⟩
  obtain ⟨ca, hca⟩ : ∃ x, x = takeV s ((r.mo : Int)) := ⟨_, rfl⟩
  obtain ⟨sa, hsa⟩ : ∃ x, x = skipS s ((r.mo : Int)) := ⟨_, rfl⟩
  rw [← hea, ← hca] at hv'
  rw [← hsa] at rta
  subst hv'
  have sw1 := sw.st rta hXa
  have hEh1 : Ext (WTs W) h h1 := hXa.mono fun _ e => wsT e
  try clear q0 q1 q2 q3 q4 q5 q6 q7 q8 q9 q10 q11 q12 q13 q14 q15 q16 q17 q18 q19 q20 dok
  obtain ⟨q0, q1, q2, q3, q4, q5, q6, q7, q8, q9, q10, q11, q12, q13, q14, q15, q16, q17, q18, q19, q20⟩ := dq (sw1.x)
  have dok := dok_ (sw1.x)
  try simp only [] at q0 q1 q2 q3 q4 q5 q6 q7 q8 q9 q10 q11 q12 q13 q14 q15 q16 q17 q18 q19 q20
  refine S_mv rfl ?_
  refine S_ex rfl rfl ?_
  refine S_ex rfl rfl ?_
  refine S_as rfl ?_
  refine S_as rfl ?_
  refine S_nil (hK2 _ _ (V_keep [0, 3, 4] (by simp only [proj, lk, reduceIte, Nat.reduceEqDiff]; rfl) ?_)); clear hK2
  refine V_seq (fun K3 hK3 => ?_)
  refine V_sr T.mix (by kernel_rfl) (fun K4 hK4 => ?_)
  refine S_mv rfl ?_
  refine S_bin rfl rfl rfl ?_
  refine S_nil (hK4 _ _ (V_keep [0, 3, 4, 21] (by simp only [proj, lk, reduceIte, Nat.reduceEqDiff]; rfl) ?_)); clear hK4
  refine V_condp rfl (fun c48 => ?_) (fun c48 => ?_)
  · skip
    refine V_sr T.mix (by kernel_rfl) (fun K5 hK5 => ?_)
    refine S_mv rfl ?_
    refine S_as rfl ?_
    refine S_nil (hK5 _ _ (V_keep [2] (by simp only [proj, lk, reduceIte, Nat.reduceEqDiff]; rfl) ?_)); clear hK5
    refine V_ret ?_
    refine hR _ _ (ret1 rfl rfl ?_)
    exact ⟨ea, _, out, _, _, _, rfl, sw1, m.no (e := ea) (a := r.at_) (s' := sa) (by omega) (by have h9 := m.w.at_; omega) (.inr rfl) (by rw [rs7 hp]; simp only []; rw [mo_no (by rw [← hea]; omega), ← hea]) (fun _ => by rw [hsa, BitW.skipS_ne (by rw [← hea]; omega)]) (ad_of hsa) (ok_of hsa m.w.ok), hEh1, by first | exact ⟨[], (List.append_nil _).symm⟩ | exact ⟨_, rfl⟩ | exact cpy_pre _ _ _⟩
  · skip
    refine V_skipk [0, 3] (by simp only [proj, lk, reduceIte, Nat.reduceEqDiff]; rfl) ?_
    refine hK3 _ _ ?_; clear hK3
    refine V_sr T.mix (by kernel_rfl) (fun K6 hK6 => ?_)
    refine S_mv rfl ?_
    refine S_nc rfl ?_
    first | refine S_fa0 T.f77_12 rfl ?_ | refine S_fa T.f77_12 rfl ?_
    refine S_ldK T.ag3 rfl (fun K' hK' => ?_)
    simp (disch := omega) only [q0, q1, q2, q3, q4, q5, q6, q7, q8, q9, q10, q11, q12, q13, q14, q15, q16, q17, q18, q19, q20, oP_some, Nat.add_zero]
    refine hK' _ ?_; clear hK' K'
    refine S_mv rfl ?_
    have hca4 : ca < 2 ^ r.mo := by rw [hca]; exact take_lt (k := r.mo) (by omega)
    refine S_addN (r.ba + ca) rfl rfl (by omega) (by omega) ?_
    refine S_as rfl ?_
    refine S_nil (hK6 _ _ (V_keep [0, 5] (by simp only [proj, lk, reduceIte, Nat.reduceEqDiff]; rfl) ?_)); clear hK6
    refine V_seq (fun K7 hK7 => ?_)
    refine V_sr T.mix (by kernel_rfl) (fun K8 hK8 => ?_)
    refine S_mv rfl ?_
    refine S_mv rfl ?_
    refine S_nc rfl ?_
    first | refine S_fa0 T.f77_16 rfl ?_ | refine S_fa T.f77_16 rfl ?_
    refine S_ldK T.ag3 rfl (fun K' hK' => ?_)
    simp (disch := omega) only [q0, q1, q2, q3, q4, q5, q6, q7, q8, q9, q10, q11, q12, q13, q14, q15, q16, q17, q18, q19, q20, oP_some, Nat.add_zero]
    refine hK' _ ?_; clear hK' K'
    refine S_bin rfl rfl rfl ?_
    refine S_nil (hK8 _ _ (V_keep [0, 5, 34] (by simp only [proj, lk, reduceIte, Nat.reduceEqDiff]; rfl) ?_)); clear hK8
    refine V_condp rfl (fun c52 => ?_) (fun c52 => ?_)
    · skip
      refine V_sr T.mix (by kernel_rfl) (fun K9 hK9 => ?_)
      refine S_as rfl ?_
      refine S_nil (hK9 _ _ (V_keep [2] (by simp only [proj, lk, reduceIte, Nat.reduceEqDiff]; rfl) ?_)); clear hK9
      refine V_ret ?_
      refine hR _ _ (ret1 rfl rfl ?_)
      exact ⟨9, _, out, _, _, _, rfl, sw1, m.no (e := 9) (a := r.at_) (s' := sa) (x := skipS s (r.mo : Int)) (by omega) (by have h9 := m.w.at_; omega) (.inr rfl) (by rw [rs7 hp]; simp only []; rw [mo_dist (by rw [← hea]; omega) (by rw [← hca]; omega)]) (fun z => by omega) (ad_of hsa) (ok_of hsa m.w.ok), hEh1, by first | exact ⟨[], (List.append_nil _).symm⟩ | exact ⟨_, rfl⟩ | exact cpy_pre _ _ _⟩
    · skip
      refine V_skipk [0, 5] (by simp only [proj, lk, reduceIte, Nat.reduceEqDiff]; rfl) ?_
      refine hK7 _ _ ?_; clear hK7
      refine V_seq (fun K10 hK10 => ?_)
      refine V_sr T.mix (by kernel_rfl) (fun K11 hK11 => ?_)
      refine S_mv rfl ?_
      refine S_nc rfl ?_
      first | refine S_fa0 T.f77_11 rfl ?_ | refine S_fa T.f77_11 rfl ?_
      refine S_ldK T.ag3 rfl (fun K' hK' => ?_)
      simp (disch := omega) only [q0, q1, q2, q3, q4, q5, q6, q7, q8, q9, q10, q11, q12, q13, q14, q15, q16, q17, q18, q19, q20, oP_some, Nat.add_zero]
      refine hK' _ ?_; clear hK' K'
      refine S_mv rfl ?_
      refine S_nc rfl ?_
      first | refine S_fa0 T.f77_19 rfl ?_ | refine S_fa T.f77_19 rfl ?_
      refine S_ldK T.ag3 rfl (fun K' hK' => ?_)
      simp (disch := omega) only [q0, q1, q2, q3, q4, q5, q6, q7, q8, q9, q10, q11, q12, q13, q14, q15, q16, q17, q18, q19, q20, oP_some, Nat.add_zero]
      refine hK' _ ?_; clear hK' K'
      refine S_subN (256 - r.tt) rfl rfl (by omega) (by omega) ?_
      refine S_bin rfl rfl rfl ?_
      refine S_nil (hK11 _ _ (V_keep [0, 5, 44] (by simp only [proj, lk, reduceIte, Nat.reduceEqDiff]; rfl) ?_)); clear hK11
      refine V_condp rfl (fun c55 => ?_) (fun c55 => ?_)
      · skip
        refine V_sr T.mix (by kernel_rfl) (fun K12 hK12 => ?_)
        refine S_as rfl ?_
        refine S_nil (hK12 _ _ (V_keep [2] (by simp only [proj, lk, reduceIte, Nat.reduceEqDiff]; rfl) ?_)); clear hK12
        refine V_ret ?_
        refine hR _ _ (ret1 rfl rfl ?_)
        exact ⟨10, _, out, _, _, _, rfl, sw1, m.no (e := 10) (a := r.at_) (s' := sa) (x := skipS s (r.mo : Int)) (by omega) (by have h9 := m.w.at_; omega) (.inr rfl) (by rw [rs7 hp]; simp only []; rw [mo_out (by rw [← hea]; omega) (by rw [← hca]; omega) (by omega)]) (fun z => by omega) (ad_of hsa) (ok_of hsa m.w.ok), hEh1, by first | exact ⟨[], (List.append_nil _).symm⟩ | exact ⟨_, rfl⟩ | exact cpy_pre _ _ _⟩
      · skip
        refine V_skipk [0, 5] (by simp only [proj, lk, reduceIte, Nat.reduceEqDiff]; rfl) ?_
        refine hK10 _ _ ?_; clear hK10
        refine V_sr T.mix (by kernel_rfl) (fun K13 hK13 => ?_)
        refine S_mv rfl ?_
        refine S_nc rfl ?_
        first | refine S_fa0 T.f77_15 rfl ?_ | refine S_fa T.f77_15 rfl ?_
        refine S_ldK T.ag3 rfl (fun K' hK' => ?_)
        simp (disch := omega) only [q0, q1, q2, q3, q4, q5, q6, q7, q8, q9, q10, q11, q12, q13, q14, q15, q16, q17, q18, q19, q20, oP_some, Nat.add_zero]
        refine hK' _ ?_; clear hK' K'
        refine S_mv rfl ?_
        refine S_sub rfl rfl (by omega) (by omega) ?_
        obtain ⟨fr, hfr⟩ : ∃ x : Int, x = (r.w : Int) - ((r.ba + ca : Nat) : Int) := ⟨_, rfl⟩
        rw [← hfr]
        refine S_as rfl ?_
        refine S_nil (hK13 _ _ (V_keep [0, 6] (by simp only [proj, lk, reduceIte, Nat.reduceEqDiff]; rfl) ?_)); clear hK13
        refine V_seqJ (fun l h' => ∃ (g0 : Nat), (g0 = (out.length - (r.ba + ca)) % 16) ∧ l = [(0, .pointer (some ⟨W.D, 0, none⟩)), (6, .int .i64 (g0 : Int))] ∧ h1 = h') ?_ ?_
        · skip
          refine V_sr T.mix (by kernel_rfl) (fun K15 hK15 => ?_)
          refine S_mv rfl ?_
          refine S_bin rfl rfl rfl ?_
          refine S_nil (hK15 _ _ (V_keep [0, 6, 52] (by simp only [proj, lk, reduceIte, Nat.reduceEqDiff]; rfl) ?_)); clear hK15
          refine V_condp rfl (fun c59 => ?_) (fun c59 => ?_)
          · skip
            refine V_reg T.mix (by kernel_rfl) ?_
            refine S_mv rfl ?_
            refine S_addN (r.w + 16 - (r.ba + ca)) rfl rfl (by omega) (by omega) ?_
            refine S_as rfl ?_
            refine S_nilk [0, 6] (by simp only [proj, lk, reduceIte, Nat.reduceEqDiff]; rfl) ?_
            exact ⟨r.w + 16 - (r.ba + ca), by omega, rfl, rfl⟩
          · skip
            obtain ⟨f0, hf0⟩ : ∃ f0 : Nat, fr = (f0 : Int) := ⟨fr.toNat, by omega⟩
            subst hf0
            refine V_skipk [0, 6] (by simp only [proj, lk, reduceIte, Nat.reduceEqDiff]; rfl) ?_
            exact ⟨f0, by omega, rfl, rfl⟩
        rintro l h' ⟨g0, hg0, rfl, rfl⟩
        refine V_seq (fun K16 hK16 => ?_)
        refine V_sr T.mix (by kernel_rfl) (fun K17 hK17 => ?_)
        refine S_as rfl ?_
        refine S_nil (hK17 _ _ (V_keep [0, 6, 7] (by simp only [proj, lk, reduceIte, Nat.reduceEqDiff]; rfl) ?_)); clear hK17
        refine V_block ?_
        refine V_loop (fun m l h' => ∃ (k : Nat) (hk : Heap) (f : Nat), (k ≤ r.rn) ∧ (SW hk W (givs r out (r.ba + ca) k) sa ua ub) ∧ (f = (out.length + k - (r.ba + ca)) % 16) ∧ (Ext (WTs W) h hk) ∧ m = r.rn - k ∧ l = [(0, .pointer (some ⟨W.D, 0, none⟩)), (6, .int .i64 (f : Int)), (7, .int .i64 (k : Int))] ∧ hk = h') _ ⟨0, h1, g0, Nat.zero_le _, sw1, by rw [hg0, Nat.add_zero], hEh1, rfl, rfl, rfl⟩ ?_
        rintro m l h' ⟨k, hk, f, hkr, swk, hf_, hEk, rfl, rfl, rfl⟩ K18 hK18
        try clear q0 q1 q2 q3 q4 q5 q6 q7 q8 q9 q10 q11 q12 q13 q14 q15 q16 q17 q18 q19 q20 dok
        obtain ⟨q0, q1, q2, q3, q4, q5, q6, q7, q8, q9, q10, q11, q12, q13, q14, q15, q16, q17, q18, q19, q20⟩ := dq (swk.x)
        have dok := dok_ (swk.x)
        try simp only [] at q0 q1 q2 q3 q4 q5 q6 q7 q8 q9 q10 q11 q12 q13 q14 q15 q16 q17 q18 q19 q20
        have g8 := (givs_same r out (r.ba + ca) k).2.2.2.2.2.2.2
        rw [g8] at q11
        have sik := SI.givs (d := r.ba + ca) m.w.si k (by omega)
        have sk1 := sik.tt
        have sk2 := sik.w
        have sk3 := sik.n
        have hcl := cpy_len out (r.ba + ca) k
        rw [hcl] at sk1 sk2 sk3
        have rgl : ∀ j, j < 16 → cellH hk ⟨W.D + 2, j, none⟩ = some (.int .u8 ((givs r out (r.ba + ca) k).rg j)) := fun j hj => swk.g.cellA hj
        have hrf : (givs r out (r.ba + ca) k).rg f = (cpy out (r.ba + ca) k).getD ((cpy out (r.ba + ca) k).length - (r.ba + ca)) 0 := ring_at sik (by omega) (by omega) (by omega) (by rw [hcl]; exact hf_)
        refine V_seq (fun K19 hK19 => ?_)
        refine V_sr T.mix (by kernel_rfl) (fun K20 hK20 => ?_)
        refine S_mv rfl ?_
        refine S_mv rfl ?_
        refine S_nc rfl ?_
        first | refine S_fa0 T.f77_11 rfl ?_ | refine S_fa T.f77_11 rfl ?_
        refine S_ldK T.ag3 rfl (fun K' hK' => ?_)
        simp (disch := omega) only [q0, q1, q2, q3, q4, q5, q6, q7, q8, q9, q10, q11, q12, q13, q14, q15, q16, q17, q18, q19, q20, oP_some, Nat.add_zero]
        refine hK' _ ?_; clear hK' K'
        refine S_bin rfl rfl rfl ?_
        refine S_nil (hK20 _ _ (V_keep [0, 6, 7, 60] (by simp only [proj, lk, reduceIte, Nat.reduceEqDiff]; rfl) ?_)); clear hK20
        refine V_condp rfl (fun c62 => ?_) (fun c62 => ?_)
        · skip
          refine V_skipk [0, 6, 7] (by simp only [proj, lk, reduceIte, Nat.reduceEqDiff]; rfl) ?_
          refine hK19 _ _ ?_; clear hK19
          refine V_seq (fun K21 hK21 => ?_)
          refine V_block ?_
          refine V_sr T.mix (by kernel_rfl) (fun K22 hK22 => ?_)
          refine S_mv rfl ?_
          refine S_mv rfl ?_
          refine S_nc rfl ?_
          first | refine S_fa0 T.f77_14 rfl ?_ | refine S_fa T.f77_14 rfl ?_
          refine S_ldK T.ag55 rfl (fun K' hK' => ?_)
          simp (disch := omega) only [q0, q1, q2, q3, q4, q5, q6, q7, q8, q9, q10, q11, q12, q13, q14, q15, q16, q17, q18, q19, q20, rgl, oP_some, Nat.add_zero]
          refine hK' _ ?_; clear hK' K'
          refine S_mv rfl ?_
          first | refine S_ixn T.el55 rfl rfl (by omega) ?_ | refine S_ix1 T.el55 rfl rfl (by omega) (by omega) ?_ | refine S_ix T.el55 rfl rfl (by omega) (by omega) ?_
          refine S_ldK T.ag5 rfl (fun K' hK' => ?_)
          simp (disch := omega) only [q0, q1, q2, q3, q4, q5, q6, q7, q8, q9, q10, q11, q12, q13, q14, q15, q16, q17, q18, q19, q20, rgl, oP_some, Nat.add_zero]
          refine hK' _ ?_; clear hK' K'
          refine S_call T.hb171 rfl ?_
          refine FC.mono (give_spec hk W _ sa ua ub swk (((givs r out (r.ba + ca) k)).rg f) (by omega) (by omega) (by omega)) ?_
          rintro v' h2 ⟨rfl, sw2, hEh2⟩
          rw [hrf, ← givs_w] at sw2
          refine S_nil (hK22 _ _ (V_keep [0, 6, 7] (by simp only [proj, lk, reduceIte, Nat.reduceEqDiff]; rfl) ?_)); clear hK22
          refine V_sr T.mix (by kernel_rfl) (fun K23 hK23 => ?_)
          refine S_mv rfl ?_
          refine S_addN (f + 1) rfl rfl (by omega) (by omega) ?_
          refine S_as rfl ?_
          refine S_nil (hK23 _ _ (V_keep [0, 6, 7] (by simp only [proj, lk, reduceIte, Nat.reduceEqDiff]; rfl) ?_)); clear hK23
          refine V_sr T.mix (by kernel_rfl) (fun K24 hK24 => ?_)
          refine S_mv rfl ?_
          refine S_bin rfl rfl rfl ?_
          refine S_nil (hK24 _ _ (V_keep [0, 6, 7, 75] (by simp only [proj, lk, reduceIte, Nat.reduceEqDiff]; rfl) ?_)); clear hK24
          refine V_condp rfl (fun c65 => ?_) (fun c65 => ?_)
          · skip
            refine V_reg T.mix (by kernel_rfl) ?_
            refine S_as rfl ?_
            refine S_nilk [0, 6, 7] (by simp only [proj, lk, reduceIte, Nat.reduceEqDiff]; rfl) ?_
            refine hK21 _ _ ?_; clear hK21
            refine V_reg T.mix (by kernel_rfl) ?_
            refine S_mv rfl ?_
            refine S_addN (k + 1) rfl rfl (by omega) (by omega) ?_
            refine S_as rfl ?_
            refine S_nilk [0, 6, 7] (by simp only [proj, lk, reduceIte, Nat.reduceEqDiff]; rfl) ?_
            exact hK18 _ _ ⟨_, by omega, k + 1, h2, 0, by omega, sw2, by omega, hEk.trans hEh2, rfl, rfl, rfl⟩
          · skip
            refine V_skipk [0, 6, 7] (by simp only [proj, lk, reduceIte, Nat.reduceEqDiff]; rfl) ?_
            refine hK21 _ _ ?_; clear hK21
            refine V_reg T.mix (by kernel_rfl) ?_
            refine S_mv rfl ?_
            refine S_addN (k + 1) rfl rfl (by omega) (by omega) ?_
            refine S_as rfl ?_
            refine S_nilk [0, 6, 7] (by simp only [proj, lk, reduceIte, Nat.reduceEqDiff]; rfl) ?_
            exact hK18 _ _ ⟨_, by omega, k + 1, h2, f + 1, by omega, sw2, by omega, hEk.trans hEh2, rfl, rfl, rfl⟩
        · skip
          refine V_exitk [0] rfl (by simp only [proj, lk, reduceIte, Nat.reduceEqDiff]; rfl) ?_
          refine hK16 _ _ ?_; clear hK16
          refine V_sr T.mix (by kernel_rfl) (fun K25 hK25 => ?_)
          refine S_mv rfl ?_
          refine S_nc rfl ?_
          first | refine S_fa0 T.f77_4 rfl ?_ | refine S_fa T.f77_4 rfl ?_
          refine S_st T.sz3 rfl rfl rfl rfl (by simp (disch := omega) only [dok]) ?_
          generalize hh : putH _ _ _ = h3
          have sw3 := swk.sx (h' := h3) (r' := { (givs r out (r.ba + ca) k) with ph := 5 }) (by rw [← hh]; exact (swk.x.put 4 _).cong (by simp [dcs])) (by rw [← hh]; exact Ext.put _ _ rfl) rfl rfl rfl
          have hEh3 : Ext (WTs W) hk h3 := by rw [← hh]; exact Ext.put _ _ wd0
          clear hh
          try clear q0 q1 q2 q3 q4 q5 q6 q7 q8 q9 q10 q11 q12 q13 q14 q15 q16 q17 q18 q19 q20 dok
          obtain ⟨q0, q1, q2, q3, q4, q5, q6, q7, q8, q9, q10, q11, q12, q13, q14, q15, q16, q17, q18, q19, q20⟩ := dq (sw3.x)
          have dok := dok_ (sw3.x)
          try simp only [] at q0 q1 q2 q3 q4 q5 q6 q7 q8 q9 q10 q11 q12 q13 q14 q15 q16 q17 q18 q19 q20
          refine S_nil (hK25 _ _ (V_keep [] (by simp only [proj, lk, reduceIte, Nat.reduceEqDiff]; rfl) ?_)); clear hK25
          refine V_sr T.mix (by kernel_rfl) (fun K26 hK26 => ?_)
          refine S_as rfl ?_
          refine S_nil (hK26 _ _ (V_keep [2] (by simp only [proj, lk, reduceIte, Nat.reduceEqDiff]; rfl) ?_)); clear hK26
          refine V_ret ?_
          refine hR _ _ (ret1 rfl rfl ?_)
          have hkn : k = r.rn := by omega
          have h9 := m.more hp (by omega) (by rw [← hca]; omega) (by omega)
          rw [← hca, ← hsa, ← hkn] at h9
          exact ⟨0, _, _, _, _, _, rfl, sw3, h9, hEk.trans hEh3, by first | exact ⟨[], (List.append_nil _).symm⟩ | exact ⟨_, rfl⟩ | exact cpy_pre _ _ _⟩
set_option maxHeartbeats 1600000 in
theorem turn_spec (h : Heap) (W : SA) (r : SR) (s : TS) (ua ub : HC) (sw : SW h W r s ua ub) (raw : ByteArray) (out : List Int) (sent : Nat) (fa fb : Nat → Nat) (m : MI raw r out sent s ua ub fa fb) (hp : r.ph ≠ 8) :
    FC Tryz.prog 115 (#[.pointer (some ⟨W.D, 0, none⟩)] : Array Value) h fun rv h' => ∃ e r' out' s' va vb, rv = .int .i64 ((e : Nat) : Int) ∧ SW h' W r' s' va vb ∧ TPo raw r out sent s e r' out' s' va vb ∧ Ext (WTs W) h h' ∧ ∃ x, out' = out ++ x := by
  try clear q0 q1 q2 q3 q4 q5 q6 q7 q8 q9 q10 q11 q12 q13 q14 q15 q16 q17 q18 q19 q20 dok
  obtain ⟨q0, q1, q2, q3, q4, q5, q6, q7, q8, q9, q10, q11, q12, q13, q14, q15, q16, q17, q18, q19, q20⟩ := dq (sw.x)
  have dok := dok_ (sw.x)
  try simp only [] at q0 q1 q2 q3 q4 q5 q6 q7 q8 q9 q10 q11 q12 q13 q14 q15 q16 q17 q18 q19 q20
  have hp9 := m.p9
  refine FC_of [(0, .pointer (some ⟨W.D, 0, none⟩))] Tryz.func115 rfl Tryz.ntmps115 (by simp) rfl (fun R hR => ?_)
  refine V_sr T.mix (by kernel_rfl) (fun K1 hK1 => ?_)
  refine S_as rfl ?_
  refine S_nil (hK1 _ _ (V_keep [0] (by simp only [proj, lk, reduceIte, Nat.reduceEqDiff]; rfl) ?_)); clear hK1
  refine V_seq (fun K2 hK2 => ?_)
  refine V_sr T.mix (by kernel_rfl) (fun K3 hK3 => ?_)
  refine S_mv rfl ?_
  refine S_nc rfl ?_
  first | refine S_fa0 T.f77_4 rfl ?_ | refine S_fa T.f77_4 rfl ?_
  refine S_ldK T.ag3 rfl (fun K' hK' => ?_)
  simp (disch := omega) only [q0, q1, q2, q3, q4, q5, q6, q7, q8, q9, q10, q11, q12, q13, q14, q15, q16, q17, q18, q19, q20, oP_some, Nat.add_zero]
  refine hK' _ ?_; clear hK' K'
  refine S_nil (hK3 _ _ (V_keep [0, 6] (by simp only [proj, lk, reduceIte, Nat.reduceEqDiff]; rfl) ?_)); clear hK3
  refine V_block ?_
  refine V_sr T.mix (by kernel_rfl) (fun K4 hK4 => ?_)
  refine S_bin rfl rfl rfl ?_
  refine S_as rfl ?_
  refine S_nil (hK4 _ _ (V_keep [0, 6, 7] (by simp only [proj, lk, reduceIte, Nat.reduceEqDiff]; rfl) ?_)); clear hK4
  refine V_condp rfl (fun c11 => ?_) (fun c11 => ?_)
  · skip
    refine V_sr T.mix (by kernel_rfl) (fun K5 hK5 => ?_)
    refine S_mv rfl ?_
    refine S_call T.hb140 rfl ?_
    refine FC.mono (turnfinal_spec h W r s ua ub sw raw out sent fa fb m (by omega)) ?_
    rintro v' h1 ⟨e9, r9, o9, s9, va, vb, rfl, sw9, tp9, hE9, hx9⟩
    refine S_as rfl ?_
    refine S_nil (hK5 _ _ (V_keep [2] (by simp only [proj, lk, reduceIte, Nat.reduceEqDiff]; rfl) ?_)); clear hK5
    refine V_ret ?_
    refine hR _ _ (ret1 rfl rfl ?_)
    exact ⟨e9, r9, o9, s9, va, vb, rfl, sw9, tp9, hE9, hx9⟩
  · skip
    refine V_sr T.mix (by kernel_rfl) (fun K6 hK6 => ?_)
    refine S_bin rfl rfl rfl ?_
    refine S_as rfl ?_
    refine S_nil (hK6 _ _ (V_keep [0, 6, 11] (by simp only [proj, lk, reduceIte, Nat.reduceEqDiff]; rfl) ?_)); clear hK6
    refine V_condp rfl (fun c13 => ?_) (fun c13 => ?_)
    · skip
      refine V_sr T.mix (by kernel_rfl) (fun K7 hK7 => ?_)
      refine S_mv rfl ?_
      refine S_call T.hb141 rfl ?_
      refine FC.mono (turnkind_spec h W r s ua ub sw raw out sent fa fb m (by omega)) ?_
      rintro v' h1 ⟨e9, r9, o9, s9, va, vb, rfl, sw9, tp9, hE9, hx9⟩
      refine S_as rfl ?_
      refine S_nil (hK7 _ _ (V_keep [2] (by simp only [proj, lk, reduceIte, Nat.reduceEqDiff]; rfl) ?_)); clear hK7
      refine V_ret ?_
      refine hR _ _ (ret1 rfl rfl ?_)
      exact ⟨e9, r9, o9, s9, va, vb, rfl, sw9, tp9, hE9, hx9⟩
    · skip
      refine V_sr T.mix (by kernel_rfl) (fun K8 hK8 => ?_)
      refine S_bin rfl rfl rfl ?_
      refine S_as rfl ?_
      refine S_nil (hK8 _ _ (V_keep [0, 6, 15] (by simp only [proj, lk, reduceIte, Nat.reduceEqDiff]; rfl) ?_)); clear hK8
      refine V_condp rfl (fun c15 => ?_) (fun c15 => ?_)
      · skip
        refine V_sr T.mix (by kernel_rfl) (fun K9 hK9 => ?_)
        refine S_mv rfl ?_
        refine S_call T.hb142 rfl ?_
        refine FC.mono (turnsize_spec h W r s ua ub sw raw out sent fa fb m (by omega)) ?_
        rintro v' h1 ⟨e9, r9, o9, s9, va, vb, rfl, sw9, tp9, hE9, hx9⟩
        refine S_as rfl ?_
        refine S_nil (hK9 _ _ (V_keep [2] (by simp only [proj, lk, reduceIte, Nat.reduceEqDiff]; rfl) ?_)); clear hK9
        refine V_ret ?_
        refine hR _ _ (ret1 rfl rfl ?_)
        exact ⟨e9, r9, o9, s9, va, vb, rfl, sw9, tp9, hE9, hx9⟩
      · skip
        refine V_sr T.mix (by kernel_rfl) (fun K10 hK10 => ?_)
        refine S_bin rfl rfl rfl ?_
        refine S_as rfl ?_
        refine S_nil (hK10 _ _ (V_keep [0, 6, 19] (by simp only [proj, lk, reduceIte, Nat.reduceEqDiff]; rfl) ?_)); clear hK10
        refine V_condp rfl (fun c17 => ?_) (fun c17 => ?_)
        · skip
          refine V_sr T.mix (by kernel_rfl) (fun K11 hK11 => ?_)
          refine S_mv rfl ?_
          refine S_call T.hb143 rfl ?_
          refine FC.mono (turnbyte_spec h W r s ua ub sw raw out sent fa fb m (by omega)) ?_
          rintro v' h1 ⟨e9, r9, o9, s9, va, vb, rfl, sw9, tp9, hE9, hx9⟩
          refine S_as rfl ?_
          refine S_nil (hK11 _ _ (V_keep [2] (by simp only [proj, lk, reduceIte, Nat.reduceEqDiff]; rfl) ?_)); clear hK11
          refine V_ret ?_
          refine hR _ _ (ret1 rfl rfl ?_)
          exact ⟨e9, r9, o9, s9, va, vb, rfl, sw9, tp9, hE9, hx9⟩
        · skip
          refine V_sr T.mix (by kernel_rfl) (fun K12 hK12 => ?_)
          refine S_bin rfl rfl rfl ?_
          refine S_as rfl ?_
          refine S_nil (hK12 _ _ (V_keep [0, 6, 23] (by simp only [proj, lk, reduceIte, Nat.reduceEqDiff]; rfl) ?_)); clear hK12
          refine V_condp rfl (fun c19 => ?_) (fun c19 => ?_)
          · skip
            refine V_sr T.mix (by kernel_rfl) (fun K13 hK13 => ?_)
            refine S_mv rfl ?_
            refine S_call T.hb144 rfl ?_
            refine FC.mono (turnlist_spec h W r s ua ub sw raw out sent fa fb m (by omega)) ?_
            rintro v' h1 ⟨e9, r9, o9, s9, va, vb, rfl, sw9, tp9, hE9, hx9⟩
            refine S_as rfl ?_
            refine S_nil (hK13 _ _ (V_keep [2] (by simp only [proj, lk, reduceIte, Nat.reduceEqDiff]; rfl) ?_)); clear hK13
            refine V_ret ?_
            refine hR _ _ (ret1 rfl rfl ?_)
            exact ⟨e9, r9, o9, s9, va, vb, rfl, sw9, tp9, hE9, hx9⟩
          · skip
            refine V_sr T.mix (by kernel_rfl) (fun K14 hK14 => ?_)
            refine S_bin rfl rfl rfl ?_
            refine S_as rfl ?_
            refine S_nil (hK14 _ _ (V_keep [0, 6, 27] (by simp only [proj, lk, reduceIte, Nat.reduceEqDiff]; rfl) ?_)); clear hK14
            refine V_condp rfl (fun c21 => ?_) (fun c21 => ?_)
            · skip
              refine V_sr T.mix (by kernel_rfl) (fun K15 hK15 => ?_)
              refine S_mv rfl ?_
              refine S_call T.hb145 rfl ?_
              refine FC.mono (turnsym_spec h W r s ua ub sw raw out sent fa fb m (by omega)) ?_
              rintro v' h1 ⟨e9, r9, o9, s9, va, vb, rfl, sw9, tp9, hE9, hx9⟩
              refine S_as rfl ?_
              refine S_nil (hK15 _ _ (V_keep [2] (by simp only [proj, lk, reduceIte, Nat.reduceEqDiff]; rfl) ?_)); clear hK15
              refine V_ret ?_
              refine hR _ _ (ret1 rfl rfl ?_)
              exact ⟨e9, r9, o9, s9, va, vb, rfl, sw9, tp9, hE9, hx9⟩
            · skip
              refine V_sr T.mix (by kernel_rfl) (fun K16 hK16 => ?_)
              refine S_bin rfl rfl rfl ?_
              refine S_as rfl ?_
              refine S_nil (hK16 _ _ (V_keep [0, 31] (by simp only [proj, lk, reduceIte, Nat.reduceEqDiff]; rfl) ?_)); clear hK16
              refine V_condp rfl (fun c23 => ?_) (fun c23 => ?_)
              · skip
                refine V_sr T.mix (by kernel_rfl) (fun K17 hK17 => ?_)
                refine S_mv rfl ?_
                refine S_call T.hb146 rfl ?_
                refine FC.mono (turndist_spec h W r s ua ub sw raw out sent fa fb m (by omega)) ?_
                rintro v' h1 ⟨e9, r9, o9, s9, va, vb, rfl, sw9, tp9, hE9, hx9⟩
                refine S_as rfl ?_
                refine S_nil (hK17 _ _ (V_keep [2] (by simp only [proj, lk, reduceIte, Nat.reduceEqDiff]; rfl) ?_)); clear hK17
                refine V_ret ?_
                refine hR _ _ (ret1 rfl rfl ?_)
                exact ⟨e9, r9, o9, s9, va, vb, rfl, sw9, tp9, hE9, hx9⟩
              · skip
                refine V_skipk [0] (by simp only [proj, lk, reduceIte, Nat.reduceEqDiff]; rfl) ?_
                refine hK2 _ _ ?_; clear hK2
                refine V_sr T.mix (by kernel_rfl) (fun K18 hK18 => ?_)
                refine S_mv rfl ?_
                refine S_call T.hb147 rfl ?_
                refine FC.mono (turnmore_spec h W r s ua ub sw raw out sent fa fb m (by omega)) ?_
                rintro v' h1 ⟨e9, r9, o9, s9, va, vb, rfl, sw9, tp9, hE9, hx9⟩
                refine S_as rfl ?_
                refine S_nil (hK18 _ _ (V_keep [2] (by simp only [proj, lk, reduceIte, Nat.reduceEqDiff]; rfl) ?_)); clear hK18
                refine V_ret ?_
                refine hR _ _ (ret1 rfl rfl ?_)
                exact ⟨e9, r9, o9, s9, va, vb, rfl, sw9, tp9, hE9, hx9⟩
set_option maxHeartbeats 800000 in
theorem tail_spec (h : Heap) (W : SA) (r : SR) (s : TS) (ua ub : HC) (sw : SW h W r s ua ub) :
    FC Tryz.prog 116 (#[.pointer (some ⟨W.D, 0, none⟩)] : Array Value) h fun rv h' => rv = .int .i64 ((if s.p < s.n then 11 else 0 : Nat) : Int) ∧ SW h' W { r with at_ := s.p } s ua ub ∧ Ext (WTs W) h h' := by
  try clear q0 q1 q2 q3 q4 q5 q6 q7 q8 q9 q10 q11 q12 q13 q14 q15 q16 q17 q18 q19 q20 dok
  obtain ⟨q0, q1, q2, q3, q4, q5, q6, q7, q8, q9, q10, q11, q12, q13, q14, q15, q16, q17, q18, q19, q20⟩ := dq (sw.x)
  have dok := dok_ (sw.x)
  try simp only [] at q0 q1 q2 q3 q4 q5 q6 q7 q8 q9 q10 q11 q12 q13 q14 q15 q16 q17 q18 q19 q20
  refine FC_of [(0, .pointer (some ⟨W.D, 0, none⟩))] Tryz.func116 rfl Tryz.ntmps116 (by simp) rfl (fun R hR => ?_)
  refine V_sr T.mix (by kernel_rfl) (fun K1 hK1 => ?_)
  refine S_as rfl ?_
  refine S_nil (hK1 _ _ (V_keep [0] (by simp only [proj, lk, reduceIte, Nat.reduceEqDiff]; rfl) ?_)); clear hK1
  refine V_sr T.mix (by kernel_rfl) (fun K2 hK2 => ?_)
  refine S_mv rfl ?_
  refine S_mv rfl ?_
  refine S_nc rfl ?_
  first | refine S_fa0 T.f77_0 rfl ?_ | refine S_fa T.f77_0 rfl ?_
  refine S_ldK T.ag47 rfl (fun K' hK' => ?_)
  simp (disch := omega) only [q0, q1, q2, q3, q4, q5, q6, q7, q8, q9, q10, q11, q12, q13, q14, q15, q16, q17, q18, q19, q20, oP_some, Nat.add_zero]
  refine hK' _ ?_; clear hK' K'
  refine S_call T.hb148 rfl ?_
  refine FC.mono (BitW.pos_spec h W.T W.tb s sw.rt) ?_
  rintro v' h' ⟨rfl, rfl⟩
  refine S_nc rfl ?_
  first | refine S_fa0 T.f77_6 rfl ?_ | refine S_fa T.f77_6 rfl ?_
  refine S_st T.sz3 rfl rfl rfl rfl (by simp (disch := omega) only [dok]) ?_
  generalize hh : putH _ _ _ = h1
  have sw1 := sw.sx (h' := h1) (r' := { r with at_ := s.p }) (by rw [← hh]; exact (sw.x.put 6 _).cong (by simp [dcs])) (by rw [← hh]; exact Ext.put _ _ rfl) rfl rfl rfl
  have hEh1 : Ext (WTs W) h h1 := by rw [← hh]; exact Ext.put _ _ wd0
  clear hh
  try clear q0 q1 q2 q3 q4 q5 q6 q7 q8 q9 q10 q11 q12 q13 q14 q15 q16 q17 q18 q19 q20 dok
  obtain ⟨q0, q1, q2, q3, q4, q5, q6, q7, q8, q9, q10, q11, q12, q13, q14, q15, q16, q17, q18, q19, q20⟩ := dq (sw1.x)
  have dok := dok_ (sw1.x)
  try simp only [] at q0 q1 q2 q3 q4 q5 q6 q7 q8 q9 q10 q11 q12 q13 q14 q15 q16 q17 q18 q19 q20
  refine S_nil (hK2 _ _ (V_keep [0] (by simp only [proj, lk, reduceIte, Nat.reduceEqDiff]; rfl) ?_)); clear hK2
  refine V_sr T.mix (by kernel_rfl) (fun K3 hK3 => ?_)
  refine S_mv rfl ?_
  refine S_nc rfl ?_
  first | refine S_fa0 T.f77_0 rfl ?_ | refine S_fa T.f77_0 rfl ?_
  refine S_ldK T.ag47 rfl (fun K' hK' => ?_)
  simp (disch := omega) only [q0, q1, q2, q3, q4, q5, q6, q7, q8, q9, q10, q11, q12, q13, q14, q15, q16, q17, q18, q19, q20, oP_some, Nat.add_zero]
  refine hK' _ ?_; clear hK' K'
  refine S_call T.hb149 rfl ?_
  refine FC.mono (BitW.len_spec h1 W.T W.tb s sw1.rt) ?_
  rintro v' h' ⟨rfl, rfl⟩
  refine S_as rfl ?_
  refine S_nil (hK3 _ _ (V_keep [0, 3] (by simp only [proj, lk, reduceIte, Nat.reduceEqDiff]; rfl) ?_)); clear hK3
  refine V_seq (fun K4 hK4 => ?_)
  refine V_sr T.mix (by kernel_rfl) (fun K5 hK5 => ?_)
  refine S_mv rfl ?_
  refine S_nc rfl ?_
  first | refine S_fa0 T.f77_6 rfl ?_ | refine S_fa T.f77_6 rfl ?_
  refine S_ldK T.ag3 rfl (fun K' hK' => ?_)
  simp (disch := omega) only [q0, q1, q2, q3, q4, q5, q6, q7, q8, q9, q10, q11, q12, q13, q14, q15, q16, q17, q18, q19, q20, oP_some, Nat.add_zero]
  refine hK' _ ?_; clear hK' K'
  refine S_mv rfl ?_
  refine S_bin rfl rfl rfl ?_
  refine S_nil (hK5 _ _ (V_keep [22] (by simp only [proj, lk, reduceIte, Nat.reduceEqDiff]; rfl) ?_)); clear hK5
  refine V_condp rfl (fun c118 => ?_) (fun c118 => ?_)
  · skip
    refine V_sr T.mix (by kernel_rfl) (fun K6 hK6 => ?_)
    refine S_as rfl ?_
    refine S_nil (hK6 _ _ (V_keep [2] (by simp only [proj, lk, reduceIte, Nat.reduceEqDiff]; rfl) ?_)); clear hK6
    refine V_ret ?_
    refine hR _ _ (ret1 rfl rfl ?_)
    exact ⟨by rw [if_pos (by omega)]; rfl, sw1, hEh1⟩
  · skip
    refine V_skipk [] (by simp only [proj, lk, reduceIte, Nat.reduceEqDiff]; rfl) ?_
    refine hK4 _ _ ?_; clear hK4
    refine V_sr T.mix (by kernel_rfl) (fun K7 hK7 => ?_)
    refine S_as rfl ?_
    refine S_nil (hK7 _ _ (V_keep [2] (by simp only [proj, lk, reduceIte, Nat.reduceEqDiff]; rfl) ?_)); clear hK7
    refine V_ret ?_
    refine hR _ _ (ret1 rfl rfl ?_)
    exact ⟨by rw [if_neg (by omega)]; rfl, sw1, hEh1⟩
end Go.Proofs.Qxb6500404aGreat
