import Derived.Test.Qxb6500409aGreatSf
set_option linter.unusedVariables false
set_option linter.unusedSimpArgs false
namespace Go.Proofs.Qxb6500409aGreat
open Go.Eng Go.Bits Go.Blk HufW

theorem RSt.all {raw : ByteArray} {r : SR} {out : List Int} {s : TS} {ua ub : HC} {st : Nat} (q : RSt raw r out s ua ub st) : (r.ph = 2 ∨ r.ph = 3 ∨ r.ph = 8 → s.p % 8 = 0) ∧ (r.ph = 3 → 1 ≤ r.du ∧ r.du < 65536) ∧ (r.ph = 4 → r.ix < 273) ∧ (r.ph = 6 ∨ r.ph = 7 → 3 ≤ r.rn ∧ r.rn ≤ 10) ∧ (r.ph = 7 → r.mo ≤ 2 ∧ 1 ≤ r.ba ∧ r.ba + 2 ^ r.mo ≤ 17) := by
  rcases q with ⟨_, _, _, _, m⟩ | ⟨_, p, _⟩ | ⟨_, p, _⟩
  · exact ⟨m.p8, m.du, m.ix, m.rn, m.ba⟩
  · exact ⟨fun z => by omega, fun z => by omega, fun z => by omega, fun z => by omega, fun z => by omega⟩
  · exact ⟨fun z => by omega, fun z => by omega, fun z => by omega, fun z => by omega, fun z => by omega⟩
theorem cf_A (l : List Nat) {j : Nat} (h : j < 265) : Huf.cf (lA l) j = l.getD j 0 := by unfold Huf.cf; rw [lA_at l h, Int.toNat_natCast]
theorem cf_B (l : List Nat) (j : Nat) : Huf.cf (lB l) j = l.getD (265 + j) 0 := by unfold Huf.cf; rw [lB_at, Int.toNat_natCast]

def r00 : SR := ⟨false, 0, 0, 0, 0, 0, fun _ => 0, 0, 0, 0, 0, fun _ => 0, 0, 0, fun _ => 0, 0, 0, 0⟩
set_option maxHeartbeats 400000 in
theorem checksets_spec (h : Heap) (W : SA) (r : SR) (s : TS) (ua ub : HC) (sw : SW h W r s ua ub) (fa : Nat → Nat) (k1 : CK ua fa) (k2 : ua.n = 265) (k4 : ub.n = 8) (k5 : 0 < fa 256) :
    FC Tryz.prog 47 (#[.pointer (some ⟨W.D, 0, none⟩)] : Array Value) h fun rv h' => rv = .bool true ∧ h = h' := by
  try clear q0 q1 q2 q3 q4 q5 q6 q7 q8 q9 q10 q11 q12 q13 q14 q15 q16 q17 q18 q19 q20 dok
  obtain ⟨q0, q1, q2, q3, q4, q5, q6, q7, q8, q9, q10, q11, q12, q13, q14, q15, q16, q17, q18, q19, q20⟩ := dq (sw.x)
  have dok := dok_ (sw.x)
  try simp only [] at q0 q1 q2 q3 q4 q5 q6 q7 q8 q9 q10 q11 q12 q13 q14 q15 q16 q17 q18 q19 q20
  refine FC_of [(0, .pointer (some ⟨W.D, 0, none⟩))] Tryz.func47 rfl Tryz.ntmps47 (by simp) rfl (fun R hR => ?_)
  refine V_sr T.mix (by kernel_rfl) (fun K1 hK1 => ?_)
  refine S_as rfl ?_
  refine S_nil (hK1 _ _ (V_keep [0] (by simp only [proj, lk, reduceIte, Nat.reduceEqDiff]; rfl) ?_)); clear hK1
  refine V_sr T.mix (by kernel_rfl) (fun K2 hK2 => ?_)
  refine S_mv rfl ?_
  refine S_nc rfl ?_
  first | refine S_fa0 T.f50_1 rfl ?_ | refine S_fa T.f50_1 rfl ?_
  refine S_ldK T.ag28 rfl (fun K' hK' => ?_)
  simp (disch := omega) only [q0, q1, q2, q3, q4, q5, q6, q7, q8, q9, q10, q11, q12, q13, q14, q15, q16, q17, q18, q19, q20, oP_some, Nat.add_zero]
  refine hK' _ ?_; clear hK' K'
  refine S_call T.hb20 rfl ?_
  refine FC.mono (size_spec h W.XA ua sw.ca) ?_
  rintro v' h' ⟨rfl, rfl⟩
  refine S_as rfl ?_
  refine S_nil (hK2 _ _ (V_keep [0, 3] (by simp only [proj, lk, reduceIte, Nat.reduceEqDiff]; rfl) ?_)); clear hK2
  refine V_sr T.mix (by kernel_rfl) (fun K3 hK3 => ?_)
  refine S_mv rfl ?_
  refine S_nc rfl ?_
  first | refine S_fa0 T.f50_2 rfl ?_ | refine S_fa T.f50_2 rfl ?_
  refine S_ldK T.ag28 rfl (fun K' hK' => ?_)
  simp (disch := omega) only [q0, q1, q2, q3, q4, q5, q6, q7, q8, q9, q10, q11, q12, q13, q14, q15, q16, q17, q18, q19, q20, oP_some, Nat.add_zero]
  refine hK' _ ?_; clear hK' K'
  refine S_call T.hb20 rfl ?_
  refine FC.mono (size_spec h W.XB ub sw.cb) ?_
  rintro v' h' ⟨rfl, rfl⟩
  refine S_as rfl ?_
  refine S_nil (hK3 _ _ (V_keep [0, 3, 4] (by simp only [proj, lk, reduceIte, Nat.reduceEqDiff]; rfl) ?_)); clear hK3
  refine V_sr T.mix (by kernel_rfl) (fun K4 hK4 => ?_)
  refine S_mv rfl ?_
  refine S_nc rfl ?_
  first | refine S_fa0 T.f50_1 rfl ?_ | refine S_fa T.f50_1 rfl ?_
  refine S_ldK T.ag28 rfl (fun K' hK' => ?_)
  simp (disch := omega) only [q0, q1, q2, q3, q4, q5, q6, q7, q8, q9, q10, q11, q12, q13, q14, q15, q16, q17, q18, q19, q20, oP_some, Nat.add_zero]
  refine hK' _ ?_; clear hK' K'
  refine S_call T.hb48 rfl ?_
  refine FC.mono (code_spec h W.XA ua sw.ca fa k1 256) ?_
  rw [codF_ok (show (0 : Int) ≤ 256 ∧ (256 : Int) < ua.n ∧ 0 < fa (256 : Int).toNat from ⟨by omega, by omega, k5⟩)]
  unfold tri
  rintro v' h' ⟨rfl, rfl⟩
  refine S_mv rfl ?_
  refine S_ex rfl rfl ?_
  refine S_ex rfl rfl ?_
  refine S_ex rfl rfl ?_
  refine S_as rfl ?_
  refine S_as rfl ?_
  refine S_as rfl ?_
  refine S_nil (hK4 _ _ (V_keep [3, 4, 7] (by simp only [proj, lk, reduceIte, Nat.reduceEqDiff]; rfl) ?_)); clear hK4
  refine V_sr T.mix (by kernel_rfl) (fun K5 hK5 => ?_)
  refine S_mv rfl ?_
  refine S_bin rfl rfl rfl ?_
  refine S_mv rfl ?_
  refine S_dec (fun g79 => ?_) (fun g79 => ?_)
  · skip
    refine S_gt rfl ?_
    refine S_mv rfl ?_
    refine S_gt rfl ?_
    refine S_bin rfl rfl rfl ?_
    refine S_pt rfl rfl ?_
    refine S_mv rfl ?_
    refine S_dec (fun g79a => ?_) (fun g79a => ?_)
    · skip
      refine S_gt rfl ?_
      refine S_mv rfl ?_
      refine S_gt rfl ?_
      refine S_bin rfl rfl rfl ?_
      refine S_pt rfl rfl ?_
      refine S_as rfl ?_
      refine S_nil (hK5 _ _ (V_keep [2] (by simp only [proj, lk, reduceIte, Nat.reduceEqDiff]; rfl) ?_)); clear hK5
      refine V_ret ?_
      refine hR _ _ (ret1 rfl rfl ?_)
      exact ⟨rfl, rfl⟩
    · skip
      exfalso; omega
  · skip
    exfalso; omega
set_option maxHeartbeats 800000 in
theorem checkfixed_spec (h : Heap) (W : SA) (r : SR) (s : TS) (ua ub : HC) (sw : SW h W r s ua ub) (k1 : CK ua (Huf.cf (lA fixL))) (k2 : ua.n = 265) (k3 : CK ub (Huf.cf (lB fixL))) (k4 : ub.n = 8) :
    FC Tryz.prog 40 (#[.pointer (some ⟨W.D, 0, none⟩)] : Array Value) h fun rv h' => rv = .bool true ∧ h = h' := by
  try clear q0 q1 q2 q3 q4 q5 q6 q7 q8 q9 q10 q11 q12 q13 q14 q15 q16 q17 q18 q19 q20 dok
  obtain ⟨q0, q1, q2, q3, q4, q5, q6, q7, q8, q9, q10, q11, q12, q13, q14, q15, q16, q17, q18, q19, q20⟩ := dq (sw.x)
  have dok := dok_ (sw.x)
  try simp only [] at q0 q1 q2 q3 q4 q5 q6 q7 q8 q9 q10 q11 q12 q13 q14 q15 q16 q17 q18 q19 q20
  refine FC_of [(0, .pointer (some ⟨W.D, 0, none⟩))] Tryz.func40 rfl Tryz.ntmps40 (by simp) rfl (fun R hR => ?_)
  refine V_sr T.mix (by kernel_rfl) (fun K1 hK1 => ?_)
  refine S_as rfl ?_
  refine S_nil (hK1 _ _ (V_keep [0] (by simp only [proj, lk, reduceIte, Nat.reduceEqDiff]; rfl) ?_)); clear hK1
  refine V_sr T.mix (by kernel_rfl) (fun K2 hK2 => ?_)
  refine S_mv rfl ?_
  refine S_nc rfl ?_
  first | refine S_fa0 T.f50_1 rfl ?_ | refine S_fa T.f50_1 rfl ?_
  refine S_ldK T.ag28 rfl (fun K' hK' => ?_)
  simp (disch := omega) only [q0, q1, q2, q3, q4, q5, q6, q7, q8, q9, q10, q11, q12, q13, q14, q15, q16, q17, q18, q19, q20, oP_some, Nat.add_zero]
  refine hK' _ ?_; clear hK' K'
  refine S_call T.hb20 rfl ?_
  refine FC.mono (size_spec h W.XA ua sw.ca) ?_
  rintro v' h' ⟨rfl, rfl⟩
  refine S_as rfl ?_
  refine S_nil (hK2 _ _ (V_keep [0, 3] (by simp only [proj, lk, reduceIte, Nat.reduceEqDiff]; rfl) ?_)); clear hK2
  refine V_sr T.mix (by kernel_rfl) (fun K3 hK3 => ?_)
  refine S_mv rfl ?_
  refine S_nc rfl ?_
  first | refine S_fa0 T.f50_2 rfl ?_ | refine S_fa T.f50_2 rfl ?_
  refine S_ldK T.ag28 rfl (fun K' hK' => ?_)
  simp (disch := omega) only [q0, q1, q2, q3, q4, q5, q6, q7, q8, q9, q10, q11, q12, q13, q14, q15, q16, q17, q18, q19, q20, oP_some, Nat.add_zero]
  refine hK' _ ?_; clear hK' K'
  refine S_call T.hb20 rfl ?_
  refine FC.mono (size_spec h W.XB ub sw.cb) ?_
  rintro v' h' ⟨rfl, rfl⟩
  refine S_as rfl ?_
  refine S_nil (hK3 _ _ (V_keep [0, 3, 4] (by simp only [proj, lk, reduceIte, Nat.reduceEqDiff]; rfl) ?_)); clear hK3
  refine V_seq (fun K4 hK4 => ?_)
  refine V_sr T.mix (by kernel_rfl) (fun K5 hK5 => ?_)
  refine S_mv rfl ?_
  refine S_bin rfl rfl rfl ?_
  refine S_mv rfl ?_
  refine S_dec (fun g86 => ?_) (fun g86 => ?_)
  · skip
    exfalso; omega
  · skip
    refine S_gt rfl ?_
    refine S_mv rfl ?_
    refine S_gt rfl ?_
    refine S_bin rfl rfl rfl ?_
    refine S_pf rfl rfl ?_
    refine S_nil (hK5 _ _ (V_keep [0, 29] (by simp only [proj, lk, reduceIte, Nat.reduceEqDiff]; rfl) ?_)); clear hK5
    refine V_condp rfl (fun c86 => ?_) (fun c86 => ?_)
    · skip
      exfalso; omega
    · skip
      refine V_skipk [0] (by simp only [proj, lk, reduceIte, Nat.reduceEqDiff]; rfl) ?_
      refine hK4 _ _ ?_; clear hK4
      refine V_seq (fun K6 hK6 => ?_)
      refine V_sr T.mix (by kernel_rfl) (fun K7 hK7 => ?_)
      refine S_as rfl ?_
      refine S_nil (hK7 _ _ (V_keep [0, 5] (by simp only [proj, lk, reduceIte, Nat.reduceEqDiff]; rfl) ?_)); clear hK7
      refine V_block ?_
      refine V_loop (fun m l h' => ∃ (i : Nat), (i ≤ 265) ∧ m = 265 - i ∧ l = [(0, .pointer (some ⟨W.D, 0, none⟩)), (5, .int .i64 (i : Int))] ∧ h = h') _ ⟨0, Nat.zero_le _, rfl, rfl, rfl⟩ ?_
      rintro m l h' ⟨i, hi, rfl, rfl, rfl⟩ K8 hK8
      refine V_seq (fun K9 hK9 => ?_)
      refine V_sr T.mix (by kernel_rfl) (fun K10 hK10 => ?_)
      refine S_mv rfl ?_
      refine S_bin rfl rfl rfl ?_
      refine S_nil (hK10 _ _ (V_keep [0, 5, 31] (by simp only [proj, lk, reduceIte, Nat.reduceEqDiff]; rfl) ?_)); clear hK10
      refine V_condp rfl (fun c89 => ?_) (fun c89 => ?_)
      · skip
        refine V_skipk [0, 5] (by simp only [proj, lk, reduceIte, Nat.reduceEqDiff]; rfl) ?_
        refine hK9 _ _ ?_; clear hK9
        refine V_seq (fun K11 hK11 => ?_)
        refine V_block ?_
        refine V_sr T.mix (by kernel_rfl) (fun K12 hK12 => ?_)
        refine S_mv rfl ?_
        refine S_nc rfl ?_
        first | refine S_fa0 T.f50_1 rfl ?_ | refine S_fa T.f50_1 rfl ?_
        refine S_ldK T.ag28 rfl (fun K' hK' => ?_)
        simp (disch := omega) only [q0, q1, q2, q3, q4, q5, q6, q7, q8, q9, q10, q11, q12, q13, q14, q15, q16, q17, q18, q19, q20, oP_some, Nat.add_zero]
        refine hK' _ ?_; clear hK' K'
        refine S_mv rfl ?_
        refine S_call T.hb48 rfl ?_
        have hcf : Huf.cf (lA fixL) i = fixL.getD i 0 := cf_A fixL (by omega)
        have hfa := fix_at (i := i) (by omega)
        have hpos : 0 < fixL.getD i 0 := by rw [hfa]; split; (omega); (split <;> omega)
        refine FC.mono (code_spec h W.XA ua sw.ca _ k1 (i : Int)) ?_
        rw [codF_ok (show (0 : Int) ≤ (i : Int) ∧ (i : Int) < ua.n ∧ 0 < Huf.cf (lA fixL) (i : Int).toNat from ⟨by omega, by omega, by rw [Int.toNat_natCast, hcf]; exact hpos⟩), Int.toNat_natCast, hcf]
        unfold tri
        rintro v' h' ⟨rfl, rfl⟩
        refine S_mv rfl ?_
        refine S_ex rfl rfl ?_
        refine S_ex rfl rfl ?_
        refine S_ex rfl rfl ?_
        refine S_as rfl ?_
        refine S_as rfl ?_
        refine S_as rfl ?_
        refine S_nil (hK12 _ _ (V_keep [0, 5, 7] (by simp only [proj, lk, reduceIte, Nat.reduceEqDiff]; rfl) ?_)); clear hK12
        refine V_sr T.mix (by kernel_rfl) (fun K13 hK13 => ?_)
        refine S_mv rfl ?_
        refine S_call T.hb49 rfl ?_
        refine FC.mono (fixedlen_spec h i (by omega)) ?_
        rintro v' h' ⟨rfl, rfl⟩
        refine S_as rfl ?_
        refine S_nil (hK13 _ _ (V_keep [0, 5, 7, 9] (by simp only [proj, lk, reduceIte, Nat.reduceEqDiff]; rfl) ?_)); clear hK13
        refine V_sr T.mix (by kernel_rfl) (fun K14 hK14 => ?_)
        refine S_mv rfl ?_
        refine S_mv rfl ?_
        refine S_bin rfl rfl rfl ?_
        refine S_nil (hK14 _ _ (V_keep [0, 5, 48] (by simp only [proj, lk, reduceIte, Nat.reduceEqDiff]; rfl) ?_)); clear hK14
        refine V_condp rfl (fun c92 => ?_) (fun c92 => ?_)
        · skip
          exfalso; omega
        · skip
          refine V_skipk [0, 5] (by simp only [proj, lk, reduceIte, Nat.reduceEqDiff]; rfl) ?_
          refine hK11 _ _ ?_; clear hK11
          refine V_reg T.mix (by kernel_rfl) ?_
          refine S_mv rfl ?_
          refine S_addN (i + 1) rfl rfl (by omega) (by omega) ?_
          refine S_as rfl ?_
          refine S_nilk [0, 5] (by simp only [proj, lk, reduceIte, Nat.reduceEqDiff]; rfl) ?_
          exact hK8 _ _ ⟨_, by omega, i + 1, by omega, rfl, rfl, rfl⟩
      · skip
        refine V_exitk [0] rfl (by simp only [proj, lk, reduceIte, Nat.reduceEqDiff]; rfl) ?_
        refine hK6 _ _ ?_; clear hK6
        refine V_seq (fun K15 hK15 => ?_)
        refine V_sr T.mix (by kernel_rfl) (fun K16 hK16 => ?_)
        refine S_as rfl ?_
        refine S_nil (hK16 _ _ (V_keep [0, 10] (by simp only [proj, lk, reduceIte, Nat.reduceEqDiff]; rfl) ?_)); clear hK16
        refine V_block ?_
        refine V_loop (fun m l h' => ∃ (c : Nat), (c ≤ 8) ∧ m = 8 - c ∧ l = [(0, .pointer (some ⟨W.D, 0, none⟩)), (10, .int .i64 (c : Int))] ∧ h = h') _ ⟨0, Nat.zero_le _, rfl, rfl, rfl⟩ ?_
        rintro m l h' ⟨c, hc, rfl, rfl, rfl⟩ K17 hK17
        refine V_seq (fun K18 hK18 => ?_)
        refine V_sr T.mix (by kernel_rfl) (fun K19 hK19 => ?_)
        refine S_mv rfl ?_
        refine S_bin rfl rfl rfl ?_
        refine S_nil (hK19 _ _ (V_keep [0, 10, 50] (by simp only [proj, lk, reduceIte, Nat.reduceEqDiff]; rfl) ?_)); clear hK19
        refine V_condp rfl (fun c96 => ?_) (fun c96 => ?_)
        · skip
          refine V_skipk [0, 10] (by simp only [proj, lk, reduceIte, Nat.reduceEqDiff]; rfl) ?_
          refine hK18 _ _ ?_; clear hK18
          refine V_seq (fun K20 hK20 => ?_)
          refine V_block ?_
          refine V_sr T.mix (by kernel_rfl) (fun K21 hK21 => ?_)
          refine S_mv rfl ?_
          refine S_nc rfl ?_
          first | refine S_fa0 T.f50_2 rfl ?_ | refine S_fa T.f50_2 rfl ?_
          refine S_ldK T.ag28 rfl (fun K' hK' => ?_)
          simp (disch := omega) only [q0, q1, q2, q3, q4, q5, q6, q7, q8, q9, q10, q11, q12, q13, q14, q15, q16, q17, q18, q19, q20, oP_some, Nat.add_zero]
          refine hK' _ ?_; clear hK' K'
          refine S_mv rfl ?_
          refine S_call T.hb48 rfl ?_
          have hcf : Huf.cf (lB fixL) c = 3 := by rw [cf_B, fix_at (by omega), if_neg (by omega), if_neg (by omega)]
          refine FC.mono (code_spec h W.XB ub sw.cb _ k3 (c : Int)) ?_
          rw [codF_ok (show (0 : Int) ≤ (c : Int) ∧ (c : Int) < ub.n ∧ 0 < Huf.cf (lB fixL) (c : Int).toNat from ⟨by omega, by omega, by rw [Int.toNat_natCast, hcf]; omega⟩), Int.toNat_natCast, hcf]
          unfold tri
          rintro v' h' ⟨rfl, rfl⟩
          refine S_mv rfl ?_
          refine S_ex rfl rfl ?_
          refine S_ex rfl rfl ?_
          refine S_ex rfl rfl ?_
          refine S_as rfl ?_
          refine S_as rfl ?_
          refine S_as rfl ?_
          refine S_nil (hK21 _ _ (V_keep [0, 10, 12] (by simp only [proj, lk, reduceIte, Nat.reduceEqDiff]; rfl) ?_)); clear hK21
          refine V_sr T.mix (by kernel_rfl) (fun K22 hK22 => ?_)
          refine S_mv rfl ?_
          refine S_bin rfl rfl rfl ?_
          refine S_nil (hK22 _ _ (V_keep [0, 10, 64] (by simp only [proj, lk, reduceIte, Nat.reduceEqDiff]; rfl) ?_)); clear hK22
          refine V_condp rfl (fun c98 => ?_) (fun c98 => ?_)
          · skip
            exfalso; omega
          · skip
            refine V_skipk [0, 10] (by simp only [proj, lk, reduceIte, Nat.reduceEqDiff]; rfl) ?_
            refine hK20 _ _ ?_; clear hK20
            refine V_reg T.mix (by kernel_rfl) ?_
            refine S_mv rfl ?_
            refine S_addN (c + 1) rfl rfl (by omega) (by omega) ?_
            refine S_as rfl ?_
            refine S_nilk [0, 10] (by simp only [proj, lk, reduceIte, Nat.reduceEqDiff]; rfl) ?_
            exact hK17 _ _ ⟨_, by omega, c + 1, by omega, rfl, rfl, rfl⟩
        · skip
          refine V_exitk [] rfl (by simp only [proj, lk, reduceIte, Nat.reduceEqDiff]; rfl) ?_
          refine hK15 _ _ ?_; clear hK15
          refine V_sr T.mix (by kernel_rfl) (fun K23 hK23 => ?_)
          refine S_as rfl ?_
          refine S_nil (hK23 _ _ (V_keep [2] (by simp only [proj, lk, reduceIte, Nat.reduceEqDiff]; rfl) ?_)); clear hK23
          refine V_ret ?_
          refine hR _ _ (ret1 rfl rfl ?_)
          exact ⟨rfl, rfl⟩
set_option maxHeartbeats 1600000 in
theorem checkphase_spec (h : Heap) (W : SA) (r : SR) (s : TS) (ua ub : HC) (sw : SW h W r s ua ub) (raw : ByteArray) (out : List Int) (st : Nat) (q : RSt raw r out s ua ub st) :
    FC Tryz.prog 39 (#[.pointer (some ⟨W.D, 0, none⟩), .int .i64 (s.p : Int)] : Array Value) h fun rv h' => rv = .bool true ∧ h = h' := by
  try clear q0 q1 q2 q3 q4 q5 q6 q7 q8 q9 q10 q11 q12 q13 q14 q15 q16 q17 q18 q19 q20 dok
  obtain ⟨q0, q1, q2, q3, q4, q5, q6, q7, q8, q9, q10, q11, q12, q13, q14, q15, q16, q17, q18, q19, q20⟩ := dq (sw.x)
  have dok := dok_ (sw.x)
  try simp only [] at q0 q1 q2 q3 q4 q5 q6 q7 q8 q9 q10 q11 q12 q13 q14 q15 q16 q17 q18 q19 q20
  obtain ⟨f1, f2, f3, f4, f5⟩ := q.all
  refine FC_of [(0, .pointer (some ⟨W.D, 0, none⟩)), (1, .int .i64 (s.p : Int))] Tryz.func39 rfl Tryz.ntmps39 (by simp) rfl (fun R hR => ?_)
  refine V_sr T.mix (by kernel_rfl) (fun K1 hK1 => ?_)
  refine S_as rfl ?_
  refine S_nil (hK1 _ _ (V_keep [0, 1] (by simp only [proj, lk, reduceIte, Nat.reduceEqDiff]; rfl) ?_)); clear hK1
  refine V_seq (fun K2 hK2 => ?_)
  refine V_sr T.mix (by kernel_rfl) (fun K3 hK3 => ?_)
  refine S_mv rfl ?_
  refine S_nc rfl ?_
  first | refine S_fa0 T.f50_4 rfl ?_ | refine S_fa T.f50_4 rfl ?_
  refine S_ldK T.ag3 rfl (fun K' hK' => ?_)
  simp (disch := omega) only [q0, q1, q2, q3, q4, q5, q6, q7, q8, q9, q10, q11, q12, q13, q14, q15, q16, q17, q18, q19, q20, oP_some, Nat.add_zero]
  refine hK' _ ?_; clear hK' K'
  refine S_nil (hK3 _ _ (V_keep [0, 1, 8] (by simp only [proj, lk, reduceIte, Nat.reduceEqDiff]; rfl) ?_)); clear hK3
  refine V_block ?_
  refine V_seq (fun K4 hK4 => ?_)
  refine V_sr T.mix (by kernel_rfl) (fun K5 hK5 => ?_)
  refine S_bin rfl rfl rfl ?_
  refine S_as rfl ?_
  refine S_nil (hK5 _ _ (V_keep [0, 1, 8, 9] (by simp only [proj, lk, reduceIte, Nat.reduceEqDiff]; rfl) ?_)); clear hK5
  refine V_condp rfl (fun c49 => ?_) (fun c49 => ?_)
  · skip
    refine V_skipk [0, 1, 8, 9] (by simp only [proj, lk, reduceIte, Nat.reduceEqDiff]; rfl) ?_
    refine hK4 _ _ ?_; clear hK4
    refine V_condp rfl (fun c49a => ?_) (fun c49a => ?_)
    · skip
      refine V_sr T.mix (by kernel_rfl) (fun K6 hK6 => ?_)
      refine S_mv rfl ?_
      refine S_rem rfl rfl (by omega) (by omega) ?_
      refine S_bin rfl rfl rfl ?_
      refine S_as rfl ?_
      refine S_nil (hK6 _ _ (V_keep [4] (by simp only [proj, lk, reduceIte, Nat.reduceEqDiff]; rfl) ?_)); clear hK6
      refine V_ret ?_
      refine hR _ _ (ret1 rfl rfl ?_)
      first
        | (exfalso; omega)
        | (refine ⟨by rw [decide_eq_true (by omega)], rfl⟩)
        | (exact ⟨rfl, rfl⟩)
    · skip
      refine V_sr T.mix (by kernel_rfl) (fun K7 hK7 => ?_)
      refine S_bin rfl rfl rfl ?_
      refine S_as rfl ?_
      refine S_nil (hK7 _ _ (V_keep [0, 1, 8, 15] (by simp only [proj, lk, reduceIte, Nat.reduceEqDiff]; rfl) ?_)); clear hK7
      refine V_condp rfl (fun c51 => ?_) (fun c51 => ?_)
      · skip
        refine V_sr T.mix (by kernel_rfl) (fun K8 hK8 => ?_)
        refine S_mv rfl ?_
        refine S_rem rfl rfl (by omega) (by omega) ?_
        refine S_bin rfl rfl rfl ?_
        refine S_mv rfl ?_
        refine S_dec (fun g52 => ?_) (fun g52 => ?_)
        · skip
          refine S_gt rfl ?_
          refine S_mv rfl ?_
          refine S_gt rfl ?_
          refine S_nc rfl ?_
          refine S_gt rfl ?_
          first | refine S_fa0 T.f50_8 rfl ?_ | refine S_fa T.f50_8 rfl ?_
          refine S_gt rfl ?_
          refine S_ldK T.ag3 rfl (fun K' hK' => ?_)
          simp (disch := omega) only [q0, q1, q2, q3, q4, q5, q6, q7, q8, q9, q10, q11, q12, q13, q14, q15, q16, q17, q18, q19, q20, oP_some, Nat.add_zero]
          refine hK' _ ?_; clear hK' K'
          refine S_gt rfl ?_
          refine S_bin rfl rfl rfl ?_
          refine S_pt rfl rfl ?_
          refine S_mv rfl ?_
          refine S_dec (fun g52a => ?_) (fun g52a => ?_)
          · skip
            refine S_gt rfl ?_
            refine S_mv rfl ?_
            refine S_gt rfl ?_
            refine S_nc rfl ?_
            refine S_gt rfl ?_
            first | refine S_fa0 T.f50_8 rfl ?_ | refine S_fa T.f50_8 rfl ?_
            refine S_gt rfl ?_
            refine S_ldK T.ag3 rfl (fun K' hK' => ?_)
            simp (disch := omega) only [q0, q1, q2, q3, q4, q5, q6, q7, q8, q9, q10, q11, q12, q13, q14, q15, q16, q17, q18, q19, q20, oP_some, Nat.add_zero]
            refine hK' _ ?_; clear hK' K'
            refine S_gt rfl ?_
            refine S_bin rfl rfl rfl ?_
            refine S_pt rfl rfl ?_
            refine S_as rfl ?_
            refine S_nil (hK8 _ _ (V_keep [4] (by simp only [proj, lk, reduceIte, Nat.reduceEqDiff]; rfl) ?_)); clear hK8
            refine V_ret ?_
            refine hR _ _ (ret1 rfl rfl ?_)
            first
              | (exfalso; omega)
              | (refine ⟨by rw [decide_eq_true (by omega)], rfl⟩)
              | (exact ⟨rfl, rfl⟩)
          · skip
            exfalso; omega
        · skip
          exfalso; omega
      · skip
        refine V_sr T.mix (by kernel_rfl) (fun K9 hK9 => ?_)
        refine S_bin rfl rfl rfl ?_
        refine S_as rfl ?_
        refine S_nil (hK9 _ _ (V_keep [0, 8, 34] (by simp only [proj, lk, reduceIte, Nat.reduceEqDiff]; rfl) ?_)); clear hK9
        refine V_condp rfl (fun c53 => ?_) (fun c53 => ?_)
        · skip
          refine V_sr T.mix (by kernel_rfl) (fun K10 hK10 => ?_)
          refine S_mv rfl ?_
          refine S_nc rfl ?_
          first | refine S_fa0 T.f50_10 rfl ?_ | refine S_fa T.f50_10 rfl ?_
          refine S_ldK T.ag3 rfl (fun K' hK' => ?_)
          simp (disch := omega) only [q0, q1, q2, q3, q4, q5, q6, q7, q8, q9, q10, q11, q12, q13, q14, q15, q16, q17, q18, q19, q20, oP_some, Nat.add_zero]
          refine hK' _ ?_; clear hK' K'
          refine S_bin rfl rfl rfl ?_
          refine S_mv rfl ?_
          refine S_dec (fun g54 => ?_) (fun g54 => ?_)
          · skip
            refine S_gt rfl ?_
            refine S_mv rfl ?_
            refine S_gt rfl ?_
            refine S_nc rfl ?_
            refine S_gt rfl ?_
            first | refine S_fa0 T.f50_10 rfl ?_ | refine S_fa T.f50_10 rfl ?_
            refine S_gt rfl ?_
            refine S_ldK T.ag3 rfl (fun K' hK' => ?_)
            simp (disch := omega) only [q0, q1, q2, q3, q4, q5, q6, q7, q8, q9, q10, q11, q12, q13, q14, q15, q16, q17, q18, q19, q20, oP_some, Nat.add_zero]
            refine hK' _ ?_; clear hK' K'
            refine S_gt rfl ?_
            refine S_mv rfl ?_
            refine S_gt rfl ?_
            refine S_nc rfl ?_
            refine S_gt rfl ?_
            first | refine S_fa0 T.f50_9 rfl ?_ | refine S_fa T.f50_9 rfl ?_
            refine S_gt rfl ?_
            refine S_ldK T.ag47 rfl (fun K' hK' => ?_)
            simp (disch := omega) only [q0, q1, q2, q3, q4, q5, q6, q7, q8, q9, q10, q11, q12, q13, q14, q15, q16, q17, q18, q19, q20, oP_some, Nat.add_zero]
            refine hK' _ ?_; clear hK' K'
            refine S_gt rfl ?_
            refine S_lenl T.el47 rfl ?_
            refine S_gt rfl ?_
            refine S_bin rfl rfl rfl ?_
            refine S_pt rfl rfl ?_
            refine S_as rfl ?_
            refine S_nil (hK10 _ _ (V_keep [4] (by simp only [proj, lk, reduceIte, Nat.reduceEqDiff]; rfl) ?_)); clear hK10
            refine V_ret ?_
            refine hR _ _ (ret1 rfl rfl ?_)
            first
              | (exfalso; omega)
              | (refine ⟨by rw [decide_eq_true (by omega)], rfl⟩)
              | (exact ⟨rfl, rfl⟩)
          · skip
            exfalso; omega
        · skip
          refine V_sr T.mix (by kernel_rfl) (fun K11 hK11 => ?_)
          refine S_bin rfl rfl rfl ?_
          refine S_as rfl ?_
          refine S_nil (hK11 _ _ (V_keep [0, 8, 53] (by simp only [proj, lk, reduceIte, Nat.reduceEqDiff]; rfl) ?_)); clear hK11
          refine V_condp rfl (fun c55 => ?_) (fun c55 => ?_)
          · skip
            refine V_sr T.mix (by kernel_rfl) (fun K12 hK12 => ?_)
            refine S_mv rfl ?_
            refine S_call T.hb47 rfl ?_
            obtain ⟨hst, sent0, fa, fb, m⟩ := q.live (by omega)
            obtain ⟨k1, k2, k3, k4, k5⟩ := m.ck (by omega) (by omega)
            refine FC.mono (checksets_spec h W r s ua ub sw fa k1 k2 k4 k5) ?_
            rintro v' h' ⟨rfl, rfl⟩
            refine S_as rfl ?_
            refine S_nil (hK12 _ _ (V_keep [4] (by simp only [proj, lk, reduceIte, Nat.reduceEqDiff]; rfl) ?_)); clear hK12
            refine V_ret ?_
            refine hR _ _ (ret1 rfl rfl ?_)
            first
              | (exfalso; omega)
              | (refine ⟨by rw [decide_eq_true (by omega)], rfl⟩)
              | (exact ⟨rfl, rfl⟩)
          · skip
            refine V_sr T.mix (by kernel_rfl) (fun K13 hK13 => ?_)
            refine S_bin rfl rfl rfl ?_
            refine S_as rfl ?_
            refine S_nil (hK13 _ _ (V_keep [0, 8, 57] (by simp only [proj, lk, reduceIte, Nat.reduceEqDiff]; rfl) ?_)); clear hK13
            refine V_condp rfl (fun c57 => ?_) (fun c57 => ?_)
            · skip
              refine V_seq (fun K14 hK14 => ?_)
              refine V_sr T.mix (by kernel_rfl) (fun K15 hK15 => ?_)
              refine S_mv rfl ?_
              refine S_nc rfl ?_
              first | refine S_fa0 T.f50_11 rfl ?_ | refine S_fa T.f50_11 rfl ?_
              refine S_ldK T.ag3 rfl (fun K' hK' => ?_)
              simp (disch := omega) only [q0, q1, q2, q3, q4, q5, q6, q7, q8, q9, q10, q11, q12, q13, q14, q15, q16, q17, q18, q19, q20, oP_some, Nat.add_zero]
              refine hK' _ ?_; clear hK' K'
              refine S_bin rfl rfl rfl ?_
              refine S_mv rfl ?_
              refine S_dec (fun g58 => ?_) (fun g58 => ?_)
              · skip
                exfalso; omega
              · skip
                refine S_gt rfl ?_
                refine S_mv rfl ?_
                refine S_gt rfl ?_
                refine S_nc rfl ?_
                refine S_gt rfl ?_
                first | refine S_fa0 T.f50_11 rfl ?_ | refine S_fa T.f50_11 rfl ?_
                refine S_gt rfl ?_
                refine S_ldK T.ag3 rfl (fun K' hK' => ?_)
                simp (disch := omega) only [q0, q1, q2, q3, q4, q5, q6, q7, q8, q9, q10, q11, q12, q13, q14, q15, q16, q17, q18, q19, q20, oP_some, Nat.add_zero]
                refine hK' _ ?_; clear hK' K'
                refine S_gt rfl ?_
                refine S_bin rfl rfl rfl ?_
                refine S_pf rfl rfl ?_
                refine S_nil (hK15 _ _ (V_keep [0, 70] (by simp only [proj, lk, reduceIte, Nat.reduceEqDiff]; rfl) ?_)); clear hK15
                refine V_condp rfl (fun c58 => ?_) (fun c58 => ?_)
                · skip
                  exfalso; omega
                · skip
                  refine V_skipk [0] (by simp only [proj, lk, reduceIte, Nat.reduceEqDiff]; rfl) ?_
                  refine hK14 _ _ ?_; clear hK14
                  refine V_sr T.mix (by kernel_rfl) (fun K16 hK16 => ?_)
                  refine S_mv rfl ?_
                  refine S_call T.hb47 rfl ?_
                  obtain ⟨hst, sent0, fa, fb, m⟩ := q.live (by omega)
                  obtain ⟨k1, k2, k3, k4, k5⟩ := m.ck (by omega) (by omega)
                  refine FC.mono (checksets_spec h W r s ua ub sw fa k1 k2 k4 k5) ?_
                  rintro v' h' ⟨rfl, rfl⟩
                  refine S_as rfl ?_
                  refine S_nil (hK16 _ _ (V_keep [4] (by simp only [proj, lk, reduceIte, Nat.reduceEqDiff]; rfl) ?_)); clear hK16
                  refine V_ret ?_
                  refine hR _ _ (ret1 rfl rfl ?_)
                  first
                    | (exfalso; omega)
                    | (refine ⟨by rw [decide_eq_true (by omega)], rfl⟩)
                    | (exact ⟨rfl, rfl⟩)
            · skip
              refine V_sr T.mix (by kernel_rfl) (fun K17 hK17 => ?_)
              refine S_bin rfl rfl rfl ?_
              refine S_as rfl ?_
              refine S_nil (hK17 _ _ (V_keep [0, 73] (by simp only [proj, lk, reduceIte, Nat.reduceEqDiff]; rfl) ?_)); clear hK17
              refine V_condp rfl (fun c62 => ?_) (fun c62 => ?_)
              · skip
                refine V_seq (fun K18 hK18 => ?_)
                refine V_sr T.mix (by kernel_rfl) (fun K19 hK19 => ?_)
                refine S_mv rfl ?_
                refine S_nc rfl ?_
                first | refine S_fa0 T.f50_11 rfl ?_ | refine S_fa T.f50_11 rfl ?_
                refine S_ldK T.ag3 rfl (fun K' hK' => ?_)
                simp (disch := omega) only [q0, q1, q2, q3, q4, q5, q6, q7, q8, q9, q10, q11, q12, q13, q14, q15, q16, q17, q18, q19, q20, oP_some, Nat.add_zero]
                refine hK' _ ?_; clear hK' K'
                refine S_bin rfl rfl rfl ?_
                refine S_mv rfl ?_
                refine S_dec (fun g63 => ?_) (fun g63 => ?_)
                · skip
                  exfalso; omega
                · skip
                  refine S_gt rfl ?_
                  refine S_mv rfl ?_
                  refine S_gt rfl ?_
                  refine S_nc rfl ?_
                  refine S_gt rfl ?_
                  first | refine S_fa0 T.f50_11 rfl ?_ | refine S_fa T.f50_11 rfl ?_
                  refine S_gt rfl ?_
                  refine S_ldK T.ag3 rfl (fun K' hK' => ?_)
                  simp (disch := omega) only [q0, q1, q2, q3, q4, q5, q6, q7, q8, q9, q10, q11, q12, q13, q14, q15, q16, q17, q18, q19, q20, oP_some, Nat.add_zero]
                  refine hK' _ ?_; clear hK' K'
                  refine S_gt rfl ?_
                  refine S_bin rfl rfl rfl ?_
                  refine S_pf rfl rfl ?_
                  refine S_mv rfl ?_
                  refine S_dec (fun g63a => ?_) (fun g63a => ?_)
                  · skip
                    exfalso; omega
                  · skip
                    refine S_gt rfl ?_
                    refine S_mv rfl ?_
                    refine S_gt rfl ?_
                    refine S_nc rfl ?_
                    refine S_gt rfl ?_
                    first | refine S_fa0 T.f50_13 rfl ?_ | refine S_fa T.f50_13 rfl ?_
                    refine S_gt rfl ?_
                    refine S_ldK T.ag3 rfl (fun K' hK' => ?_)
                    simp (disch := omega) only [q0, q1, q2, q3, q4, q5, q6, q7, q8, q9, q10, q11, q12, q13, q14, q15, q16, q17, q18, q19, q20, oP_some, Nat.add_zero]
                    refine hK' _ ?_; clear hK' K'
                    refine S_gt rfl ?_
                    refine S_bin rfl rfl rfl ?_
                    refine S_pf rfl rfl ?_
                    refine S_mv rfl ?_
                    refine S_dec (fun g63b => ?_) (fun g63b => ?_)
                    · skip
                      exfalso; omega
                    · skip
                      refine S_gt rfl ?_
                      refine S_mv rfl ?_
                      refine S_gt rfl ?_
                      refine S_nc rfl ?_
                      refine S_gt rfl ?_
                      first | refine S_fa0 T.f50_13 rfl ?_ | refine S_fa T.f50_13 rfl ?_
                      refine S_gt rfl ?_
                      refine S_ldK T.ag3 rfl (fun K' hK' => ?_)
                      simp (disch := omega) only [q0, q1, q2, q3, q4, q5, q6, q7, q8, q9, q10, q11, q12, q13, q14, q15, q16, q17, q18, q19, q20, oP_some, Nat.add_zero]
                      refine hK' _ ?_; clear hK' K'
                      refine S_gt rfl ?_
                      refine S_bin rfl rfl rfl ?_
                      refine S_pf rfl rfl ?_
                      refine S_nil (hK19 _ _ (V_keep [0, 100] (by simp only [proj, lk, reduceIte, Nat.reduceEqDiff]; rfl) ?_)); clear hK19
                      refine V_condp rfl (fun c63 => ?_) (fun c63 => ?_)
                      · skip
                        exfalso; omega
                      · skip
                        refine V_skipk [0] (by simp only [proj, lk, reduceIte, Nat.reduceEqDiff]; rfl) ?_
                        refine hK18 _ _ ?_; clear hK18
                        refine V_seq (fun K20 hK20 => ?_)
                        refine V_sr T.mix (by kernel_rfl) (fun K21 hK21 => ?_)
                        refine S_mv rfl ?_
                        refine S_nc rfl ?_
                        first | refine S_fa0 T.f50_12 rfl ?_ | refine S_fa T.f50_12 rfl ?_
                        refine S_ldK T.ag3 rfl (fun K' hK' => ?_)
                        simp (disch := omega) only [q0, q1, q2, q3, q4, q5, q6, q7, q8, q9, q10, q11, q12, q13, q14, q15, q16, q17, q18, q19, q20, oP_some, Nat.add_zero]
                        refine hK' _ ?_; clear hK' K'
                        refine S_bin rfl rfl rfl ?_
                        refine S_mv rfl ?_
                        refine S_dec (fun g66 => ?_) (fun g66 => ?_)
                        · skip
                          exfalso; omega
                        · skip
                          refine S_gt rfl ?_
                          refine S_mv rfl ?_
                          refine S_gt rfl ?_
                          refine S_nc rfl ?_
                          refine S_gt rfl ?_
                          first | refine S_fa0 T.f50_12 rfl ?_ | refine S_fa T.f50_12 rfl ?_
                          refine S_gt rfl ?_
                          refine S_ldK T.ag3 rfl (fun K' hK' => ?_)
                          simp (disch := omega) only [q0, q1, q2, q3, q4, q5, q6, q7, q8, q9, q10, q11, q12, q13, q14, q15, q16, q17, q18, q19, q20, oP_some, Nat.add_zero]
                          refine hK' _ ?_; clear hK' K'
                          refine S_gt rfl ?_
                          refine S_mv rfl ?_
                          refine S_gt rfl ?_
                          refine S_nc rfl ?_
                          refine S_gt rfl ?_
                          first | refine S_fa0 T.f50_13 rfl ?_ | refine S_fa T.f50_13 rfl ?_
                          refine S_gt rfl ?_
                          refine S_ldK T.ag3 rfl (fun K' hK' => ?_)
                          simp (disch := omega) only [q0, q1, q2, q3, q4, q5, q6, q7, q8, q9, q10, q11, q12, q13, q14, q15, q16, q17, q18, q19, q20, oP_some, Nat.add_zero]
                          refine hK' _ ?_; clear hK' K'
                          refine S_gt rfl ?_
                          refine S_cvN r.mo T.us3 T.in55 rfl rfl (BitW.top_u64 (by omega)) ?_
                          refine S_gt rfl ?_
                          have hw27 : 2 ^ r.mo ≤ 2 ^ 2 := Nat.pow_le_pow_right (by omega) (by omega)
                          have hw1 : 1 ≤ 2 ^ r.mo := Nat.one_le_two_pow
                          refine S_nshl 1 r.mo (2 ^ r.mo) rfl rfl rfl rfl (by rw [Nat.one_mul]) (by simp only [IntKind.bits]; omega) (BitW.top_i64 (by omega)) ?_
                          refine S_gt rfl ?_
                          refine S_addN (r.ba + 2 ^ r.mo) rfl rfl (by omega) (by omega) ?_
                          refine S_gt rfl ?_
                          refine S_subN (r.ba + 2 ^ r.mo - 1) rfl rfl (by omega) (by omega) ?_
                          refine S_gt rfl ?_
                          refine S_bin rfl rfl rfl ?_
                          refine S_pf rfl rfl ?_
                          refine S_nil (hK21 _ _ (V_keep [0, 120] (by simp only [proj, lk, reduceIte, Nat.reduceEqDiff]; rfl) ?_)); clear hK21
                          refine V_condp rfl (fun c66 => ?_) (fun c66 => ?_)
                          · skip
                            exfalso; omega
                          · skip
                            refine V_skipk [0] (by simp only [proj, lk, reduceIte, Nat.reduceEqDiff]; rfl) ?_
                            refine hK20 _ _ ?_; clear hK20
                            refine V_sr T.mix (by kernel_rfl) (fun K22 hK22 => ?_)
                            refine S_mv rfl ?_
                            refine S_call T.hb47 rfl ?_
                            obtain ⟨hst, sent0, fa, fb, m⟩ := q.live (by omega)
                            obtain ⟨k1, k2, k3, k4, k5⟩ := m.ck (by omega) (by omega)
                            refine FC.mono (checksets_spec h W r s ua ub sw fa k1 k2 k4 k5) ?_
                            rintro v' h' ⟨rfl, rfl⟩
                            refine S_as rfl ?_
                            refine S_nil (hK22 _ _ (V_keep [4] (by simp only [proj, lk, reduceIte, Nat.reduceEqDiff]; rfl) ?_)); clear hK22
                            refine V_ret ?_
                            refine hR _ _ (ret1 rfl rfl ?_)
                            first
                              | (exfalso; omega)
                              | (refine ⟨by rw [decide_eq_true (by omega)], rfl⟩)
                              | (exact ⟨rfl, rfl⟩)
              · skip
                refine V_skipk [] (by simp only [proj, lk, reduceIte, Nat.reduceEqDiff]; rfl) ?_
                refine hK2 _ _ ?_; clear hK2
                refine V_sr T.mix (by kernel_rfl) (fun K23 hK23 => ?_)
                refine S_as rfl ?_
                refine S_nil (hK23 _ _ (V_keep [4] (by simp only [proj, lk, reduceIte, Nat.reduceEqDiff]; rfl) ?_)); clear hK23
                refine V_ret ?_
                refine hR _ _ (ret1 rfl rfl ?_)
                first
                  | (exfalso; omega)
                  | (refine ⟨by rw [decide_eq_true (by omega)], rfl⟩)
                  | (exact ⟨rfl, rfl⟩)
  · skip
    refine V_reg T.mix (by kernel_rfl) ?_
    refine S_bin rfl rfl rfl ?_
    refine S_as rfl ?_
    refine S_nilk [0, 1, 8, 9] (by simp only [proj, lk, reduceIte, Nat.reduceEqDiff]; rfl) ?_
    refine hK4 _ _ ?_; clear hK4
    refine V_condp rfl (fun c49b => ?_) (fun c49b => ?_)
    · skip
      refine V_sr T.mix (by kernel_rfl) (fun K24 hK24 => ?_)
      refine S_mv rfl ?_
      refine S_rem rfl rfl (by omega) (by omega) ?_
      refine S_bin rfl rfl rfl ?_
      refine S_as rfl ?_
      refine S_nil (hK24 _ _ (V_keep [4] (by simp only [proj, lk, reduceIte, Nat.reduceEqDiff]; rfl) ?_)); clear hK24
      refine V_ret ?_
      refine hR _ _ (ret1 rfl rfl ?_)
      first
        | (exfalso; omega)
        | (refine ⟨by rw [decide_eq_true (by omega)], rfl⟩)
        | (exact ⟨rfl, rfl⟩)
    · skip
      refine V_sr T.mix (by kernel_rfl) (fun K25 hK25 => ?_)
      refine S_bin rfl rfl rfl ?_
      refine S_as rfl ?_
      refine S_nil (hK25 _ _ (V_keep [0, 1, 8, 15] (by simp only [proj, lk, reduceIte, Nat.reduceEqDiff]; rfl) ?_)); clear hK25
      refine V_condp rfl (fun c51a => ?_) (fun c51a => ?_)
      · skip
        refine V_sr T.mix (by kernel_rfl) (fun K26 hK26 => ?_)
        refine S_mv rfl ?_
        refine S_rem rfl rfl (by omega) (by omega) ?_
        refine S_bin rfl rfl rfl ?_
        refine S_mv rfl ?_
        refine S_dec (fun g52b => ?_) (fun g52b => ?_)
        · skip
          refine S_gt rfl ?_
          refine S_mv rfl ?_
          refine S_gt rfl ?_
          refine S_nc rfl ?_
          refine S_gt rfl ?_
          first | refine S_fa0 T.f50_8 rfl ?_ | refine S_fa T.f50_8 rfl ?_
          refine S_gt rfl ?_
          refine S_ldK T.ag3 rfl (fun K' hK' => ?_)
          simp (disch := omega) only [q0, q1, q2, q3, q4, q5, q6, q7, q8, q9, q10, q11, q12, q13, q14, q15, q16, q17, q18, q19, q20, oP_some, Nat.add_zero]
          refine hK' _ ?_; clear hK' K'
          refine S_gt rfl ?_
          refine S_bin rfl rfl rfl ?_
          refine S_pt rfl rfl ?_
          refine S_mv rfl ?_
          refine S_dec (fun g52c => ?_) (fun g52c => ?_)
          · skip
            refine S_gt rfl ?_
            refine S_mv rfl ?_
            refine S_gt rfl ?_
            refine S_nc rfl ?_
            refine S_gt rfl ?_
            first | refine S_fa0 T.f50_8 rfl ?_ | refine S_fa T.f50_8 rfl ?_
            refine S_gt rfl ?_
            refine S_ldK T.ag3 rfl (fun K' hK' => ?_)
            simp (disch := omega) only [q0, q1, q2, q3, q4, q5, q6, q7, q8, q9, q10, q11, q12, q13, q14, q15, q16, q17, q18, q19, q20, oP_some, Nat.add_zero]
            refine hK' _ ?_; clear hK' K'
            refine S_gt rfl ?_
            refine S_bin rfl rfl rfl ?_
            refine S_pt rfl rfl ?_
            refine S_as rfl ?_
            refine S_nil (hK26 _ _ (V_keep [4] (by simp only [proj, lk, reduceIte, Nat.reduceEqDiff]; rfl) ?_)); clear hK26
            refine V_ret ?_
            refine hR _ _ (ret1 rfl rfl ?_)
            first
              | (exfalso; omega)
              | (refine ⟨by rw [decide_eq_true (by omega)], rfl⟩)
              | (exact ⟨rfl, rfl⟩)
          · skip
            refine S_gf rfl ?_
            refine S_gf rfl ?_
            refine S_gf rfl ?_
            refine S_gf rfl ?_
            refine S_gf rfl ?_
            refine S_pf rfl rfl ?_
            refine S_as rfl ?_
            refine S_nil (hK26 _ _ (V_keep [4] (by simp only [proj, lk, reduceIte, Nat.reduceEqDiff]; rfl) ?_)); clear hK26
            refine V_ret ?_
            refine hR _ _ (ret1 rfl rfl ?_)
            first
              | (exfalso; omega)
              | (refine ⟨by rw [decide_eq_true (by omega)], rfl⟩)
              | (exact ⟨rfl, rfl⟩)
        · skip
          refine S_gf rfl ?_
          refine S_gf rfl ?_
          refine S_gf rfl ?_
          refine S_gf rfl ?_
          refine S_gf rfl ?_
          refine S_pf rfl rfl ?_
          refine S_mv rfl ?_
          refine S_gf rfl ?_
          refine S_gf rfl ?_
          refine S_gf rfl ?_
          refine S_gf rfl ?_
          refine S_gf rfl ?_
          refine S_pf rfl rfl ?_
          refine S_as rfl ?_
          refine S_nil (hK26 _ _ (V_keep [4] (by simp only [proj, lk, reduceIte, Nat.reduceEqDiff]; rfl) ?_)); clear hK26
          refine V_ret ?_
          refine hR _ _ (ret1 rfl rfl ?_)
          first
            | (exfalso; omega)
            | (refine ⟨by rw [decide_eq_true (by omega)], rfl⟩)
            | (exact ⟨rfl, rfl⟩)
      · skip
        refine V_sr T.mix (by kernel_rfl) (fun K27 hK27 => ?_)
        refine S_bin rfl rfl rfl ?_
        refine S_as rfl ?_
        refine S_nil (hK27 _ _ (V_keep [0, 8, 34] (by simp only [proj, lk, reduceIte, Nat.reduceEqDiff]; rfl) ?_)); clear hK27
        refine V_condp rfl (fun c53a => ?_) (fun c53a => ?_)
        · skip
          refine V_sr T.mix (by kernel_rfl) (fun K28 hK28 => ?_)
          refine S_mv rfl ?_
          refine S_nc rfl ?_
          first | refine S_fa0 T.f50_10 rfl ?_ | refine S_fa T.f50_10 rfl ?_
          refine S_ldK T.ag3 rfl (fun K' hK' => ?_)
          simp (disch := omega) only [q0, q1, q2, q3, q4, q5, q6, q7, q8, q9, q10, q11, q12, q13, q14, q15, q16, q17, q18, q19, q20, oP_some, Nat.add_zero]
          refine hK' _ ?_; clear hK' K'
          refine S_bin rfl rfl rfl ?_
          refine S_mv rfl ?_
          refine S_dec (fun g54a => ?_) (fun g54a => ?_)
          · skip
            refine S_gt rfl ?_
            refine S_mv rfl ?_
            refine S_gt rfl ?_
            refine S_nc rfl ?_
            refine S_gt rfl ?_
            first | refine S_fa0 T.f50_10 rfl ?_ | refine S_fa T.f50_10 rfl ?_
            refine S_gt rfl ?_
            refine S_ldK T.ag3 rfl (fun K' hK' => ?_)
            simp (disch := omega) only [q0, q1, q2, q3, q4, q5, q6, q7, q8, q9, q10, q11, q12, q13, q14, q15, q16, q17, q18, q19, q20, oP_some, Nat.add_zero]
            refine hK' _ ?_; clear hK' K'
            refine S_gt rfl ?_
            refine S_mv rfl ?_
            refine S_gt rfl ?_
            refine S_nc rfl ?_
            refine S_gt rfl ?_
            first | refine S_fa0 T.f50_9 rfl ?_ | refine S_fa T.f50_9 rfl ?_
            refine S_gt rfl ?_
            refine S_ldK T.ag47 rfl (fun K' hK' => ?_)
            simp (disch := omega) only [q0, q1, q2, q3, q4, q5, q6, q7, q8, q9, q10, q11, q12, q13, q14, q15, q16, q17, q18, q19, q20, oP_some, Nat.add_zero]
            refine hK' _ ?_; clear hK' K'
            refine S_gt rfl ?_
            refine S_lenl T.el47 rfl ?_
            refine S_gt rfl ?_
            refine S_bin rfl rfl rfl ?_
            refine S_pt rfl rfl ?_
            refine S_as rfl ?_
            refine S_nil (hK28 _ _ (V_keep [4] (by simp only [proj, lk, reduceIte, Nat.reduceEqDiff]; rfl) ?_)); clear hK28
            refine V_ret ?_
            refine hR _ _ (ret1 rfl rfl ?_)
            first
              | (exfalso; omega)
              | (refine ⟨by rw [decide_eq_true (by omega)], rfl⟩)
              | (exact ⟨rfl, rfl⟩)
          · skip
            refine S_gf rfl ?_
            refine S_gf rfl ?_
            refine S_gf rfl ?_
            refine S_gf rfl ?_
            refine S_gf rfl ?_
            refine S_gf rfl ?_
            refine S_gf rfl ?_
            refine S_gf rfl ?_
            refine S_gf rfl ?_
            refine S_gf rfl ?_
            refine S_pf rfl rfl ?_
            refine S_as rfl ?_
            refine S_nil (hK28 _ _ (V_keep [4] (by simp only [proj, lk, reduceIte, Nat.reduceEqDiff]; rfl) ?_)); clear hK28
            refine V_ret ?_
            refine hR _ _ (ret1 rfl rfl ?_)
            first
              | (exfalso; omega)
              | (refine ⟨by rw [decide_eq_true (by omega)], rfl⟩)
              | (exact ⟨rfl, rfl⟩)
        · skip
          refine V_sr T.mix (by kernel_rfl) (fun K29 hK29 => ?_)
          refine S_bin rfl rfl rfl ?_
          refine S_as rfl ?_
          refine S_nil (hK29 _ _ (V_keep [0, 8, 53] (by simp only [proj, lk, reduceIte, Nat.reduceEqDiff]; rfl) ?_)); clear hK29
          refine V_condp rfl (fun c55a => ?_) (fun c55a => ?_)
          · skip
            refine V_sr T.mix (by kernel_rfl) (fun K30 hK30 => ?_)
            refine S_mv rfl ?_
            refine S_call T.hb47 rfl ?_
            obtain ⟨hst, sent0, fa, fb, m⟩ := q.live (by omega)
            obtain ⟨k1, k2, k3, k4, k5⟩ := m.ck (by omega) (by omega)
            refine FC.mono (checksets_spec h W r s ua ub sw fa k1 k2 k4 k5) ?_
            rintro v' h' ⟨rfl, rfl⟩
            refine S_as rfl ?_
            refine S_nil (hK30 _ _ (V_keep [4] (by simp only [proj, lk, reduceIte, Nat.reduceEqDiff]; rfl) ?_)); clear hK30
            refine V_ret ?_
            refine hR _ _ (ret1 rfl rfl ?_)
            first
              | (exfalso; omega)
              | (refine ⟨by rw [decide_eq_true (by omega)], rfl⟩)
              | (exact ⟨rfl, rfl⟩)
          · skip
            refine V_sr T.mix (by kernel_rfl) (fun K31 hK31 => ?_)
            refine S_bin rfl rfl rfl ?_
            refine S_as rfl ?_
            refine S_nil (hK31 _ _ (V_keep [0, 8, 57] (by simp only [proj, lk, reduceIte, Nat.reduceEqDiff]; rfl) ?_)); clear hK31
            refine V_condp rfl (fun c57a => ?_) (fun c57a => ?_)
            · skip
              refine V_seq (fun K32 hK32 => ?_)
              refine V_sr T.mix (by kernel_rfl) (fun K33 hK33 => ?_)
              refine S_mv rfl ?_
              refine S_nc rfl ?_
              first | refine S_fa0 T.f50_11 rfl ?_ | refine S_fa T.f50_11 rfl ?_
              refine S_ldK T.ag3 rfl (fun K' hK' => ?_)
              simp (disch := omega) only [q0, q1, q2, q3, q4, q5, q6, q7, q8, q9, q10, q11, q12, q13, q14, q15, q16, q17, q18, q19, q20, oP_some, Nat.add_zero]
              refine hK' _ ?_; clear hK' K'
              refine S_bin rfl rfl rfl ?_
              refine S_mv rfl ?_
              refine S_dec (fun g58a => ?_) (fun g58a => ?_)
              · skip
                refine S_gf rfl ?_
                refine S_gf rfl ?_
                refine S_gf rfl ?_
                refine S_gf rfl ?_
                refine S_gf rfl ?_
                refine S_pt rfl rfl ?_
                refine S_nil (hK33 _ _ (V_keep [0, 70] (by simp only [proj, lk, reduceIte, Nat.reduceEqDiff]; rfl) ?_)); clear hK33
                refine V_condt rfl ?_
                refine V_sr T.mix (by kernel_rfl) (fun K34 hK34 => ?_)
                refine S_as rfl ?_
                refine S_nil (hK34 _ _ (V_keep [4] (by simp only [proj, lk, reduceIte, Nat.reduceEqDiff]; rfl) ?_)); clear hK34
                refine V_ret ?_
                refine hR _ _ (ret1 rfl rfl ?_)
                first
                  | (exfalso; omega)
                  | (refine ⟨by rw [decide_eq_true (by omega)], rfl⟩)
                  | (exact ⟨rfl, rfl⟩)
              · skip
                refine S_gt rfl ?_
                refine S_mv rfl ?_
                refine S_gt rfl ?_
                refine S_nc rfl ?_
                refine S_gt rfl ?_
                first | refine S_fa0 T.f50_11 rfl ?_ | refine S_fa T.f50_11 rfl ?_
                refine S_gt rfl ?_
                refine S_ldK T.ag3 rfl (fun K' hK' => ?_)
                simp (disch := omega) only [q0, q1, q2, q3, q4, q5, q6, q7, q8, q9, q10, q11, q12, q13, q14, q15, q16, q17, q18, q19, q20, oP_some, Nat.add_zero]
                refine hK' _ ?_; clear hK' K'
                refine S_gt rfl ?_
                refine S_bin rfl rfl rfl ?_
                refine S_pf rfl rfl ?_
                refine S_nil (hK33 _ _ (V_keep [0, 70] (by simp only [proj, lk, reduceIte, Nat.reduceEqDiff]; rfl) ?_)); clear hK33
                refine V_condp rfl (fun c58a => ?_) (fun c58a => ?_)
                · skip
                  refine V_sr T.mix (by kernel_rfl) (fun K35 hK35 => ?_)
                  refine S_as rfl ?_
                  refine S_nil (hK35 _ _ (V_keep [4] (by simp only [proj, lk, reduceIte, Nat.reduceEqDiff]; rfl) ?_)); clear hK35
                  refine V_ret ?_
                  refine hR _ _ (ret1 rfl rfl ?_)
                  first
                    | (exfalso; omega)
                    | (refine ⟨by rw [decide_eq_true (by omega)], rfl⟩)
                    | (exact ⟨rfl, rfl⟩)
                · skip
                  refine V_skipk [0] (by simp only [proj, lk, reduceIte, Nat.reduceEqDiff]; rfl) ?_
                  refine hK32 _ _ ?_; clear hK32
                  refine V_sr T.mix (by kernel_rfl) (fun K36 hK36 => ?_)
                  refine S_mv rfl ?_
                  refine S_call T.hb47 rfl ?_
                  obtain ⟨hst, sent0, fa, fb, m⟩ := q.live (by omega)
                  obtain ⟨k1, k2, k3, k4, k5⟩ := m.ck (by omega) (by omega)
                  refine FC.mono (checksets_spec h W r s ua ub sw fa k1 k2 k4 k5) ?_
                  rintro v' h' ⟨rfl, rfl⟩
                  refine S_as rfl ?_
                  refine S_nil (hK36 _ _ (V_keep [4] (by simp only [proj, lk, reduceIte, Nat.reduceEqDiff]; rfl) ?_)); clear hK36
                  refine V_ret ?_
                  refine hR _ _ (ret1 rfl rfl ?_)
                  first
                    | (exfalso; omega)
                    | (refine ⟨by rw [decide_eq_true (by omega)], rfl⟩)
                    | (exact ⟨rfl, rfl⟩)
            · skip
              refine V_sr T.mix (by kernel_rfl) (fun K37 hK37 => ?_)
              refine S_bin rfl rfl rfl ?_
              refine S_as rfl ?_
              refine S_nil (hK37 _ _ (V_keep [0, 73] (by simp only [proj, lk, reduceIte, Nat.reduceEqDiff]; rfl) ?_)); clear hK37
              refine V_condp rfl (fun c62a => ?_) (fun c62a => ?_)
              · skip
                refine V_seq (fun K38 hK38 => ?_)
                refine V_sr T.mix (by kernel_rfl) (fun K39 hK39 => ?_)
                refine S_mv rfl ?_
                refine S_nc rfl ?_
                first | refine S_fa0 T.f50_11 rfl ?_ | refine S_fa T.f50_11 rfl ?_
                refine S_ldK T.ag3 rfl (fun K' hK' => ?_)
                simp (disch := omega) only [q0, q1, q2, q3, q4, q5, q6, q7, q8, q9, q10, q11, q12, q13, q14, q15, q16, q17, q18, q19, q20, oP_some, Nat.add_zero]
                refine hK' _ ?_; clear hK' K'
                refine S_bin rfl rfl rfl ?_
                refine S_mv rfl ?_
                refine S_dec (fun g63c => ?_) (fun g63c => ?_)
                · skip
                  refine S_gf rfl ?_
                  refine S_gf rfl ?_
                  refine S_gf rfl ?_
                  refine S_gf rfl ?_
                  refine S_gf rfl ?_
                  refine S_pt rfl rfl ?_
                  refine S_mv rfl ?_
                  refine S_gf rfl ?_
                  refine S_gf rfl ?_
                  refine S_gf rfl ?_
                  refine S_gf rfl ?_
                  refine S_gf rfl ?_
                  refine S_pt rfl rfl ?_
                  refine S_mv rfl ?_
                  refine S_gf rfl ?_
                  refine S_gf rfl ?_
                  refine S_gf rfl ?_
                  refine S_gf rfl ?_
                  refine S_gf rfl ?_
                  refine S_pt rfl rfl ?_
                  refine S_nil (hK39 _ _ (V_keep [0, 100] (by simp only [proj, lk, reduceIte, Nat.reduceEqDiff]; rfl) ?_)); clear hK39
                  refine V_condt rfl ?_
                  refine V_sr T.mix (by kernel_rfl) (fun K40 hK40 => ?_)
                  refine S_as rfl ?_
                  refine S_nil (hK40 _ _ (V_keep [4] (by simp only [proj, lk, reduceIte, Nat.reduceEqDiff]; rfl) ?_)); clear hK40
                  refine V_ret ?_
                  refine hR _ _ (ret1 rfl rfl ?_)
                  first
                    | (exfalso; omega)
                    | (refine ⟨by rw [decide_eq_true (by omega)], rfl⟩)
                    | (exact ⟨rfl, rfl⟩)
                · skip
                  refine S_gt rfl ?_
                  refine S_mv rfl ?_
                  refine S_gt rfl ?_
                  refine S_nc rfl ?_
                  refine S_gt rfl ?_
                  first | refine S_fa0 T.f50_11 rfl ?_ | refine S_fa T.f50_11 rfl ?_
                  refine S_gt rfl ?_
                  refine S_ldK T.ag3 rfl (fun K' hK' => ?_)
                  simp (disch := omega) only [q0, q1, q2, q3, q4, q5, q6, q7, q8, q9, q10, q11, q12, q13, q14, q15, q16, q17, q18, q19, q20, oP_some, Nat.add_zero]
                  refine hK' _ ?_; clear hK' K'
                  refine S_gt rfl ?_
                  refine S_bin rfl rfl rfl ?_
                  refine S_pf rfl rfl ?_
                  refine S_mv rfl ?_
                  refine S_dec (fun g63d => ?_) (fun g63d => ?_)
                  · skip
                    refine S_gf rfl ?_
                    refine S_gf rfl ?_
                    refine S_gf rfl ?_
                    refine S_gf rfl ?_
                    refine S_gf rfl ?_
                    refine S_pt rfl rfl ?_
                    refine S_mv rfl ?_
                    refine S_gf rfl ?_
                    refine S_gf rfl ?_
                    refine S_gf rfl ?_
                    refine S_gf rfl ?_
                    refine S_gf rfl ?_
                    refine S_pt rfl rfl ?_
                    refine S_nil (hK39 _ _ (V_keep [0, 100] (by simp only [proj, lk, reduceIte, Nat.reduceEqDiff]; rfl) ?_)); clear hK39
                    refine V_condt rfl ?_
                    refine V_sr T.mix (by kernel_rfl) (fun K41 hK41 => ?_)
                    refine S_as rfl ?_
                    refine S_nil (hK41 _ _ (V_keep [4] (by simp only [proj, lk, reduceIte, Nat.reduceEqDiff]; rfl) ?_)); clear hK41
                    refine V_ret ?_
                    refine hR _ _ (ret1 rfl rfl ?_)
                    first
                      | (exfalso; omega)
                      | (refine ⟨by rw [decide_eq_true (by omega)], rfl⟩)
                      | (exact ⟨rfl, rfl⟩)
                  · skip
                    refine S_gt rfl ?_
                    refine S_mv rfl ?_
                    refine S_gt rfl ?_
                    refine S_nc rfl ?_
                    refine S_gt rfl ?_
                    first | refine S_fa0 T.f50_13 rfl ?_ | refine S_fa T.f50_13 rfl ?_
                    refine S_gt rfl ?_
                    refine S_ldK T.ag3 rfl (fun K' hK' => ?_)
                    simp (disch := omega) only [q0, q1, q2, q3, q4, q5, q6, q7, q8, q9, q10, q11, q12, q13, q14, q15, q16, q17, q18, q19, q20, oP_some, Nat.add_zero]
                    refine hK' _ ?_; clear hK' K'
                    refine S_gt rfl ?_
                    refine S_bin rfl rfl rfl ?_
                    refine S_pf rfl rfl ?_
                    refine S_mv rfl ?_
                    refine S_dec (fun g63e => ?_) (fun g63e => ?_)
                    · skip
                      refine S_gf rfl ?_
                      refine S_gf rfl ?_
                      refine S_gf rfl ?_
                      refine S_gf rfl ?_
                      refine S_gf rfl ?_
                      refine S_pt rfl rfl ?_
                      refine S_nil (hK39 _ _ (V_keep [0, 100] (by simp only [proj, lk, reduceIte, Nat.reduceEqDiff]; rfl) ?_)); clear hK39
                      refine V_condt rfl ?_
                      refine V_sr T.mix (by kernel_rfl) (fun K42 hK42 => ?_)
                      refine S_as rfl ?_
                      refine S_nil (hK42 _ _ (V_keep [4] (by simp only [proj, lk, reduceIte, Nat.reduceEqDiff]; rfl) ?_)); clear hK42
                      refine V_ret ?_
                      refine hR _ _ (ret1 rfl rfl ?_)
                      first
                        | (exfalso; omega)
                        | (refine ⟨by rw [decide_eq_true (by omega)], rfl⟩)
                        | (exact ⟨rfl, rfl⟩)
                    · skip
                      refine S_gt rfl ?_
                      refine S_mv rfl ?_
                      refine S_gt rfl ?_
                      refine S_nc rfl ?_
                      refine S_gt rfl ?_
                      first | refine S_fa0 T.f50_13 rfl ?_ | refine S_fa T.f50_13 rfl ?_
                      refine S_gt rfl ?_
                      refine S_ldK T.ag3 rfl (fun K' hK' => ?_)
                      simp (disch := omega) only [q0, q1, q2, q3, q4, q5, q6, q7, q8, q9, q10, q11, q12, q13, q14, q15, q16, q17, q18, q19, q20, oP_some, Nat.add_zero]
                      refine hK' _ ?_; clear hK' K'
                      refine S_gt rfl ?_
                      refine S_bin rfl rfl rfl ?_
                      refine S_pf rfl rfl ?_
                      refine S_nil (hK39 _ _ (V_keep [0, 100] (by simp only [proj, lk, reduceIte, Nat.reduceEqDiff]; rfl) ?_)); clear hK39
                      refine V_condp rfl (fun c63a => ?_) (fun c63a => ?_)
                      · skip
                        refine V_sr T.mix (by kernel_rfl) (fun K43 hK43 => ?_)
                        refine S_as rfl ?_
                        refine S_nil (hK43 _ _ (V_keep [4] (by simp only [proj, lk, reduceIte, Nat.reduceEqDiff]; rfl) ?_)); clear hK43
                        refine V_ret ?_
                        refine hR _ _ (ret1 rfl rfl ?_)
                        first
                          | (exfalso; omega)
                          | (refine ⟨by rw [decide_eq_true (by omega)], rfl⟩)
                          | (exact ⟨rfl, rfl⟩)
                      · skip
                        refine V_skipk [0] (by simp only [proj, lk, reduceIte, Nat.reduceEqDiff]; rfl) ?_
                        refine hK38 _ _ ?_; clear hK38
                        refine V_seq (fun K44 hK44 => ?_)
                        refine V_sr T.mix (by kernel_rfl) (fun K45 hK45 => ?_)
                        refine S_mv rfl ?_
                        refine S_nc rfl ?_
                        first | refine S_fa0 T.f50_12 rfl ?_ | refine S_fa T.f50_12 rfl ?_
                        refine S_ldK T.ag3 rfl (fun K' hK' => ?_)
                        simp (disch := omega) only [q0, q1, q2, q3, q4, q5, q6, q7, q8, q9, q10, q11, q12, q13, q14, q15, q16, q17, q18, q19, q20, oP_some, Nat.add_zero]
                        refine hK' _ ?_; clear hK' K'
                        refine S_bin rfl rfl rfl ?_
                        refine S_mv rfl ?_
                        refine S_dec (fun g66a => ?_) (fun g66a => ?_)
                        · skip
                          refine S_gf rfl ?_
                          refine S_gf rfl ?_
                          refine S_gf rfl ?_
                          refine S_gf rfl ?_
                          refine S_gf rfl ?_
                          refine S_gf rfl ?_
                          refine S_gf rfl ?_
                          refine S_gf rfl ?_
                          refine S_gf rfl ?_
                          refine S_gf rfl ?_
                          refine S_gf rfl ?_
                          refine S_gf rfl ?_
                          refine S_gf rfl ?_
                          refine S_pt rfl rfl ?_
                          refine S_nil (hK45 _ _ (V_keep [0, 120] (by simp only [proj, lk, reduceIte, Nat.reduceEqDiff]; rfl) ?_)); clear hK45
                          refine V_condt rfl ?_
                          refine V_sr T.mix (by kernel_rfl) (fun K46 hK46 => ?_)
                          refine S_as rfl ?_
                          refine S_nil (hK46 _ _ (V_keep [4] (by simp only [proj, lk, reduceIte, Nat.reduceEqDiff]; rfl) ?_)); clear hK46
                          refine V_ret ?_
                          refine hR _ _ (ret1 rfl rfl ?_)
                          first
                            | (exfalso; omega)
                            | (refine ⟨by rw [decide_eq_true (by omega)], rfl⟩)
                            | (exact ⟨rfl, rfl⟩)
                        · skip
                          refine S_gt rfl ?_
                          refine S_mv rfl ?_
                          refine S_gt rfl ?_
                          refine S_nc rfl ?_
                          refine S_gt rfl ?_
                          first | refine S_fa0 T.f50_12 rfl ?_ | refine S_fa T.f50_12 rfl ?_
                          refine S_gt rfl ?_
                          refine S_ldK T.ag3 rfl (fun K' hK' => ?_)
                          simp (disch := omega) only [q0, q1, q2, q3, q4, q5, q6, q7, q8, q9, q10, q11, q12, q13, q14, q15, q16, q17, q18, q19, q20, oP_some, Nat.add_zero]
                          refine hK' _ ?_; clear hK' K'
                          refine S_gt rfl ?_
                          refine S_mv rfl ?_
                          refine S_gt rfl ?_
                          refine S_nc rfl ?_
                          refine S_gt rfl ?_
                          first | refine S_fa0 T.f50_13 rfl ?_ | refine S_fa T.f50_13 rfl ?_
                          refine S_gt rfl ?_
                          refine S_ldK T.ag3 rfl (fun K' hK' => ?_)
                          simp (disch := omega) only [q0, q1, q2, q3, q4, q5, q6, q7, q8, q9, q10, q11, q12, q13, q14, q15, q16, q17, q18, q19, q20, oP_some, Nat.add_zero]
                          refine hK' _ ?_; clear hK' K'
                          refine S_gt rfl ?_
                          refine S_cvN r.mo T.us3 T.in55 rfl rfl (BitW.top_u64 (by omega)) ?_
                          refine S_gt rfl ?_
                          have hw27 : 2 ^ r.mo ≤ 2 ^ 2 := Nat.pow_le_pow_right (by omega) (by omega)
                          have hw1 : 1 ≤ 2 ^ r.mo := Nat.one_le_two_pow
                          refine S_nshl 1 r.mo (2 ^ r.mo) rfl rfl rfl rfl (by rw [Nat.one_mul]) (by simp only [IntKind.bits]; omega) (BitW.top_i64 (by omega)) ?_
                          refine S_gt rfl ?_
                          refine S_addN (r.ba + 2 ^ r.mo) rfl rfl (by omega) (by omega) ?_
                          refine S_gt rfl ?_
                          refine S_subN (r.ba + 2 ^ r.mo - 1) rfl rfl (by omega) (by omega) ?_
                          refine S_gt rfl ?_
                          refine S_bin rfl rfl rfl ?_
                          refine S_pf rfl rfl ?_
                          refine S_nil (hK45 _ _ (V_keep [0, 120] (by simp only [proj, lk, reduceIte, Nat.reduceEqDiff]; rfl) ?_)); clear hK45
                          refine V_condp rfl (fun c66a => ?_) (fun c66a => ?_)
                          · skip
                            refine V_sr T.mix (by kernel_rfl) (fun K47 hK47 => ?_)
                            refine S_as rfl ?_
                            refine S_nil (hK47 _ _ (V_keep [4] (by simp only [proj, lk, reduceIte, Nat.reduceEqDiff]; rfl) ?_)); clear hK47
                            refine V_ret ?_
                            refine hR _ _ (ret1 rfl rfl ?_)
                            first
                              | (exfalso; omega)
                              | (refine ⟨by rw [decide_eq_true (by omega)], rfl⟩)
                              | (exact ⟨rfl, rfl⟩)
                          · skip
                            refine V_skipk [0] (by simp only [proj, lk, reduceIte, Nat.reduceEqDiff]; rfl) ?_
                            refine hK44 _ _ ?_; clear hK44
                            refine V_sr T.mix (by kernel_rfl) (fun K48 hK48 => ?_)
                            refine S_mv rfl ?_
                            refine S_call T.hb47 rfl ?_
                            obtain ⟨hst, sent0, fa, fb, m⟩ := q.live (by omega)
                            obtain ⟨k1, k2, k3, k4, k5⟩ := m.ck (by omega) (by omega)
                            refine FC.mono (checksets_spec h W r s ua ub sw fa k1 k2 k4 k5) ?_
                            rintro v' h' ⟨rfl, rfl⟩
                            refine S_as rfl ?_
                            refine S_nil (hK48 _ _ (V_keep [4] (by simp only [proj, lk, reduceIte, Nat.reduceEqDiff]; rfl) ?_)); clear hK48
                            refine V_ret ?_
                            refine hR _ _ (ret1 rfl rfl ?_)
                            first
                              | (exfalso; omega)
                              | (refine ⟨by rw [decide_eq_true (by omega)], rfl⟩)
                              | (exact ⟨rfl, rfl⟩)
              · skip
                refine V_skipk [] (by simp only [proj, lk, reduceIte, Nat.reduceEqDiff]; rfl) ?_
                refine hK2 _ _ ?_; clear hK2
                refine V_sr T.mix (by kernel_rfl) (fun K49 hK49 => ?_)
                refine S_as rfl ?_
                refine S_nil (hK49 _ _ (V_keep [4] (by simp only [proj, lk, reduceIte, Nat.reduceEqDiff]; rfl) ?_)); clear hK49
                refine V_ret ?_
                refine hR _ _ (ret1 rfl rfl ?_)
                first
                  | (exfalso; omega)
                  | (refine ⟨by rw [decide_eq_true (by omega)], rfl⟩)
                  | (exact ⟨rfl, rfl⟩)
set_option maxHeartbeats 3200000 in
theorem snew_spec (h : Heap) (W : SA) (hD : W.D = h.size) (hs : Ss W) (s : TS) (rt : BitW.RT h W.T W.tb s) (ua ub : HC) (ca : CB h W.XA ua) (cb : CB h W.XB ub) :
    FC Tryz.prog 8 (#[.pointer (some ⟨W.T, 0, none⟩), .pointer (some ⟨W.XA, 0, none⟩), .pointer (some ⟨W.XB, 0, none⟩)] : Array Value) h fun rv h' => rv = .pointer (some ⟨W.D, 0, none⟩) ∧ SW h' W r00 ⟨0, 0, 0⟩ ua ub ∧ Ext (fun z => z = W.T ∨ z = W.tb) h h' := by
  refine FC_of [(0, .pointer (some ⟨W.T, 0, none⟩)), (1, .pointer (some ⟨W.XA, 0, none⟩)), (2, .pointer (some ⟨W.XB, 0, none⟩))] Tryz.func8 rfl Tryz.ntmps8 (by simp) rfl (fun R hR => ?_)
  refine V_sr T.mix (by kernel_rfl) (fun K1 hK1 => ?_)
  refine S_as rfl ?_
  refine S_nil (hK1 _ _ (V_keep [0, 1, 2] (by simp only [proj, lk, reduceIte, Nat.reduceEqDiff]; rfl) ?_)); clear hK1
  refine V_sr T.mix (by kernel_rfl) (fun K2 hK2 => ?_)
  refine S_mv rfl ?_
  refine S_mv rfl ?_
  refine S_mv rfl ?_
  refine S_bld rfl (T.bld50_0_1_2 _ _ _) ?_
  refine S_boxA rfl ?_
  generalize hh : Array.push h _ = g0
  have bt0 : B g0 h.size #[.pointer (some ⟨W.T, 0, none⟩), .pointer (some ⟨W.XA, 0, none⟩), .pointer (some ⟨W.XB, 0, none⟩), .bool false, .int .i64 0, .int .i64 0, .int .i64 0, .int .i64 0, .int .i64 0, .slice none 0 0, .int .i64 0, .int .i64 0, .int .i64 0, .int .i64 0, .slice none 0 0, .int .i64 0, .int .i64 0, .slice none 0 0, .int .i64 0, .int .i64 0, .int .i64 0] 50 := by rw [← hh]; exact B.new _ _ _
  have hEg0 : Ext (fun _ => False) h g0 := by rw [← hh]; exact Ext.push _ _ _
  have hsg0 : g0.size = h.size + 1 := by rw [← hh]; simp
  clear hh
  refine S_as rfl ?_
  refine S_nil (hK2 _ _ (V_keep [0, 7] (by simp only [proj, lk, reduceIte, Nat.reduceEqDiff]; rfl) ?_)); clear hK2
  refine V_sr T.mix (by kernel_rfl) (fun K3 hK3 => ?_)
  refine S_mv rfl ?_
  refine S_mk T.ei47 rfl rfl (by omega) (by omega) (by omega) (by omega) ?_
  rw [show ((273 : Int)).toNat = 273 from rfl, Nat.mul_one, mkZ_one]
  generalize hh : Array.push g0 _ = m1
  have ba1 : B m1 g0.size (ia 273 (fun _ => 0)) 3 := by rw [← hh]; exact B.new _ _ _
  have hEm1 : Ext (fun _ => False) g0 m1 := by rw [← hh]; exact Ext.push _ _ _
  have hsm1 : m1.size = g0.size + 1 := by rw [← hh]; simp
  clear hh
  have bs1 := bt0.ext hEm1 (fun f => f)
  try clear hokN
  have hokN : ∀ j, j < 21 → okPut m1 ⟨h.size, j, none⟩ = true := fun j hj => bs1.ok (by simpa using hj)
  rw [show g0.size = h.size + 1 by omega] at ba1
  rw [show g0.size = h.size + 1 by omega]
  refine S_nc rfl ?_
  first | refine S_fa0 T.f50_9 rfl ?_ | refine S_fa T.f50_9 rfl ?_
  refine S_st T.sz47 rfl rfl rfl rfl (by simp (disch := omega) only [hokN]) ?_
  generalize hh : putH _ _ _ = g1
  have bt1 : B g1 h.size #[.pointer (some ⟨W.T, 0, none⟩), .pointer (some ⟨W.XA, 0, none⟩), .pointer (some ⟨W.XB, 0, none⟩), .bool false, .int .i64 0, .int .i64 0, .int .i64 0, .int .i64 0, .int .i64 0, .slice (some ⟨h.size + 1, 0, none⟩) 273 273, .int .i64 0, .int .i64 0, .int .i64 0, .int .i64 0, .slice none 0 0, .int .i64 0, .int .i64 0, .slice none 0 0, .int .i64 0, .int .i64 0, .int .i64 0] 50 := by rw [← hh]; exact (bs1.put 9 _).cong (by simp)
  have hEg1 : Ext (fun b => b = h.size) m1 g1 := by rw [← hh]; exact Ext.put _ _ rfl
  have hsg1 : g1.size = m1.size := by rw [← hh]; exact size_put _ _
  clear hh
  refine S_nil (hK3 _ _ (V_keep [0, 7] (by simp only [proj, lk, reduceIte, Nat.reduceEqDiff]; rfl) ?_)); clear hK3
  refine V_sr T.mix (by kernel_rfl) (fun K4 hK4 => ?_)
  refine S_mv rfl ?_
  refine S_mk T.ei48 rfl rfl (by omega) (by omega) (by omega) (by omega) ?_
  rw [show ((16 : Int)).toNat = 16 from rfl, Nat.mul_one, mkZ_one]
  generalize hh : Array.push g1 _ = m2
  have ba2 : B m2 g1.size (arr 16 fun j => .int .u8 ((fun _ => 0 : Nat → Int) j)) 5 := by rw [← hh]; exact B.new _ _ _
  have hEm2 : Ext (fun _ => False) g1 m2 := by rw [← hh]; exact Ext.push _ _ _
  have hsm2 : m2.size = g1.size + 1 := by rw [← hh]; simp
  clear hh
  have bs2 := bt1.ext hEm2 (fun f => f)
  try clear hokN
  have hokN : ∀ j, j < 21 → okPut m2 ⟨h.size, j, none⟩ = true := fun j hj => bs2.ok (by simpa using hj)
  rw [show g1.size = h.size + 2 by omega] at ba2
  rw [show g1.size = h.size + 2 by omega]
  refine S_nc rfl ?_
  first | refine S_fa0 T.f50_14 rfl ?_ | refine S_fa T.f50_14 rfl ?_
  refine S_st T.sz48 rfl rfl rfl rfl (by simp (disch := omega) only [hokN]) ?_
  generalize hh : putH _ _ _ = g2
  have bt2 : B g2 h.size #[.pointer (some ⟨W.T, 0, none⟩), .pointer (some ⟨W.XA, 0, none⟩), .pointer (some ⟨W.XB, 0, none⟩), .bool false, .int .i64 0, .int .i64 0, .int .i64 0, .int .i64 0, .int .i64 0, .slice (some ⟨h.size + 1, 0, none⟩) 273 273, .int .i64 0, .int .i64 0, .int .i64 0, .int .i64 0, .slice (some ⟨h.size + 2, 0, none⟩) 16 16, .int .i64 0, .int .i64 0, .slice none 0 0, .int .i64 0, .int .i64 0, .int .i64 0] 50 := by rw [← hh]; exact (bs2.put 14 _).cong (by simp)
  have hEg2 : Ext (fun b => b = h.size) m2 g2 := by rw [← hh]; exact Ext.put _ _ rfl
  have hsg2 : g2.size = m2.size := by rw [← hh]; exact size_put _ _
  clear hh
  refine S_nil (hK4 _ _ (V_keep [0, 7] (by simp only [proj, lk, reduceIte, Nat.reduceEqDiff]; rfl) ?_)); clear hK4
  refine V_sr T.mix (by kernel_rfl) (fun K5 hK5 => ?_)
  refine S_mv rfl ?_
  refine S_mk T.ei48 rfl rfl (by omega) (by omega) (by omega) (by omega) ?_
  rw [show ((256 : Int)).toNat = 256 from rfl, Nat.mul_one, mkZ_one]
  generalize hh : Array.push g2 _ = m3
  have ba3 : B m3 g2.size (arr 256 fun j => .int .u8 ((fun _ => 0 : Nat → Int) j)) 5 := by rw [← hh]; exact B.new _ _ _
  have hEm3 : Ext (fun _ => False) g2 m3 := by rw [← hh]; exact Ext.push _ _ _
  have hsm3 : m3.size = g2.size + 1 := by rw [← hh]; simp
  clear hh
  have bs3 := bt2.ext hEm3 (fun f => f)
  try clear hokN
  have hokN : ∀ j, j < 21 → okPut m3 ⟨h.size, j, none⟩ = true := fun j hj => bs3.ok (by simpa using hj)
  rw [show g2.size = h.size + 3 by omega] at ba3
  rw [show g2.size = h.size + 3 by omega]
  refine S_nc rfl ?_
  first | refine S_fa0 T.f50_17 rfl ?_ | refine S_fa T.f50_17 rfl ?_
  refine S_st T.sz48 rfl rfl rfl rfl (by simp (disch := omega) only [hokN]) ?_
  generalize hh : putH _ _ _ = g3
  have bt3 : B g3 h.size #[.pointer (some ⟨W.T, 0, none⟩), .pointer (some ⟨W.XA, 0, none⟩), .pointer (some ⟨W.XB, 0, none⟩), .bool false, .int .i64 0, .int .i64 0, .int .i64 0, .int .i64 0, .int .i64 0, .slice (some ⟨h.size + 1, 0, none⟩) 273 273, .int .i64 0, .int .i64 0, .int .i64 0, .int .i64 0, .slice (some ⟨h.size + 2, 0, none⟩) 16 16, .int .i64 0, .int .i64 0, .slice (some ⟨h.size + 3, 0, none⟩) 256 256, .int .i64 0, .int .i64 0, .int .i64 0] 50 := by rw [← hh]; exact (bs3.put 17 _).cong (by simp)
  have hEg3 : Ext (fun b => b = h.size) m3 g3 := by rw [← hh]; exact Ext.put _ _ rfl
  have hsg3 : g3.size = m3.size := by rw [← hh]; exact size_put _ _
  clear hh
  refine S_nil (hK5 _ _ (V_keep [0, 7] (by simp only [proj, lk, reduceIte, Nat.reduceEqDiff]; rfl) ?_)); clear hK5
  refine V_sr T.mix (by kernel_rfl) (fun K6 hK6 => ?_)
  refine S_mv rfl ?_
  refine S_call T.hb16 rfl ?_
  have hEx : Ext (fun _ => False) h g3 := ((((((hEg0).trans hEm1).step hEg1 (fun b hb e => by omega)).trans hEm2).step hEg2 (fun b hb e => by omega)).trans hEm3).step hEg3 (fun b hb e => by omega)
  refine FC.mono (BitW.reset_spec g3 W.T W.tb s (rt.ext hEx (fun f => f) (fun f => f))) ?_
  rintro v' g4 ⟨rfl, rt4, hX4⟩
  have q1 := hs.l1
  have q2 := hs.l2
  have q3 := hs.l3
  refine S_nil (hK6 _ _ (V_keep [7] (by simp only [proj, lk, reduceIte, Nat.reduceEqDiff]; rfl) ?_)); clear hK6
  refine V_sr T.mix (by kernel_rfl) (fun K7 hK7 => ?_)
  refine S_mv rfl ?_
  refine S_as rfl ?_
  refine S_nil (hK7 _ _ (V_keep [6] (by simp only [proj, lk, reduceIte, Nat.reduceEqDiff]; rfl) ?_)); clear hK7
  refine V_ret ?_
  refine hR _ _ (ret1 rfl rfl ?_)
  have hpc : dcs W r00 = #[.pointer (some ⟨W.T, 0, none⟩), .pointer (some ⟨W.XA, 0, none⟩), .pointer (some ⟨W.XB, 0, none⟩), .bool false, .int .i64 0, .int .i64 0, .int .i64 0, .int .i64 0, .int .i64 0, .slice (some ⟨h.size + 1, 0, none⟩) 273 273, .int .i64 0, .int .i64 0, .int .i64 0, .int .i64 0, .slice (some ⟨h.size + 2, 0, none⟩) 16 16, .int .i64 0, .int .i64 0, .slice (some ⟨h.size + 3, 0, none⟩) 256 256, .int .i64 0, .int .i64 0, .int .i64 0] := by unfold dcs; rw [hD]; rfl
  rw [← hpc] at bt3
  refine ⟨by rw [hD], ⟨hs, ?_, ?_, ?_, ?_, rt4, (ca.ext hEx (fun z e f => f)).ext hX4 (fun z e y => by rw [ct_def] at e; omega), (cb.ext hEx (fun z e f => f)).ext hX4 (fun z e y => by rw [ct_def] at e; omega)⟩, (hEx.mono fun _ f => f.elim).trans hX4⟩
  · rw [hD]; exact bt3.ext hX4 (fun e => by omega)
  · rw [hD]; exact (((((ba1.ext hEg1 (fun e => by omega)).ext hEm2 (fun f => f)).ext hEg2 (fun e => by omega)).ext hEm3 (fun f => f)).ext hEg3 (fun e => by omega)).ext hX4 (fun e => by omega)
  · rw [hD]; exact (((ba2.ext hEg2 (fun e => by omega)).ext hEm3 (fun f => f)).ext hEg3 (fun e => by omega)).ext hX4 (fun e => by omega)
  · rw [hD]; exact (ba3.ext hEg3 (fun e => by omega)).ext hX4 (fun e => by omega)
set_option maxHeartbeats 3200000 in
theorem scheck_spec (h : Heap) (W : SA) (r : SR) (s : TS) (ua ub : HC) (sw : SW h W r s ua ub) (raw : ByteArray) (out : List Int) (st : Nat) (q : RSt raw r out s ua ub st) :
    FC Tryz.prog 24 (#[.pointer (some ⟨W.D, 0, none⟩)] : Array Value) h fun rv h' => rv = .bool true ∧ h = h' := by
  try clear q0 q1 q2 q3 q4 q5 q6 q7 q8 q9 q10 q11 q12 q13 q14 q15 q16 q17 q18 q19 q20 dok
  obtain ⟨q0, q1, q2, q3, q4, q5, q6, q7, q8, q9, q10, q11, q12, q13, q14, q15, q16, q17, q18, q19, q20⟩ := dq (sw.x)
  have dok := dok_ (sw.x)
  try simp only [] at q0 q1 q2 q3 q4 q5 q6 q7 q8 q9 q10 q11 q12 q13 q14 q15 q16 q17 q18 q19 q20
  obtain ⟨sent, w_⟩ := q.w
  have hph := q.ph
  have e1 := w_.fed
  have e2 := w_.z
  have e3 := w_.si.tt
  have e4 := w_.si.le
  have e5 := w_.si.n
  have e6 := w_.fi
  have e7 := w_.si.w
  have e8 := w_.si.fl
  have e9 := w_.n
  have e10 := w_.at_
  have e11 := w_.hd
  have al := ia_at sw.l
  refine FC_of [(0, .pointer (some ⟨W.D, 0, none⟩))] Tryz.func24 rfl Tryz.ntmps24 (by simp) rfl (fun R hR => ?_)
  refine V_sr T.mix (by kernel_rfl) (fun K1 hK1 => ?_)
  refine S_as rfl ?_
  refine S_nil (hK1 _ _ (V_keep [0] (by simp only [proj, lk, reduceIte, Nat.reduceEqDiff]; rfl) ?_)); clear hK1
  refine V_seq (fun K2 hK2 => ?_)
  refine V_sr T.mix (by kernel_rfl) (fun K3 hK3 => ?_)
  refine S_mv rfl ?_
  refine S_nc rfl ?_
  first | refine S_fa0 T.f50_4 rfl ?_ | refine S_fa T.f50_4 rfl ?_
  refine S_ldK T.ag3 rfl (fun K' hK' => ?_)
  simp (disch := omega) only [q0, q1, q2, q3, q4, q5, q6, q7, q8, q9, q10, q11, q12, q13, q14, q15, q16, q17, q18, q19, q20, oP_some, Nat.add_zero]
  refine hK' _ ?_; clear hK' K'
  refine S_bin rfl rfl rfl ?_
  refine S_mv rfl ?_
  refine S_dec (fun g9 => ?_) (fun g9 => ?_)
  · skip
    exfalso; omega
  · skip
    refine S_gt rfl ?_
    refine S_mv rfl ?_
    refine S_gt rfl ?_
    refine S_nc rfl ?_
    refine S_gt rfl ?_
    first | refine S_fa0 T.f50_4 rfl ?_ | refine S_fa T.f50_4 rfl ?_
    refine S_gt rfl ?_
    refine S_ldK T.ag3 rfl (fun K' hK' => ?_)
    simp (disch := omega) only [q0, q1, q2, q3, q4, q5, q6, q7, q8, q9, q10, q11, q12, q13, q14, q15, q16, q17, q18, q19, q20, oP_some, Nat.add_zero]
    refine hK' _ ?_; clear hK' K'
    refine S_gt rfl ?_
    refine S_bin rfl rfl rfl ?_
    refine S_pf rfl rfl ?_
    refine S_nil (hK3 _ _ (V_keep [0, 17] (by simp only [proj, lk, reduceIte, Nat.reduceEqDiff]; rfl) ?_)); clear hK3
    refine V_condp rfl (fun c9 => ?_) (fun c9 => ?_)
    · skip
      exfalso; omega
    · skip
      refine V_skipk [0] (by simp only [proj, lk, reduceIte, Nat.reduceEqDiff]; rfl) ?_
      refine hK2 _ _ ?_; clear hK2
      refine V_seq (fun K4 hK4 => ?_)
      refine V_sr T.mix (by kernel_rfl) (fun K5 hK5 => ?_)
      refine S_mv rfl ?_
      refine S_nc rfl ?_
      first | refine S_fa0 T.f50_9 rfl ?_ | refine S_fa T.f50_9 rfl ?_
      refine S_ldK T.ag47 rfl (fun K' hK' => ?_)
      simp (disch := omega) only [q0, q1, q2, q3, q4, q5, q6, q7, q8, q9, q10, q11, q12, q13, q14, q15, q16, q17, q18, q19, q20, oP_some, Nat.add_zero]
      refine hK' _ ?_; clear hK' K'
      refine S_lenl T.el47 rfl ?_
      refine S_bin rfl rfl rfl ?_
      refine S_mv rfl ?_
      refine S_dec (fun g12 => ?_) (fun g12 => ?_)
      · skip
        exfalso; omega
      · skip
        refine S_gt rfl ?_
        refine S_mv rfl ?_
        refine S_gt rfl ?_
        refine S_nc rfl ?_
        refine S_gt rfl ?_
        first | refine S_fa0 T.f50_14 rfl ?_ | refine S_fa T.f50_14 rfl ?_
        refine S_gt rfl ?_
        refine S_ldK T.ag48 rfl (fun K' hK' => ?_)
        simp (disch := omega) only [q0, q1, q2, q3, q4, q5, q6, q7, q8, q9, q10, q11, q12, q13, q14, q15, q16, q17, q18, q19, q20, oP_some, Nat.add_zero]
        refine hK' _ ?_; clear hK' K'
        refine S_gt rfl ?_
        refine S_lenl T.el48 rfl ?_
        refine S_gt rfl ?_
        refine S_bin rfl rfl rfl ?_
        refine S_pf rfl rfl ?_
        refine S_mv rfl ?_
        refine S_dec (fun g12a => ?_) (fun g12a => ?_)
        · skip
          exfalso; omega
        · skip
          refine S_gt rfl ?_
          refine S_mv rfl ?_
          refine S_gt rfl ?_
          refine S_nc rfl ?_
          refine S_gt rfl ?_
          first | refine S_fa0 T.f50_17 rfl ?_ | refine S_fa T.f50_17 rfl ?_
          refine S_gt rfl ?_
          refine S_ldK T.ag48 rfl (fun K' hK' => ?_)
          simp (disch := omega) only [q0, q1, q2, q3, q4, q5, q6, q7, q8, q9, q10, q11, q12, q13, q14, q15, q16, q17, q18, q19, q20, oP_some, Nat.add_zero]
          refine hK' _ ?_; clear hK' K'
          refine S_gt rfl ?_
          refine S_lenl T.el48 rfl ?_
          refine S_gt rfl ?_
          refine S_bin rfl rfl rfl ?_
          refine S_pf rfl rfl ?_
          refine S_nil (hK5 _ _ (V_keep [0, 39] (by simp only [proj, lk, reduceIte, Nat.reduceEqDiff]; rfl) ?_)); clear hK5
          refine V_condp rfl (fun c12 => ?_) (fun c12 => ?_)
          · skip
            exfalso; omega
          · skip
            refine V_skipk [0] (by simp only [proj, lk, reduceIte, Nat.reduceEqDiff]; rfl) ?_
            refine hK4 _ _ ?_; clear hK4
            refine V_seq (fun K6 hK6 => ?_)
            refine V_sr T.mix (by kernel_rfl) (fun K7 hK7 => ?_)
            refine S_mv rfl ?_
            refine S_nc rfl ?_
            first | refine S_fa0 T.f50_20 rfl ?_ | refine S_fa T.f50_20 rfl ?_
            refine S_ldK T.ag3 rfl (fun K' hK' => ?_)
            simp (disch := omega) only [q0, q1, q2, q3, q4, q5, q6, q7, q8, q9, q10, q11, q12, q13, q14, q15, q16, q17, q18, q19, q20, oP_some, Nat.add_zero]
            refine hK' _ ?_; clear hK' K'
            refine S_bin rfl rfl rfl ?_
            refine S_mv rfl ?_
            refine S_dec (fun g15 => ?_) (fun g15 => ?_)
            · skip
              exfalso; omega
            · skip
              refine S_gt rfl ?_
              refine S_mv rfl ?_
              refine S_gt rfl ?_
              refine S_nc rfl ?_
              refine S_gt rfl ?_
              first | refine S_fa0 T.f50_20 rfl ?_ | refine S_fa T.f50_20 rfl ?_
              refine S_gt rfl ?_
              refine S_ldK T.ag3 rfl (fun K' hK' => ?_)
              simp (disch := omega) only [q0, q1, q2, q3, q4, q5, q6, q7, q8, q9, q10, q11, q12, q13, q14, q15, q16, q17, q18, q19, q20, oP_some, Nat.add_zero]
              refine hK' _ ?_; clear hK' K'
              refine S_gt rfl ?_
              refine S_bin rfl rfl rfl ?_
              refine S_pf rfl rfl ?_
              refine S_mv rfl ?_
              refine S_dec (fun g15a => ?_) (fun g15a => ?_)
              · skip
                exfalso; omega
              · skip
                refine S_gt rfl ?_
                refine S_mv rfl ?_
                refine S_gt rfl ?_
                refine S_nc rfl ?_
                refine S_gt rfl ?_
                first | refine S_fa0 T.f50_19 rfl ?_ | refine S_fa T.f50_19 rfl ?_
                refine S_gt rfl ?_
                refine S_ldK T.ag3 rfl (fun K' hK' => ?_)
                simp (disch := omega) only [q0, q1, q2, q3, q4, q5, q6, q7, q8, q9, q10, q11, q12, q13, q14, q15, q16, q17, q18, q19, q20, oP_some, Nat.add_zero]
                refine hK' _ ?_; clear hK' K'
                refine S_gt rfl ?_
                refine S_bin rfl rfl rfl ?_
                refine S_pf rfl rfl ?_
                refine S_mv rfl ?_
                refine S_dec (fun g15b => ?_) (fun g15b => ?_)
                · skip
                  exfalso; omega
                · skip
                  refine S_gt rfl ?_
                  refine S_mv rfl ?_
                  refine S_gt rfl ?_
                  refine S_nc rfl ?_
                  refine S_gt rfl ?_
                  first | refine S_fa0 T.f50_19 rfl ?_ | refine S_fa T.f50_19 rfl ?_
                  refine S_gt rfl ?_
                  refine S_ldK T.ag3 rfl (fun K' hK' => ?_)
                  simp (disch := omega) only [q0, q1, q2, q3, q4, q5, q6, q7, q8, q9, q10, q11, q12, q13, q14, q15, q16, q17, q18, q19, q20, oP_some, Nat.add_zero]
                  refine hK' _ ?_; clear hK' K'
                  refine S_gt rfl ?_
                  refine S_bin rfl rfl rfl ?_
                  refine S_pf rfl rfl ?_
                  refine S_nil (hK7 _ _ (V_keep [0, 65] (by simp only [proj, lk, reduceIte, Nat.reduceEqDiff]; rfl) ?_)); clear hK7
                  refine V_condp rfl (fun c15 => ?_) (fun c15 => ?_)
                  · skip
                    exfalso; omega
                  · skip
                    refine V_skipk [0] (by simp only [proj, lk, reduceIte, Nat.reduceEqDiff]; rfl) ?_
                    refine hK6 _ _ ?_; clear hK6
                    refine V_seq (fun K8 hK8 => ?_)
                    refine V_sr T.mix (by kernel_rfl) (fun K9 hK9 => ?_)
                    refine S_mv rfl ?_
                    refine S_nc rfl ?_
                    first | refine S_fa0 T.f50_18 rfl ?_ | refine S_fa T.f50_18 rfl ?_
                    refine S_ldK T.ag3 rfl (fun K' hK' => ?_)
                    simp (disch := omega) only [q0, q1, q2, q3, q4, q5, q6, q7, q8, q9, q10, q11, q12, q13, q14, q15, q16, q17, q18, q19, q20, oP_some, Nat.add_zero]
                    refine hK' _ ?_; clear hK' K'
                    refine S_bin rfl rfl rfl ?_
                    refine S_mv rfl ?_
                    refine S_dec (fun g18 => ?_) (fun g18 => ?_)
                    · skip
                      exfalso; omega
                    · skip
                      refine S_gt rfl ?_
                      refine S_mv rfl ?_
                      refine S_gt rfl ?_
                      refine S_nc rfl ?_
                      refine S_gt rfl ?_
                      first | refine S_fa0 T.f50_18 rfl ?_ | refine S_fa T.f50_18 rfl ?_
                      refine S_gt rfl ?_
                      refine S_ldK T.ag3 rfl (fun K' hK' => ?_)
                      simp (disch := omega) only [q0, q1, q2, q3, q4, q5, q6, q7, q8, q9, q10, q11, q12, q13, q14, q15, q16, q17, q18, q19, q20, oP_some, Nat.add_zero]
                      refine hK' _ ?_; clear hK' K'
                      refine S_gt rfl ?_
                      refine S_mv rfl ?_
                      refine S_gt rfl ?_
                      refine S_nc rfl ?_
                      refine S_gt rfl ?_
                      first | refine S_fa0 T.f50_19 rfl ?_ | refine S_fa T.f50_19 rfl ?_
                      refine S_gt rfl ?_
                      refine S_ldK T.ag3 rfl (fun K' hK' => ?_)
                      simp (disch := omega) only [q0, q1, q2, q3, q4, q5, q6, q7, q8, q9, q10, q11, q12, q13, q14, q15, q16, q17, q18, q19, q20, oP_some, Nat.add_zero]
                      refine hK' _ ?_; clear hK' K'
                      refine S_gt rfl ?_
                      refine S_bin rfl rfl rfl ?_
                      refine S_pf rfl rfl ?_
                      refine S_mv rfl ?_
                      refine S_dec (fun g18a => ?_) (fun g18a => ?_)
                      · skip
                        exfalso; omega
                      · skip
                        refine S_gt rfl ?_
                        refine S_mv rfl ?_
                        refine S_gt rfl ?_
                        refine S_nc rfl ?_
                        refine S_gt rfl ?_
                        first | refine S_fa0 T.f50_5 rfl ?_ | refine S_fa T.f50_5 rfl ?_
                        refine S_gt rfl ?_
                        refine S_ldK T.ag3 rfl (fun K' hK' => ?_)
                        simp (disch := omega) only [q0, q1, q2, q3, q4, q5, q6, q7, q8, q9, q10, q11, q12, q13, q14, q15, q16, q17, q18, q19, q20, oP_some, Nat.add_zero]
                        refine hK' _ ?_; clear hK' K'
                        refine S_gt rfl ?_
                        refine S_bin rfl rfl rfl ?_
                        refine S_pf rfl rfl ?_
                        refine S_mv rfl ?_
                        refine S_dec (fun g18b => ?_) (fun g18b => ?_)
                        · skip
                          exfalso; omega
                        · skip
                          refine S_gt rfl ?_
                          refine S_mv rfl ?_
                          refine S_gt rfl ?_
                          refine S_nc rfl ?_
                          refine S_gt rfl ?_
                          first | refine S_fa0 T.f50_5 rfl ?_ | refine S_fa T.f50_5 rfl ?_
                          refine S_gt rfl ?_
                          refine S_ldK T.ag3 rfl (fun K' hK' => ?_)
                          simp (disch := omega) only [q0, q1, q2, q3, q4, q5, q6, q7, q8, q9, q10, q11, q12, q13, q14, q15, q16, q17, q18, q19, q20, oP_some, Nat.add_zero]
                          refine hK' _ ?_; clear hK' K'
                          refine S_gt rfl ?_
                          refine S_bin rfl rfl rfl ?_
                          refine S_pf rfl rfl ?_
                          refine S_nil (hK9 _ _ (V_keep [0, 95] (by simp only [proj, lk, reduceIte, Nat.reduceEqDiff]; rfl) ?_)); clear hK9
                          refine V_condp rfl (fun c18 => ?_) (fun c18 => ?_)
                          · skip
                            exfalso; omega
                          · skip
                            refine V_skipk [0] (by simp only [proj, lk, reduceIte, Nat.reduceEqDiff]; rfl) ?_
                            refine hK8 _ _ ?_; clear hK8
                            refine V_seq (fun K10 hK10 => ?_)
                            refine V_sr T.mix (by kernel_rfl) (fun K11 hK11 => ?_)
                            refine S_mv rfl ?_
                            refine S_nc rfl ?_
                            first | refine S_fa0 T.f50_15 rfl ?_ | refine S_fa T.f50_15 rfl ?_
                            refine S_ldK T.ag3 rfl (fun K' hK' => ?_)
                            simp (disch := omega) only [q0, q1, q2, q3, q4, q5, q6, q7, q8, q9, q10, q11, q12, q13, q14, q15, q16, q17, q18, q19, q20, oP_some, Nat.add_zero]
                            refine hK' _ ?_; clear hK' K'
                            refine S_mv rfl ?_
                            refine S_nc rfl ?_
                            first | refine S_fa0 T.f50_19 rfl ?_ | refine S_fa T.f50_19 rfl ?_
                            refine S_ldK T.ag3 rfl (fun K' hK' => ?_)
                            simp (disch := omega) only [q0, q1, q2, q3, q4, q5, q6, q7, q8, q9, q10, q11, q12, q13, q14, q15, q16, q17, q18, q19, q20, oP_some, Nat.add_zero]
                            refine hK' _ ?_; clear hK' K'
                            refine S_rem rfl rfl (by omega) (by omega) ?_
                            refine S_bin rfl rfl rfl ?_
                            refine S_nil (hK11 _ _ (V_keep [0, 105] (by simp only [proj, lk, reduceIte, Nat.reduceEqDiff]; rfl) ?_)); clear hK11
                            refine V_condp rfl (fun c21 => ?_) (fun c21 => ?_)
                            · skip
                              exfalso; omega
                            · skip
                              refine V_skipk [0] (by simp only [proj, lk, reduceIte, Nat.reduceEqDiff]; rfl) ?_
                              refine hK10 _ _ ?_; clear hK10
                              refine V_seqJ (fun l h' => l = [(0, .pointer (some ⟨W.D, 0, none⟩))] ∧ h = h') ?_ ?_
                              · skip
                                refine V_sr T.mix (by kernel_rfl) (fun K13 hK13 => ?_)
                                refine S_mv rfl ?_
                                refine S_nc rfl ?_
                                first | refine S_fa0 T.f50_16 rfl ?_ | refine S_fa T.f50_16 rfl ?_
                                refine S_ldK T.ag3 rfl (fun K' hK' => ?_)
                                simp (disch := omega) only [q0, q1, q2, q3, q4, q5, q6, q7, q8, q9, q10, q11, q12, q13, q14, q15, q16, q17, q18, q19, q20, oP_some, Nat.add_zero]
                                refine hK' _ ?_; clear hK' K'
                                refine S_mv rfl ?_
                                refine S_nc rfl ?_
                                first | refine S_fa0 T.f50_19 rfl ?_ | refine S_fa T.f50_19 rfl ?_
                                refine S_ldK T.ag3 rfl (fun K' hK' => ?_)
                                simp (disch := omega) only [q0, q1, q2, q3, q4, q5, q6, q7, q8, q9, q10, q11, q12, q13, q14, q15, q16, q17, q18, q19, q20, oP_some, Nat.add_zero]
                                refine hK' _ ?_; clear hK' K'
                                refine S_bin rfl rfl rfl ?_
                                refine S_mv rfl ?_
                                refine S_dec (fun g24 => ?_) (fun g24 => ?_)
                                · skip
                                  refine S_gt rfl ?_
                                  refine S_mv rfl ?_
                                  refine S_gt rfl ?_
                                  refine S_nc rfl ?_
                                  refine S_gt rfl ?_
                                  first | refine S_fa0 T.f50_16 rfl ?_ | refine S_fa T.f50_16 rfl ?_
                                  refine S_gt rfl ?_
                                  refine S_ldK T.ag3 rfl (fun K' hK' => ?_)
                                  simp (disch := omega) only [q0, q1, q2, q3, q4, q5, q6, q7, q8, q9, q10, q11, q12, q13, q14, q15, q16, q17, q18, q19, q20, oP_some, Nat.add_zero]
                                  refine hK' _ ?_; clear hK' K'
                                  refine S_gt rfl ?_
                                  refine S_bin rfl rfl rfl ?_
                                  refine S_gt rfl ?_
                                  refine S_mv rfl ?_
                                  refine S_dec (fun g24a => ?_) (fun g24a => ?_)
                                  · skip
                                    exfalso; omega
                                  · skip
                                    refine S_gt rfl ?_
                                    refine S_mv rfl ?_
                                    refine S_gt rfl ?_
                                    refine S_nc rfl ?_
                                    refine S_gt rfl ?_
                                    first | refine S_fa0 T.f50_19 rfl ?_ | refine S_fa T.f50_19 rfl ?_
                                    refine S_gt rfl ?_
                                    refine S_ldK T.ag3 rfl (fun K' hK' => ?_)
                                    simp (disch := omega) only [q0, q1, q2, q3, q4, q5, q6, q7, q8, q9, q10, q11, q12, q13, q14, q15, q16, q17, q18, q19, q20, oP_some, Nat.add_zero]
                                    refine hK' _ ?_; clear hK' K'
                                    refine S_gt rfl ?_
                                    refine S_bin rfl rfl rfl ?_
                                    refine S_gt rfl ?_
                                    refine S_pf rfl rfl ?_
                                    refine S_pt rfl rfl ?_
                                    refine S_nil (hK13 _ _ (V_keep [0, 128] (by simp only [proj, lk, reduceIte, Nat.reduceEqDiff]; rfl) ?_)); clear hK13
                                    refine V_condp rfl (fun c24 => ?_) (fun c24 => ?_)
                                    · skip
                                      exfalso; omega
                                    · skip
                                      refine V_skipk [0] (by simp only [proj, lk, reduceIte, Nat.reduceEqDiff]; rfl) ?_
                                      exact ⟨rfl, rfl⟩
                                · skip
                                  refine S_gf rfl ?_
                                  refine S_gf rfl ?_
                                  refine S_gf rfl ?_
                                  refine S_gf rfl ?_
                                  refine S_gf rfl ?_
                                  refine S_gf rfl ?_
                                  refine S_gf rfl ?_
                                  refine S_gf rfl ?_
                                  refine S_gf rfl ?_
                                  refine S_gf rfl ?_
                                  refine S_gf rfl ?_
                                  refine S_gf rfl ?_
                                  refine S_pf rfl rfl ?_
                                  refine S_nil (hK13 _ _ (V_keep [0, 128] (by simp only [proj, lk, reduceIte, Nat.reduceEqDiff]; rfl) ?_)); clear hK13
                                  refine V_condf rfl ?_
                                  refine V_skipk [0] (by simp only [proj, lk, reduceIte, Nat.reduceEqDiff]; rfl) ?_
                                  exact ⟨rfl, rfl⟩
                              rintro l h' ⟨rfl, rfl⟩
                              refine V_seq (fun K14 hK14 => ?_)
                              refine V_sr T.mix (by kernel_rfl) (fun K15 hK15 => ?_)
                              refine S_as rfl ?_
                              refine S_nil (hK15 _ _ (V_keep [0, 3] (by simp only [proj, lk, reduceIte, Nat.reduceEqDiff]; rfl) ?_)); clear hK15
                              refine V_block ?_
                              refine V_loop (fun m l h' => ∃ (i : Nat), (i ≤ 273) ∧ m = 273 - i ∧ l = [(0, .pointer (some ⟨W.D, 0, none⟩)), (3, .int .i64 (i : Int))] ∧ h = h') _ ⟨0, Nat.zero_le _, rfl, rfl, rfl⟩ ?_
                              rintro m l h' ⟨i, hi, rfl, rfl, rfl⟩ K16 hK16
                              have hli : i < 273 → r.ls i ≤ 10 := fun z => w_.l10 i z
                              refine V_seq (fun K17 hK17 => ?_)
                              refine V_sr T.mix (by kernel_rfl) (fun K18 hK18 => ?_)
                              refine S_mv rfl ?_
                              refine S_mv rfl ?_
                              refine S_nc rfl ?_
                              first | refine S_fa0 T.f50_9 rfl ?_ | refine S_fa T.f50_9 rfl ?_
                              refine S_ldK T.ag47 rfl (fun K' hK' => ?_)
                              simp (disch := omega) only [q0, q1, q2, q3, q4, q5, q6, q7, q8, q9, q10, q11, q12, q13, q14, q15, q16, q17, q18, q19, q20, oP_some, Nat.add_zero]
                              refine hK' _ ?_; clear hK' K'
                              refine S_lenl T.el47 rfl ?_
                              refine S_bin rfl rfl rfl ?_
                              refine S_nil (hK18 _ _ (V_keep [0, 3, 135] (by simp only [proj, lk, reduceIte, Nat.reduceEqDiff]; rfl) ?_)); clear hK18
                              refine V_condp rfl (fun c27 => ?_) (fun c27 => ?_)
                              · skip
                                refine V_skipk [0, 3] (by simp only [proj, lk, reduceIte, Nat.reduceEqDiff]; rfl) ?_
                                refine hK17 _ _ ?_; clear hK17
                                refine V_seq (fun K19 hK19 => ?_)
                                refine V_block ?_
                                refine V_sr T.mix (by kernel_rfl) (fun K20 hK20 => ?_)
                                refine S_mv rfl ?_
                                refine S_nc rfl ?_
                                first | refine S_fa0 T.f50_9 rfl ?_ | refine S_fa T.f50_9 rfl ?_
                                refine S_ldK T.ag47 rfl (fun K' hK' => ?_)
                                simp (disch := omega) only [q0, q1, q2, q3, q4, q5, q6, q7, q8, q9, q10, q11, q12, q13, q14, q15, q16, q17, q18, q19, q20, al, oP_some, Nat.add_zero]
                                refine hK' _ ?_; clear hK' K'
                                refine S_mv rfl ?_
                                first | refine S_ixn T.el47 rfl rfl (by omega) ?_ | refine S_ix1 T.el47 rfl rfl (by omega) (by omega) ?_ | refine S_ix T.el47 rfl rfl (by omega) (by omega) ?_
                                refine S_ldK T.ag3 rfl (fun K' hK' => ?_)
                                simp (disch := omega) only [q0, q1, q2, q3, q4, q5, q6, q7, q8, q9, q10, q11, q12, q13, q14, q15, q16, q17, q18, q19, q20, al, oP_some, Nat.add_zero]
                                refine hK' _ ?_; clear hK' K'
                                refine S_bin rfl rfl rfl ?_
                                refine S_mv rfl ?_
                                refine S_dec (fun g28 => ?_) (fun g28 => ?_)
                                · skip
                                  exfalso; omega
                                · skip
                                  refine S_gt rfl ?_
                                  refine S_mv rfl ?_
                                  refine S_gt rfl ?_
                                  refine S_nc rfl ?_
                                  refine S_gt rfl ?_
                                  first | refine S_fa0 T.f50_9 rfl ?_ | refine S_fa T.f50_9 rfl ?_
                                  refine S_gt rfl ?_
                                  refine S_ldK T.ag47 rfl (fun K' hK' => ?_)
                                  simp (disch := omega) only [q0, q1, q2, q3, q4, q5, q6, q7, q8, q9, q10, q11, q12, q13, q14, q15, q16, q17, q18, q19, q20, al, oP_some, Nat.add_zero]
                                  refine hK' _ ?_; clear hK' K'
                                  refine S_gt rfl ?_
                                  refine S_mv rfl ?_
                                  refine S_gt rfl ?_
                                  first | refine S_ixn T.el47 rfl rfl (by omega) ?_ | refine S_ix1 T.el47 rfl rfl (by omega) (by omega) ?_ | refine S_ix T.el47 rfl rfl (by omega) (by omega) ?_
                                  refine S_gt rfl ?_
                                  refine S_ldK T.ag3 rfl (fun K' hK' => ?_)
                                  simp (disch := omega) only [q0, q1, q2, q3, q4, q5, q6, q7, q8, q9, q10, q11, q12, q13, q14, q15, q16, q17, q18, q19, q20, al, oP_some, Nat.add_zero]
                                  refine hK' _ ?_; clear hK' K'
                                  refine S_gt rfl ?_
                                  refine S_bin rfl rfl rfl ?_
                                  refine S_pf rfl rfl ?_
                                  refine S_nil (hK20 _ _ (V_keep [0, 3, 155] (by simp only [proj, lk, reduceIte, Nat.reduceEqDiff]; rfl) ?_)); clear hK20
                                  refine V_condp rfl (fun c28 => ?_) (fun c28 => ?_)
                                  · skip
                                    exfalso; omega
                                  · skip
                                    refine V_skipk [0, 3] (by simp only [proj, lk, reduceIte, Nat.reduceEqDiff]; rfl) ?_
                                    refine hK19 _ _ ?_; clear hK19
                                    refine V_reg T.mix (by kernel_rfl) ?_
                                    refine S_mv rfl ?_
                                    refine S_addN (i + 1) rfl rfl (by omega) (by omega) ?_
                                    refine S_as rfl ?_
                                    refine S_nilk [0, 3] (by simp only [proj, lk, reduceIte, Nat.reduceEqDiff]; rfl) ?_
                                    exact hK16 _ _ ⟨_, by omega, i + 1, by omega, rfl, rfl, rfl⟩
                              · skip
                                refine V_exitk [0] rfl (by simp only [proj, lk, reduceIte, Nat.reduceEqDiff]; rfl) ?_
                                refine hK14 _ _ ?_; clear hK14
                                refine V_sr T.mix (by kernel_rfl) (fun K21 hK21 => ?_)
                                refine S_mv rfl ?_
                                refine S_nc rfl ?_
                                first | refine S_fa0 T.f50_0 rfl ?_ | refine S_fa T.f50_0 rfl ?_
                                refine S_ldK T.ag27 rfl (fun K' hK' => ?_)
                                simp (disch := omega) only [q0, q1, q2, q3, q4, q5, q6, q7, q8, q9, q10, q11, q12, q13, q14, q15, q16, q17, q18, q19, q20, oP_some, Nat.add_zero]
                                refine hK' _ ?_; clear hK' K'
                                refine S_call T.hb17 rfl ?_
                                refine FC.mono (BitW.len_spec h W.T W.tb s sw.rt) ?_
                                rintro v' h' ⟨rfl, rfl⟩
                                refine S_as rfl ?_
                                refine S_nil (hK21 _ _ (V_keep [0, 4] (by simp only [proj, lk, reduceIte, Nat.reduceEqDiff]; rfl) ?_)); clear hK21
                                refine V_sr T.mix (by kernel_rfl) (fun K22 hK22 => ?_)
                                refine S_mv rfl ?_
                                refine S_nc rfl ?_
                                first | refine S_fa0 T.f50_0 rfl ?_ | refine S_fa T.f50_0 rfl ?_
                                refine S_ldK T.ag27 rfl (fun K' hK' => ?_)
                                simp (disch := omega) only [q0, q1, q2, q3, q4, q5, q6, q7, q8, q9, q10, q11, q12, q13, q14, q15, q16, q17, q18, q19, q20, oP_some, Nat.add_zero]
                                refine hK' _ ?_; clear hK' K'
                                refine S_call T.hb38 rfl ?_
                                refine FC.mono (BitW.pos_spec h W.T W.tb s sw.rt) ?_
                                rintro v' h' ⟨rfl, rfl⟩
                                refine S_as rfl ?_
                                refine S_nil (hK22 _ _ (V_keep [0, 4, 5] (by simp only [proj, lk, reduceIte, Nat.reduceEqDiff]; rfl) ?_)); clear hK22
                                refine V_seq (fun K23 hK23 => ?_)
                                refine V_sr T.mix (by kernel_rfl) (fun K24 hK24 => ?_)
                                refine S_mv rfl ?_
                                refine S_mv rfl ?_
                                refine S_nc rfl ?_
                                first | refine S_fa0 T.f50_20 rfl ?_ | refine S_fa T.f50_20 rfl ?_
                                refine S_ldK T.ag3 rfl (fun K' hK' => ?_)
                                simp (disch := omega) only [q0, q1, q2, q3, q4, q5, q6, q7, q8, q9, q10, q11, q12, q13, q14, q15, q16, q17, q18, q19, q20, oP_some, Nat.add_zero]
                                refine hK' _ ?_; clear hK' K'
                                refine S_mul rfl rfl (by omega) (by omega) ?_
                                refine S_bin rfl rfl rfl ?_
                                refine S_mv rfl ?_
                                refine S_dec (fun g34 => ?_) (fun g34 => ?_)
                                · skip
                                  exfalso; omega
                                · skip
                                  refine S_gt rfl ?_
                                  refine S_mv rfl ?_
                                  refine S_gt rfl ?_
                                  refine S_nc rfl ?_
                                  refine S_gt rfl ?_
                                  first | refine S_fa0 T.f50_6 rfl ?_ | refine S_fa T.f50_6 rfl ?_
                                  refine S_gt rfl ?_
                                  refine S_ldK T.ag3 rfl (fun K' hK' => ?_)
                                  simp (disch := omega) only [q0, q1, q2, q3, q4, q5, q6, q7, q8, q9, q10, q11, q12, q13, q14, q15, q16, q17, q18, q19, q20, oP_some, Nat.add_zero]
                                  refine hK' _ ?_; clear hK' K'
                                  refine S_gt rfl ?_
                                  refine S_bin rfl rfl rfl ?_
                                  refine S_pf rfl rfl ?_
                                  refine S_mv rfl ?_
                                  refine S_dec (fun g34a => ?_) (fun g34a => ?_)
                                  · skip
                                    exfalso; omega
                                  · skip
                                    refine S_gt rfl ?_
                                    refine S_mv rfl ?_
                                    refine S_gt rfl ?_
                                    refine S_nc rfl ?_
                                    refine S_gt rfl ?_
                                    first | refine S_fa0 T.f50_6 rfl ?_ | refine S_fa T.f50_6 rfl ?_
                                    refine S_gt rfl ?_
                                    refine S_ldK T.ag3 rfl (fun K' hK' => ?_)
                                    simp (disch := omega) only [q0, q1, q2, q3, q4, q5, q6, q7, q8, q9, q10, q11, q12, q13, q14, q15, q16, q17, q18, q19, q20, oP_some, Nat.add_zero]
                                    refine hK' _ ?_; clear hK' K'
                                    refine S_gt rfl ?_
                                    refine S_mv rfl ?_
                                    refine S_gt rfl ?_
                                    refine S_bin rfl rfl rfl ?_
                                    refine S_pf rfl rfl ?_
                                    refine S_mv rfl ?_
                                    refine S_dec (fun g34b => ?_) (fun g34b => ?_)
                                    · skip
                                      exfalso; omega
                                    · skip
                                      refine S_gt rfl ?_
                                      refine S_mv rfl ?_
                                      refine S_gt rfl ?_
                                      refine S_nc rfl ?_
                                      refine S_gt rfl ?_
                                      first | refine S_fa0 T.f50_7 rfl ?_ | refine S_fa T.f50_7 rfl ?_
                                      refine S_gt rfl ?_
                                      refine S_ldK T.ag3 rfl (fun K' hK' => ?_)
                                      simp (disch := omega) only [q0, q1, q2, q3, q4, q5, q6, q7, q8, q9, q10, q11, q12, q13, q14, q15, q16, q17, q18, q19, q20, oP_some, Nat.add_zero]
                                      refine hK' _ ?_; clear hK' K'
                                      refine S_gt rfl ?_
                                      refine S_bin rfl rfl rfl ?_
                                      refine S_pf rfl rfl ?_
                                      refine S_mv rfl ?_
                                      refine S_dec (fun g34c => ?_) (fun g34c => ?_)
                                      · skip
                                        exfalso; omega
                                      · skip
                                        refine S_gt rfl ?_
                                        refine S_mv rfl ?_
                                        refine S_gt rfl ?_
                                        refine S_nc rfl ?_
                                        refine S_gt rfl ?_
                                        first | refine S_fa0 T.f50_7 rfl ?_ | refine S_fa T.f50_7 rfl ?_
                                        refine S_gt rfl ?_
                                        refine S_ldK T.ag3 rfl (fun K' hK' => ?_)
                                        simp (disch := omega) only [q0, q1, q2, q3, q4, q5, q6, q7, q8, q9, q10, q11, q12, q13, q14, q15, q16, q17, q18, q19, q20, oP_some, Nat.add_zero]
                                        refine hK' _ ?_; clear hK' K'
                                        refine S_gt rfl ?_
                                        refine S_mv rfl ?_
                                        refine S_gt rfl ?_
                                        refine S_bin rfl rfl rfl ?_
                                        refine S_pf rfl rfl ?_
                                        refine S_nil (hK24 _ _ (V_keep [0, 5, 202] (by simp only [proj, lk, reduceIte, Nat.reduceEqDiff]; rfl) ?_)); clear hK24
                                        refine V_condp rfl (fun c34 => ?_) (fun c34 => ?_)
                                        · skip
                                          exfalso; omega
                                        · skip
                                          refine V_skipk [0, 5] (by simp only [proj, lk, reduceIte, Nat.reduceEqDiff]; rfl) ?_
                                          refine hK23 _ _ ?_; clear hK23
                                          refine V_seq (fun K25 hK25 => ?_)
                                          refine V_sr T.mix (by kernel_rfl) (fun K26 hK26 => ?_)
                                          refine S_mv rfl ?_
                                          refine S_mv rfl ?_
                                          refine S_call T.hb39 rfl ?_
                                          refine FC.mono (checkphase_spec h W r s ua ub sw raw out st q) ?_
                                          rintro v' h' ⟨rfl, rfl⟩
                                          refine S_notb rfl ?_
                                          refine S_nil (hK26 _ _ (V_keep [0, 206] (by simp only [proj, lk, reduceIte, Nat.reduceEqDiff]; rfl) ?_)); clear hK26
                                          refine V_condb rfl (fun c37 => ?_) (fun c37 => ?_)
                                          · skip
                                            cases c37
                                          · skip
                                            refine V_skipk [0] (by simp only [proj, lk, reduceIte, Nat.reduceEqDiff]; rfl) ?_
                                            refine hK25 _ _ ?_; clear hK25
                                            refine V_seq (fun K27 hK27 => ?_)
                                            refine V_sr T.mix (by kernel_rfl) (fun K28 hK28 => ?_)
                                            refine S_mv rfl ?_
                                            refine S_nc rfl ?_
                                            first | refine S_fa0 T.f50_3 rfl ?_ | refine S_fa T.f50_3 rfl ?_
                                            refine S_ldK T.ag4 rfl (fun K' hK' => ?_)
                                            simp (disch := omega) only [q0, q1, q2, q3, q4, q5, q6, q7, q8, q9, q10, q11, q12, q13, q14, q15, q16, q17, q18, q19, q20, oP_some, Nat.add_zero]
                                            refine hK' _ ?_; clear hK' K'
                                            refine S_nil (hK28 _ _ (V_keep [0, 210] (by simp only [proj, lk, reduceIte, Nat.reduceEqDiff]; rfl) ?_)); clear hK28
                                            refine V_condb rfl (fun c40 => ?_) (fun c40 => ?_)
                                            · skip
                                              refine V_sr T.mix (by kernel_rfl) (fun K29 hK29 => ?_)
                                              refine S_mv rfl ?_
                                              refine S_call T.hb40 rfl ?_
                                              obtain ⟨k1, k2, k3, k4⟩ := w_.hl (by assumption)
                                              refine FC.mono (checkfixed_spec h W r s ua ub sw k1 k2 k3 k4) ?_
                                              rintro v' h' ⟨rfl, rfl⟩
                                              refine S_as rfl ?_
                                              refine S_nil (hK29 _ _ (V_keep [2] (by simp only [proj, lk, reduceIte, Nat.reduceEqDiff]; rfl) ?_)); clear hK29
                                              refine V_ret ?_
                                              refine hR _ _ (ret1 rfl rfl ?_)
                                              first
                                                | (exfalso; omega)
                                                | exact ⟨rfl, rfl⟩
                                            · skip
                                              refine V_skipk [] (by simp only [proj, lk, reduceIte, Nat.reduceEqDiff]; rfl) ?_
                                              refine hK27 _ _ ?_; clear hK27
                                              refine V_sr T.mix (by kernel_rfl) (fun K30 hK30 => ?_)
                                              refine S_as rfl ?_
                                              refine S_nil (hK30 _ _ (V_keep [2] (by simp only [proj, lk, reduceIte, Nat.reduceEqDiff]; rfl) ?_)); clear hK30
                                              refine V_ret ?_
                                              refine hR _ _ (ret1 rfl rfl ?_)
                                              first
                                                | (exfalso; omega)
                                                | exact ⟨rfl, rfl⟩
end Go.Proofs.Qxb6500409aGreat
