import Derived.Test.Qxb6500405aWd
set_option linter.unusedVariables false
set_option linter.unusedSimpArgs false
namespace Go.Proofs.Qxb6500405a
open Go.Eng Go.Bits

theorem puts_all {h : Heap} {b : Nat} {cs cs' : Array Value} {t : TypeId} (hb : B h b cs t) (hs : cs'.size = cs.size) : B (putsH h b 0 cs'.toList) b cs' t := by
  obtain ⟨c2, e2, e3, e4, e5, e6, e7⟩ := putsH_eq cs'.toList 0 h cs hb (by simp; omega)
  refine e2.cong (Array.ext' (List.ext_getElem? fun i => ?_))
  by_cases hi : i < cs'.size
  · have := e4 i (by simpa using hi); simp at this ⊢; rw [this]
  · simp; rw [Array.getElem?_eq_none (by omega), Array.getElem?_eq_none (by omega)]
theorem st1 {s : TS} {k oa ob : Int} {os : ByteArray} (h : k = 1) : stepS s k oa ob os = ⟨0, 0, 0⟩ := by unfold stepS; rw [if_pos h]
theorem st2 {s : TS} {k oa ob : Int} {os : ByteArray} (h : k = 2) (hd : dueF s k oa ob os = 0) : stepS s k oa ob os = ⟨numS os, 8 * os.size, 0⟩ := by
  unfold dueF at hd; rw [if_pos h] at hd
  unfold stepS loadS; rw [if_neg (by omega), if_pos h, if_pos hd]
theorem st3 {s : TS} {k oa ob : Int} {os : ByteArray} (h : k = 3) (hd : dueF s k oa ob os = 0) : putE s.n oa ob = 0 ∧ stepS s k oa ob os = ⟨putN s.N oa.toNat s.n, s.n + ob.toNat, s.p⟩ := by
  unfold dueF at hd; rw [if_neg (by omega), if_pos h] at hd
  refine ⟨hd, ?_⟩
  unfold stepS putS; rw [if_neg (by omega), if_neg (by omega), if_pos h, if_pos hd]
theorem st4 {s : TS} {k oa ob : Int} {os : ByteArray} (h : k = 4) : stepS s k oa ob os = padS s := by
  unfold stepS; rw [if_neg (by omega), if_neg (by omega), if_neg (by omega), if_pos h]
theorem st5 {s : TS} {k oa ob : Int} {os : ByteArray} (h : k = 5 ∨ k = 6) (hd : dueF s k oa ob os = 0) : skipE s oa = 0 ∧ stepS s k oa ob os = ⟨s.N, s.n, s.p + oa.toNat⟩ := by
  unfold dueF at hd; rw [if_neg (by omega), if_neg (by omega), if_pos h] at hd
  refine ⟨hd, ?_⟩
  unfold stepS; rw [if_neg (by omega), if_neg (by omega), if_neg (by omega), if_neg (by omega), if_pos h, skipS_ok hd]
theorem st7 {s : TS} {k oa ob : Int} {os : ByteArray} (h : k = 7) : stepS s k oa ob os = syncS s := by
  unfold stepS; rw [if_neg (by omega), if_neg (by omega), if_neg (by omega), if_neg (by omega), if_neg (by omega), if_pos h]
theorem st0 {s : TS} {k oa ob : Int} {os : ByteArray} (h : k ≠ 1 ∧ k ≠ 2 ∧ k ≠ 3 ∧ k ≠ 4 ∧ k ≠ 5 ∧ k ≠ 6 ∧ k ≠ 7) : stepS s k oa ob os = s := by
  unfold stepS; rw [if_neg (by omega), if_neg (by omega), if_neg (by omega), if_neg (by omega), if_neg (by omega), if_neg (by omega)]
theorem skip0 {s : TS} {k : Int} (h : skipE s k = 0) : 0 ≤ k ∧ k ≤ 16 ∧ k ≤ s.n - s.p := by
  unfold skipE at h
  repeat' split at h
  all_goals omega
theorem txt_zero : txt 0 0 = ⟨#[]⟩ := rfl
set_option maxHeartbeats 1600000 in
theorem does_spec (h : Heap) (s s2 : TS) (hs : OK s) (k oa ob oc : Int) (os ot : ByteArray) (e w : Nat) (h2s : s2 = stepS s k oa ob os) (he : e = dueF s k oa ob os) (hw : w = stepV s k oa) :
    FC Try.prog 14 (#[.agg #[.int .i64 (s.p : Int), .int .i64 (s.n : Int), .string (txt s.N s.n)], .agg #[.int .i64 (s2.p : Int), .int .i64 (s2.n : Int), .string (txt s2.N s2.n)], .agg #[.int .i64 k, .int .i64 oa, .int .i64 ob, .int .i64 oc, .string os, .string ot], .int .i64 (e : Int), .int .i64 (w : Int)] : Array Value) h fun v h' => v = .bool true ∧ Ext (fun _ => False) h h' := by
  have hs2 : OK s2 := by rw [h2s]; exact OK.step hs _ _ _ _
  have ok2 := hs.2.1
  have ok3 := hs.2.2
  have ok22 := hs2.2.1
  have ok23 := hs2.2.2
  refine FC_of [(0, .agg #[.int .i64 (s.p : Int), .int .i64 (s.n : Int), .string (txt s.N s.n)]), (1, .agg #[.int .i64 (s2.p : Int), .int .i64 (s2.n : Int), .string (txt s2.N s2.n)]), (2, .agg #[.int .i64 k, .int .i64 oa, .int .i64 ob, .int .i64 oc, .string os, .string ot]), (3, .int .i64 (e : Int)), (4, .int .i64 (w : Int))] Try.func14 rfl Try.ntmps14 (by simp) rfl (fun R hR => ?_)
  refine V_sr T.mix (by kernel_rfl) (fun K1 hK1 => ?_)
  refine S_boxA rfl ?_
  generalize hh : Array.push h _ = h1
  have hA : B h1 h.size #[.int .i64 (s.p : Int), .int .i64 (s.n : Int), .string (txt s.N s.n)] 38 := by rw [← hh]; exact B.new _ _ _
  have hEh1 : Ext (fun _ => False) h h1 := by rw [← hh]; exact Ext.push _ _ _
  clear hh
  refine S_boxA rfl ?_
  generalize hh : Array.push h1 _ = h2
  have hC : B h2 h1.size #[.int .i64 (s2.p : Int), .int .i64 (s2.n : Int), .string (txt s2.N s2.n)] 38 := by rw [← hh]; exact B.new _ _ _
  have hEh2 : Ext (fun _ => False) h1 h2 := by rw [← hh]; exact Ext.push _ _ _
  clear hh
  refine S_boxA rfl ?_
  generalize hh : Array.push h2 _ = h3
  have hO : B h3 h2.size #[.int .i64 k, .int .i64 oa, .int .i64 ob, .int .i64 oc, .string os, .string ot] 36 := by rw [← hh]; exact B.new _ _ _
  have hEh3 : Ext (fun _ => False) h2 h3 := by rw [← hh]; exact Ext.push _ _ _
  clear hh
  replace hA := (hA.ext hEh2 (fun f => f)).ext hEh3 (fun f => f)
  replace hC := hC.ext hEh3 (fun f => f)
  have hE := (hEh1.trans hEh2).trans hEh3
  have hA0 : cellH h3 ⟨h.size, 0, none⟩ = some (.int .i64 (s.p : Int)) := hA.cell 0
  have hA1 : cellH h3 ⟨h.size, 1, none⟩ = some (.int .i64 (s.n : Int)) := hA.cell 1
  have hA2 : cellH h3 ⟨h.size, 2, none⟩ = some (.string (txt s.N s.n)) := hA.cell 2
  have hC0 : cellH h3 ⟨h1.size, 0, none⟩ = some (.int .i64 (s2.p : Int)) := hC.cell 0
  have hC1 : cellH h3 ⟨h1.size, 1, none⟩ = some (.int .i64 (s2.n : Int)) := hC.cell 1
  have hC2 : cellH h3 ⟨h1.size, 2, none⟩ = some (.string (txt s2.N s2.n)) := hC.cell 2
  have hO0 : cellH h3 ⟨h2.size, 0, none⟩ = some (.int .i64 k) := hO.cell 0
  have hO1 : cellH h3 ⟨h2.size, 1, none⟩ = some (.int .i64 oa) := hO.cell 1
  have hO2 : cellH h3 ⟨h2.size, 2, none⟩ = some (.int .i64 ob) := hO.cell 2
  have hO4 : cellH h3 ⟨h2.size, 4, none⟩ = some (.string os) := hO.cell 4
  refine S_as rfl ?_
  refine S_nil (hK1 _ _ (V_keep [3, 4, 5, 6, 7] (by simp only [proj, lk, reduceIte, Nat.reduceEqDiff]; rfl) ?_)); clear hK1
  refine V_seq (fun K2 hK2 => ?_)
  refine V_sr T.mix (by kernel_rfl) (fun K3 hK3 => ?_)
  refine S_ldn T.ag38 rfl (hC.all rfl) ?_
  refine S_call T.hb34 rfl ?_
  refine FC.mono (whole_spec h3 s2 hs2) ?_
  rintro v h4 ⟨rfl, hEh4⟩
  replace hA := hA.ext hEh4 (fun f => f)
  replace hC := hC.ext hEh4 (fun f => f)
  replace hO := hO.ext hEh4 (fun f => f)
  replace hE := hE.trans hEh4
  clear hA0 hA1 hA2 hC0 hC1 hC2 hO0 hO1 hO2 hO4
  have hA0 : cellH h4 ⟨h.size, 0, none⟩ = some (.int .i64 (s.p : Int)) := hA.cell 0
  have hA1 : cellH h4 ⟨h.size, 1, none⟩ = some (.int .i64 (s.n : Int)) := hA.cell 1
  have hA2 : cellH h4 ⟨h.size, 2, none⟩ = some (.string (txt s.N s.n)) := hA.cell 2
  have hC0 : cellH h4 ⟨h1.size, 0, none⟩ = some (.int .i64 (s2.p : Int)) := hC.cell 0
  have hC1 : cellH h4 ⟨h1.size, 1, none⟩ = some (.int .i64 (s2.n : Int)) := hC.cell 1
  have hC2 : cellH h4 ⟨h1.size, 2, none⟩ = some (.string (txt s2.N s2.n)) := hC.cell 2
  have hO0 : cellH h4 ⟨h2.size, 0, none⟩ = some (.int .i64 k) := hO.cell 0
  have hO1 : cellH h4 ⟨h2.size, 1, none⟩ = some (.int .i64 oa) := hO.cell 1
  have hO2 : cellH h4 ⟨h2.size, 2, none⟩ = some (.int .i64 ob) := hO.cell 2
  have hO4 : cellH h4 ⟨h2.size, 4, none⟩ = some (.string os) := hO.cell 4
  refine S_notb rfl ?_
  refine S_nil (hK3 _ _ (V_keep [3, 4, 5, 6, 7, 15] (by simp only [proj, lk, reduceIte, Nat.reduceEqDiff]; rfl) ?_)); clear hK3
  refine V_condb rfl (fun c127 => ?_) (fun c127 => ?_)
  · skip
    cases c127
  · skip
    refine V_skipk [3, 4, 5, 6, 7] (by simp only [proj, lk, reduceIte, Nat.reduceEqDiff]; rfl) ?_
    refine hK2 _ _ ?_; clear hK2
    refine V_seq (fun K4 hK4 => ?_)
    refine V_sr T.mix (by kernel_rfl) (fun K5 hK5 => ?_)
    refine S_mv rfl ?_
    refine S_ldn T.ag38 rfl (hA.all rfl) ?_
    refine S_ldn T.ag36 rfl (hO.all rfl) ?_
    refine S_call T.hb35 rfl ?_
    refine FC.mono (due_spec h4 s hs k oa ob oc os ot) ?_
    rintro v h5 ⟨rfl, hEh5⟩
    replace hA := hA.ext hEh5 (fun f => f)
    replace hC := hC.ext hEh5 (fun f => f)
    replace hO := hO.ext hEh5 (fun f => f)
    replace hE := hE.trans hEh5
    clear hA0 hA1 hA2 hC0 hC1 hC2 hO0 hO1 hO2 hO4
    have hA0 : cellH h5 ⟨h.size, 0, none⟩ = some (.int .i64 (s.p : Int)) := hA.cell 0
    have hA1 : cellH h5 ⟨h.size, 1, none⟩ = some (.int .i64 (s.n : Int)) := hA.cell 1
    have hA2 : cellH h5 ⟨h.size, 2, none⟩ = some (.string (txt s.N s.n)) := hA.cell 2
    have hC0 : cellH h5 ⟨h1.size, 0, none⟩ = some (.int .i64 (s2.p : Int)) := hC.cell 0
    have hC1 : cellH h5 ⟨h1.size, 1, none⟩ = some (.int .i64 (s2.n : Int)) := hC.cell 1
    have hC2 : cellH h5 ⟨h1.size, 2, none⟩ = some (.string (txt s2.N s2.n)) := hC.cell 2
    have hO0 : cellH h5 ⟨h2.size, 0, none⟩ = some (.int .i64 k) := hO.cell 0
    have hO1 : cellH h5 ⟨h2.size, 1, none⟩ = some (.int .i64 oa) := hO.cell 1
    have hO2 : cellH h5 ⟨h2.size, 2, none⟩ = some (.int .i64 ob) := hO.cell 2
    have hO4 : cellH h5 ⟨h2.size, 4, none⟩ = some (.string os) := hO.cell 4
    refine S_bin rfl rfl rfl ?_
    refine S_nil (hK5 _ _ (V_keep [3, 4, 5, 6, 7, 20] (by simp only [proj, lk, reduceIte, Nat.reduceEqDiff]; rfl) ?_)); clear hK5
    refine V_condp rfl (fun c130 => ?_) (fun c130 => ?_)
    · skip
      exfalso; omega
    · skip
      refine V_skipk [3, 4, 5, 6, 7] (by simp only [proj, lk, reduceIte, Nat.reduceEqDiff]; rfl) ?_
      refine hK4 _ _ ?_; clear hK4
      refine V_seq (fun K6 hK6 => ?_)
      refine V_sr T.mix (by kernel_rfl) (fun K7 hK7 => ?_)
      refine S_mv rfl ?_
      refine S_bin rfl rfl rfl ?_
      refine S_nil (hK7 _ _ (V_keep [4, 5, 6, 7, 22] (by simp only [proj, lk, reduceIte, Nat.reduceEqDiff]; rfl) ?_)); clear hK7
      refine V_condp rfl (fun c133 => ?_) (fun c133 => ?_)
      · skip
        have hst := stepS_err (s := s) (k := k) (oa := oa) (ob := ob) (os := os) (by omega)
        rw [← h2s] at hst
        refine V_sr T.mix (by kernel_rfl) (fun K8 hK8 => ?_)
        refine S_mv rfl ?_
        refine S_bin rfl rfl rfl ?_
        refine S_mv rfl ?_
        refine S_dec (fun g134 => ?_) (fun g134 => ?_)
        · skip
          refine S_gt rfl ?_
          refine S_ldn T.ag38 rfl (hA.all rfl) ?_
          refine S_gt rfl ?_
          refine S_ldn T.ag38 rfl (hC.all rfl) ?_
          refine S_gt rfl ?_
          first | refine S_fa0 T.f38_0 rfl ?_ | refine S_fa T.f38_0 rfl ?_
          refine S_gt rfl ?_
          refine S_ldK T.ag3 rfl (fun K' hK' => ?_)
          simp (disch := omega) only [hA0, hA1, hA2, hC0, hC1, hC2, hO0, hO1, hO2, hO4, oP_some, Nat.add_zero]
          refine hK' _ ?_; clear hK' K'
          refine S_gt rfl ?_
          refine S_call T.hb36 rfl ?_
          refine FC.mono (moved_spec h5 s s2 s.p (by rw [hst.1]) (by rw [hst.1]) (by rw [hst.1])) ?_
          rintro v h6 ⟨rfl, hEh6⟩
          refine S_pt rfl rfl ?_
          refine S_as rfl ?_
          refine S_nil (hK8 _ _ (V_keep [10] (by simp only [proj, lk, reduceIte, Nat.reduceEqDiff]; rfl) ?_)); clear hK8
          refine V_ret ?_
          refine hR _ _ (ret1 rfl rfl ?_)
          exact ⟨rfl, hE.trans hEh6⟩
        · skip
          exfalso; omega
      · skip
        refine V_skipk [4, 5, 6, 7] (by simp only [proj, lk, reduceIte, Nat.reduceEqDiff]; rfl) ?_
        refine hK6 _ _ ?_; clear hK6
        refine V_seq (fun K9 hK9 => ?_)
        refine V_sr T.mix (by kernel_rfl) (fun K10 hK10 => ?_)
        first | refine S_fa0 T.f36_0 rfl ?_ | refine S_fa T.f36_0 rfl ?_
        refine S_ldK T.ag3 rfl (fun K' hK' => ?_)
        simp (disch := omega) only [hA0, hA1, hA2, hC0, hC1, hC2, hO0, hO1, hO2, hO4, oP_some, Nat.add_zero]
        refine hK' _ ?_; clear hK' K'
        refine S_nil (hK10 _ _ (V_keep [4, 5, 6, 7, 33] (by simp only [proj, lk, reduceIte, Nat.reduceEqDiff]; rfl) ?_)); clear hK10
        refine V_block ?_
        refine V_sr T.mix (by kernel_rfl) (fun K11 hK11 => ?_)
        refine S_bin rfl rfl rfl ?_
        refine S_as rfl ?_
        refine S_nil (hK11 _ _ (V_keep [4, 5, 6, 7, 33, 34] (by simp only [proj, lk, reduceIte, Nat.reduceEqDiff]; rfl) ?_)); clear hK11
        refine V_condp rfl (fun c137 => ?_) (fun c137 => ?_)
        · skip
          have e2 : s2 = ⟨0, 0, 0⟩ := by rw [h2s, st1 c137]
          have e2p : s2.p = 0 := by rw [e2]
          have e2n : s2.n = 0 := by rw [e2]
          refine V_sr T.mix (by kernel_rfl) (fun K12 hK12 => ?_)
          first | refine S_fa0 T.f38_0 rfl ?_ | refine S_fa T.f38_0 rfl ?_
          refine S_ldK T.ag3 rfl (fun K' hK' => ?_)
          simp (disch := omega) only [hA0, hA1, hA2, hC0, hC1, hC2, hO0, hO1, hO2, hO4, oP_some, Nat.add_zero]
          refine hK' _ ?_; clear hK' K'
          refine S_bin rfl rfl rfl ?_
          refine S_mv rfl ?_
          refine S_dec (fun g138 => ?_) (fun g138 => ?_)
          · skip
            refine S_gt rfl ?_
            first | refine S_fa0 T.f38_1 rfl ?_ | refine S_fa T.f38_1 rfl ?_
            refine S_gt rfl ?_
            refine S_ldK T.ag3 rfl (fun K' hK' => ?_)
            simp (disch := omega) only [hA0, hA1, hA2, hC0, hC1, hC2, hO0, hO1, hO2, hO4, oP_some, Nat.add_zero]
            refine hK' _ ?_; clear hK' K'
            refine S_gt rfl ?_
            refine S_bin rfl rfl rfl ?_
            refine S_pt rfl rfl ?_
            refine S_as rfl ?_
            refine S_nil (hK12 _ _ (V_keep [10] (by simp only [proj, lk, reduceIte, Nat.reduceEqDiff]; rfl) ?_)); clear hK12
            refine V_ret ?_
            refine hR _ _ (ret1 rfl rfl ?_)
            exact ⟨by rw [e2n]; simp, hE⟩
          · skip
            exfalso; omega
        · skip
          refine V_sr T.mix (by kernel_rfl) (fun K13 hK13 => ?_)
          refine S_bin rfl rfl rfl ?_
          refine S_as rfl ?_
          refine S_nil (hK13 _ _ (V_keep [4, 5, 6, 7, 33, 44] (by simp only [proj, lk, reduceIte, Nat.reduceEqDiff]; rfl) ?_)); clear hK13
          refine V_condp rfl (fun c139 => ?_) (fun c139 => ?_)
          · skip
            have e2 : s2 = ⟨numS os, 8 * os.size, 0⟩ := by rw [h2s, st2 c139 (by omega)]
            have e2p : s2.p = 0 := by rw [e2]
            have e2n : s2.n = 8 * os.size := by rw [e2]
            have e2t : txt s2.N s2.n = os := by rw [e2]; exact numS_txt os
            refine V_sr T.mix (by kernel_rfl) (fun K14 hK14 => ?_)
            first | refine S_fa0 T.f38_0 rfl ?_ | refine S_fa T.f38_0 rfl ?_
            refine S_ldK T.ag3 rfl (fun K' hK' => ?_)
            simp (disch := omega) only [hA0, hA1, hA2, hC0, hC1, hC2, hO0, hO1, hO2, hO4, oP_some, Nat.add_zero]
            refine hK' _ ?_; clear hK' K'
            refine S_bin rfl rfl rfl ?_
            refine S_mv rfl ?_
            refine S_dec (fun g140 => ?_) (fun g140 => ?_)
            · skip
              refine S_gt rfl ?_
              first | refine S_fa0 T.f38_1 rfl ?_ | refine S_fa T.f38_1 rfl ?_
              refine S_gt rfl ?_
              refine S_ldK T.ag3 rfl (fun K' hK' => ?_)
              simp (disch := omega) only [hA0, hA1, hA2, hC0, hC1, hC2, hO0, hO1, hO2, hO4, oP_some, Nat.add_zero]
              refine hK' _ ?_; clear hK' K'
              refine S_gt rfl ?_
              first | refine S_fa0 T.f36_4 rfl ?_ | refine S_fa T.f36_4 rfl ?_
              refine S_gt rfl ?_
              refine S_ldK T.ag9 rfl (fun K' hK' => ?_)
              simp (disch := omega) only [hA0, hA1, hA2, hC0, hC1, hC2, hO0, hO1, hO2, hO4, oP_some, Nat.add_zero]
              refine hK' _ ?_; clear hK' K'
              refine S_gt rfl ?_
              refine S_lens T.kd9 rfl ?_
              refine S_gt rfl ?_
              first | refine S_mul rfl rfl (by omega) (by omega) ?_ | refine S_bin rfl rfl rfl ?_
              refine S_gt rfl ?_
              refine S_bin rfl rfl rfl ?_
              refine S_pt rfl rfl ?_
              refine S_mv rfl ?_
              refine S_dec (fun g140a => ?_) (fun g140a => ?_)
              · skip
                refine S_gt rfl ?_
                first | refine S_fa0 T.f38_2 rfl ?_ | refine S_fa T.f38_2 rfl ?_
                refine S_gt rfl ?_
                refine S_ldK T.ag9 rfl (fun K' hK' => ?_)
                simp (disch := omega) only [hA0, hA1, hA2, hC0, hC1, hC2, hO0, hO1, hO2, hO4, oP_some, Nat.add_zero]
                refine hK' _ ?_; clear hK' K'
                refine S_gt rfl ?_
                first | refine S_fa0 T.f36_4 rfl ?_ | refine S_fa T.f36_4 rfl ?_
                refine S_gt rfl ?_
                refine S_ldK T.ag9 rfl (fun K' hK' => ?_)
                simp (disch := omega) only [hA0, hA1, hA2, hC0, hC1, hC2, hO0, hO1, hO2, hO4, oP_some, Nat.add_zero]
                refine hK' _ ?_; clear hK' K'
                refine S_gt rfl ?_
                refine S_bin rfl rfl rfl ?_
                refine S_pt rfl rfl ?_
                refine S_as rfl ?_
                refine S_nil (hK14 _ _ (V_keep [10] (by simp only [proj, lk, reduceIte, Nat.reduceEqDiff]; rfl) ?_)); clear hK14
                refine V_ret ?_
                refine hR _ _ (ret1 rfl rfl ?_)
                exact ⟨by rw [e2t]; simp, hE⟩
              · skip
                exfalso; omega
            · skip
              exfalso; omega
          · skip
            refine V_sr T.mix (by kernel_rfl) (fun K15 hK15 => ?_)
            refine S_bin rfl rfl rfl ?_
            refine S_as rfl ?_
            refine S_nil (hK15 _ _ (V_keep [4, 5, 6, 7, 33, 65] (by simp only [proj, lk, reduceIte, Nat.reduceEqDiff]; rfl) ?_)); clear hK15
            refine V_condp rfl (fun c141 => ?_) (fun c141 => ?_)
            · skip
              obtain ⟨hpe, e3⟩ := st3 (s := s) (oa := oa) (ob := ob) (os := os) c141 (by omega)
              have hpo := putE_ok hpe
              have hv16 := (put_w (n := 0) hpo.2.2.2.1 (by omega)).1
              rw [← h2s] at e3
              have e2N : s2.N = putN s.N oa.toNat s.n := by rw [e3]
              have e2n : (s2.n : Int) = s.n + ob := by rw [e3]; simp; omega
              have e2p : s2.p = s.p := by rw [e3]
              refine V_sr T.mix (by kernel_rfl) (fun K16 hK16 => ?_)
              refine S_ldn T.ag38 rfl (hA.all rfl) ?_
              refine S_ldn T.ag38 rfl (hC.all rfl) ?_
              first | refine S_fa0 T.f36_1 rfl ?_ | refine S_fa T.f36_1 rfl ?_
              refine S_ldK T.ag3 rfl (fun K' hK' => ?_)
              simp (disch := omega) only [hA0, hA1, hA2, hC0, hC1, hC2, hO0, hO1, hO2, hO4, oP_some, Nat.add_zero]
              refine hK' _ ?_; clear hK' K'
              first | refine S_fa0 T.f36_2 rfl ?_ | refine S_fa T.f36_2 rfl ?_
              refine S_ldK T.ag3 rfl (fun K' hK' => ?_)
              simp (disch := omega) only [hA0, hA1, hA2, hC0, hC1, hC2, hO0, hO1, hO2, hO4, oP_some, Nat.add_zero]
              refine hK' _ ?_; clear hK' K'
              refine S_call T.hb37 rfl ?_
              refine FC.mono (grown_spec h5 s s2 hs hs2 oa ob (by omega) (by omega) (by omega) hv16 e2N e2n e2p) ?_
              rintro v h6 ⟨rfl, hEh6⟩
              refine S_as rfl ?_
              refine S_nil (hK16 _ _ (V_keep [10] (by simp only [proj, lk, reduceIte, Nat.reduceEqDiff]; rfl) ?_)); clear hK16
              refine V_ret ?_
              refine hR _ _ (ret1 rfl rfl ?_)
              exact ⟨rfl, hE.trans hEh6⟩
            · skip
              refine V_sr T.mix (by kernel_rfl) (fun K17 hK17 => ?_)
              refine S_bin rfl rfl rfl ?_
              refine S_as rfl ?_
              refine S_nil (hK17 _ _ (V_keep [4, 5, 6, 7, 33, 74] (by simp only [proj, lk, reduceIte, Nat.reduceEqDiff]; rfl) ?_)); clear hK17
              refine V_condp rfl (fun c143 => ?_) (fun c143 => ?_)
              · skip
                have e2 : s2 = padS s := by rw [h2s, st4 c143]
                have e2N : s2.N = putN s.N (Int.toNat 0) s.n := by rw [e2]; exact (putN_zero _ _).symm
                have e2n : s2.n = (s.n + 7) / 8 * 8 := by rw [e2]; rfl
                have e2p : s2.p = s.p := by rw [e2]; rfl
                refine V_sr T.mix (by kernel_rfl) (fun K18 hK18 => ?_)
                first | refine S_fa0 T.f38_1 rfl ?_ | refine S_fa T.f38_1 rfl ?_
                refine S_ldK T.ag3 rfl (fun K' hK' => ?_)
                simp (disch := omega) only [hA0, hA1, hA2, hC0, hC1, hC2, hO0, hO1, hO2, hO4, oP_some, Nat.add_zero]
                refine hK' _ ?_; clear hK' K'
                refine S_call T.hb38 rfl ?_
                refine FC.mono (up8_spec h5 s.n (by omega) (by omega)) ?_
                rintro v h' ⟨rfl, rfl⟩
                refine S_as rfl ?_
                refine S_nil (hK18 _ _ (V_keep [5, 6, 11] (by simp only [proj, lk, reduceIte, Nat.reduceEqDiff]; rfl) ?_)); clear hK18
                refine V_sr T.mix (by kernel_rfl) (fun K19 hK19 => ?_)
                refine S_ldn T.ag38 rfl (hA.all rfl) ?_
                refine S_ldn T.ag38 rfl (hC.all rfl) ?_
                refine S_mv rfl ?_
                first | refine S_fa0 T.f38_1 rfl ?_ | refine S_fa T.f38_1 rfl ?_
                refine S_ldK T.ag3 rfl (fun K' hK' => ?_)
                simp (disch := omega) only [hA0, hA1, hA2, hC0, hC1, hC2, hO0, hO1, hO2, hO4, oP_some, Nat.add_zero]
                refine hK' _ ?_; clear hK' K'
                first | refine S_sub rfl rfl (by omega) (by omega) ?_ | refine S_bin rfl rfl rfl ?_
                refine S_call T.hb37 rfl ?_
                refine FC.mono (grown_spec h5 s s2 hs hs2 0 _ (by omega) (by omega) (by omega) (by simp) e2N (by omega) e2p) ?_
                rintro v h6 ⟨rfl, hEh6⟩
                refine S_as rfl ?_
                refine S_nil (hK19 _ _ (V_keep [10] (by simp only [proj, lk, reduceIte, Nat.reduceEqDiff]; rfl) ?_)); clear hK19
                refine V_ret ?_
                refine hR _ _ (ret1 rfl rfl ?_)
                exact ⟨rfl, hE.trans hEh6⟩
              · skip
                refine V_sr T.mix (by kernel_rfl) (fun K20 hK20 => ?_)
                refine S_bin rfl rfl rfl ?_
                refine S_as rfl ?_
                refine S_nil (hK20 _ _ (V_keep [4, 5, 6, 7, 33, 86] (by simp only [proj, lk, reduceIte, Nat.reduceEqDiff]; rfl) ?_)); clear hK20
                refine V_condp rfl (fun c146 => ?_) (fun c146 => ?_)
                · skip
                  obtain ⟨hse, e3⟩ := st5 (s := s) (oa := oa) (ob := ob) (os := os) (.inl c146) (by omega)
                  have hsk := skip0 hse
                  rw [← h2s] at e3
                  have hwv : w = peekN s.N s.p oa.toNat := by rw [hw]; unfold stepV; rw [if_pos c146, takeV_ok hse]
                  have e2N : s2.N = s.N := by rw [e3]
                  have e2n : s2.n = s.n := by rw [e3]
                  have e2p : s2.p = s.p + oa.toNat := by rw [e3]
                  obtain ⟨g, rfl⟩ : ∃ g : Nat, oa = g := ⟨oa.toNat, by omega⟩
                  simp only [Int.toNat_natCast] at hwv e2p
                  refine V_seq (fun K21 hK21 => ?_)
                  refine V_sr T.mix (by kernel_rfl) (fun K22 hK22 => ?_)
                  refine S_mv rfl ?_
                  refine S_ldn T.ag38 rfl (hA.all rfl) ?_
                  first | refine S_fa0 T.f36_1 rfl ?_ | refine S_fa T.f36_1 rfl ?_
                  refine S_ldK T.ag3 rfl (fun K' hK' => ?_)
                  simp (disch := omega) only [hA0, hA1, hA2, hC0, hC1, hC2, hO0, hO1, hO2, hO4, oP_some, Nat.add_zero]
                  refine hK' _ ?_; clear hK' K'
                  refine S_call T.hb39 rfl ?_
                  refine FC.mono (next_spec h5 s hs g (by omega) (by omega)) ?_
                  rintro v h6 ⟨rfl, hEh6⟩
                  replace hA := hA.ext hEh6 (fun f => f)
                  replace hC := hC.ext hEh6 (fun f => f)
                  replace hO := hO.ext hEh6 (fun f => f)
                  replace hE := hE.trans hEh6
                  clear hA0 hA1 hA2 hC0 hC1 hC2 hO0 hO1 hO2 hO4
                  have hA0 : cellH h6 ⟨h.size, 0, none⟩ = some (.int .i64 (s.p : Int)) := hA.cell 0
                  have hA1 : cellH h6 ⟨h.size, 1, none⟩ = some (.int .i64 (s.n : Int)) := hA.cell 1
                  have hA2 : cellH h6 ⟨h.size, 2, none⟩ = some (.string (txt s.N s.n)) := hA.cell 2
                  have hC0 : cellH h6 ⟨h1.size, 0, none⟩ = some (.int .i64 (s2.p : Int)) := hC.cell 0
                  have hC1 : cellH h6 ⟨h1.size, 1, none⟩ = some (.int .i64 (s2.n : Int)) := hC.cell 1
                  have hC2 : cellH h6 ⟨h1.size, 2, none⟩ = some (.string (txt s2.N s2.n)) := hC.cell 2
                  have hO0 : cellH h6 ⟨h2.size, 0, none⟩ = some (.int .i64 k) := hO.cell 0
                  have hO1 : cellH h6 ⟨h2.size, 1, none⟩ = some (.int .i64 (g : Int)) := hO.cell 1
                  have hO2 : cellH h6 ⟨h2.size, 2, none⟩ = some (.int .i64 ob) := hO.cell 2
                  have hO4 : cellH h6 ⟨h2.size, 4, none⟩ = some (.string os) := hO.cell 4
                  refine S_bin rfl rfl rfl ?_
                  refine S_nil (hK22 _ _ (V_keep [5, 6, 7, 93] (by simp only [proj, lk, reduceIte, Nat.reduceEqDiff]; rfl) ?_)); clear hK22
                  refine V_condp rfl (fun c147 => ?_) (fun c147 => ?_)
                  · skip
                    exfalso; exact c147 (by rw [hwv])
                  · skip
                    refine V_skipk [5, 6, 7] (by simp only [proj, lk, reduceIte, Nat.reduceEqDiff]; rfl) ?_
                    refine hK21 _ _ ?_; clear hK21
                    refine V_sr T.mix (by kernel_rfl) (fun K23 hK23 => ?_)
                    refine S_ldn T.ag38 rfl (hA.all rfl) ?_
                    refine S_ldn T.ag38 rfl (hC.all rfl) ?_
                    first | refine S_fa0 T.f38_0 rfl ?_ | refine S_fa T.f38_0 rfl ?_
                    refine S_ldK T.ag3 rfl (fun K' hK' => ?_)
                    simp (disch := omega) only [hA0, hA1, hA2, hC0, hC1, hC2, hO0, hO1, hO2, hO4, oP_some, Nat.add_zero]
                    refine hK' _ ?_; clear hK' K'
                    first | refine S_fa0 T.f36_1 rfl ?_ | refine S_fa T.f36_1 rfl ?_
                    refine S_ldK T.ag3 rfl (fun K' hK' => ?_)
                    simp (disch := omega) only [hA0, hA1, hA2, hC0, hC1, hC2, hO0, hO1, hO2, hO4, oP_some, Nat.add_zero]
                    refine hK' _ ?_; clear hK' K'
                    first | refine S_add rfl rfl (by omega) (by omega) ?_ | refine S_bin rfl rfl rfl ?_
                    refine S_call T.hb36 rfl ?_
                    refine FC.mono (moved_spec h6 s s2 (s.p + g) e2N e2n (by omega)) ?_
                    rintro v h7 ⟨rfl, hEh7⟩
                    refine S_as rfl ?_
                    refine S_nil (hK23 _ _ (V_keep [10] (by simp only [proj, lk, reduceIte, Nat.reduceEqDiff]; rfl) ?_)); clear hK23
                    refine V_ret ?_
                    refine hR _ _ (ret1 rfl rfl ?_)
                    exact ⟨rfl, hE.trans hEh7⟩
                · skip
                  refine V_sr T.mix (by kernel_rfl) (fun K24 hK24 => ?_)
                  refine S_bin rfl rfl rfl ?_
                  refine S_as rfl ?_
                  refine S_nil (hK24 _ _ (V_keep [5, 6, 7, 33, 102] (by simp only [proj, lk, reduceIte, Nat.reduceEqDiff]; rfl) ?_)); clear hK24
                  refine V_condp rfl (fun c151 => ?_) (fun c151 => ?_)
                  · skip
                    obtain ⟨hse, e3⟩ := st5 (s := s) (oa := oa) (ob := ob) (os := os) (.inr c151) (by omega)
                    have hsk := skip0 hse
                    rw [← h2s] at e3
                    have e2N : s2.N = s.N := by rw [e3]
                    have e2n : s2.n = s.n := by rw [e3]
                    have e2p : s2.p = s.p + oa.toNat := by rw [e3]
                    refine V_sr T.mix (by kernel_rfl) (fun K25 hK25 => ?_)
                    refine S_ldn T.ag38 rfl (hA.all rfl) ?_
                    refine S_ldn T.ag38 rfl (hC.all rfl) ?_
                    first | refine S_fa0 T.f38_0 rfl ?_ | refine S_fa T.f38_0 rfl ?_
                    refine S_ldK T.ag3 rfl (fun K' hK' => ?_)
                    simp (disch := omega) only [hA0, hA1, hA2, hC0, hC1, hC2, hO0, hO1, hO2, hO4, oP_some, Nat.add_zero]
                    refine hK' _ ?_; clear hK' K'
                    first | refine S_fa0 T.f36_1 rfl ?_ | refine S_fa T.f36_1 rfl ?_
                    refine S_ldK T.ag3 rfl (fun K' hK' => ?_)
                    simp (disch := omega) only [hA0, hA1, hA2, hC0, hC1, hC2, hO0, hO1, hO2, hO4, oP_some, Nat.add_zero]
                    refine hK' _ ?_; clear hK' K'
                    first | refine S_add rfl rfl (by omega) (by omega) ?_ | refine S_bin rfl rfl rfl ?_
                    refine S_call T.hb36 rfl ?_
                    refine FC.mono (moved_spec h5 s s2 (s.p + oa) e2N e2n (by omega)) ?_
                    rintro v h6 ⟨rfl, hEh6⟩
                    refine S_as rfl ?_
                    refine S_nil (hK25 _ _ (V_keep [10] (by simp only [proj, lk, reduceIte, Nat.reduceEqDiff]; rfl) ?_)); clear hK25
                    refine V_ret ?_
                    refine hR _ _ (ret1 rfl rfl ?_)
                    exact ⟨rfl, hE.trans hEh6⟩
                  · skip
                    refine V_sr T.mix (by kernel_rfl) (fun K26 hK26 => ?_)
                    refine S_bin rfl rfl rfl ?_
                    refine S_as rfl ?_
                    refine S_nil (hK26 _ _ (V_keep [5, 6, 112] (by simp only [proj, lk, reduceIte, Nat.reduceEqDiff]; rfl) ?_)); clear hK26
                    refine V_condp rfl (fun c153 => ?_) (fun c153 => ?_)
                    · skip
                      have e2 : s2 = syncS s := by rw [h2s, st7 c153]
                      have e2N : s2.N = s.N := by rw [e2]; rfl
                      have e2n : s2.n = s.n := by rw [e2]; rfl
                      have e2p : s2.p = min s.n ((s.p + 7) / 8 * 8) := by rw [e2]; rfl
                      refine V_sr T.mix (by kernel_rfl) (fun K27 hK27 => ?_)
                      first | refine S_fa0 T.f38_0 rfl ?_ | refine S_fa T.f38_0 rfl ?_
                      refine S_ldK T.ag3 rfl (fun K' hK' => ?_)
                      simp (disch := omega) only [hA0, hA1, hA2, hC0, hC1, hC2, hO0, hO1, hO2, hO4, oP_some, Nat.add_zero]
                      refine hK' _ ?_; clear hK' K'
                      refine S_call T.hb38 rfl ?_
                      refine FC.mono (up8_spec h5 s.p (by omega) (by omega)) ?_
                      rintro v h' ⟨rfl, rfl⟩
                      refine S_as rfl ?_
                      refine S_nil (hK27 _ _ (V_keep [5, 6, 12] (by simp only [proj, lk, reduceIte, Nat.reduceEqDiff]; rfl) ?_)); clear hK27
                      refine V_seqJ (fun l h' => ∃ (to : Int), (to = min s.n ((s.p + 7) / 8 * 8)) ∧ l = [(5, .pointer (some ⟨h.size, 0, none⟩)), (6, .pointer (some ⟨h1.size, 0, none⟩)), (12, .int .i64 to)] ∧ h5 = h') ?_ ?_
                      · skip
                        refine V_sr T.mix (by kernel_rfl) (fun K29 hK29 => ?_)
                        refine S_mv rfl ?_
                        first | refine S_fa0 T.f38_1 rfl ?_ | refine S_fa T.f38_1 rfl ?_
                        refine S_ldK T.ag3 rfl (fun K' hK' => ?_)
                        simp (disch := omega) only [hA0, hA1, hA2, hC0, hC1, hC2, hO0, hO1, hO2, hO4, oP_some, Nat.add_zero]
                        refine hK' _ ?_; clear hK' K'
                        refine S_bin rfl rfl rfl ?_
                        refine S_nil (hK29 _ _ (V_keep [5, 6, 12, 120] (by simp only [proj, lk, reduceIte, Nat.reduceEqDiff]; rfl) ?_)); clear hK29
                        refine V_condp rfl (fun c155 => ?_) (fun c155 => ?_)
                        · skip
                          refine V_reg T.mix (by kernel_rfl) ?_
                          first | refine S_fa0 T.f38_1 rfl ?_ | refine S_fa T.f38_1 rfl ?_
                          refine S_ldK T.ag3 rfl (fun K' hK' => ?_)
                          simp (disch := omega) only [hA0, hA1, hA2, hC0, hC1, hC2, hO0, hO1, hO2, hO4, oP_some, Nat.add_zero]
                          refine hK' _ ?_; clear hK' K'
                          refine S_as rfl ?_
                          refine S_nilk [5, 6, 12] (by simp only [proj, lk, reduceIte, Nat.reduceEqDiff]; rfl) ?_
                          exact ⟨_, by omega, rfl, rfl⟩
                        · skip
                          refine V_skipk [5, 6, 12] (by simp only [proj, lk, reduceIte, Nat.reduceEqDiff]; rfl) ?_
                          exact ⟨_, by omega, rfl, rfl⟩
                      rintro l h' ⟨to, hto, rfl, rfl⟩
                      refine V_sr T.mix (by kernel_rfl) (fun K30 hK30 => ?_)
                      refine S_ldn T.ag38 rfl (hA.all rfl) ?_
                      refine S_ldn T.ag38 rfl (hC.all rfl) ?_
                      refine S_mv rfl ?_
                      refine S_call T.hb36 rfl ?_
                      refine FC.mono (moved_spec h5 s s2 to e2N e2n (by omega)) ?_
                      rintro v h6 ⟨rfl, hEh6⟩
                      refine S_as rfl ?_
                      refine S_nil (hK30 _ _ (V_keep [10] (by simp only [proj, lk, reduceIte, Nat.reduceEqDiff]; rfl) ?_)); clear hK30
                      refine V_ret ?_
                      refine hR _ _ (ret1 rfl rfl ?_)
                      exact ⟨rfl, hE.trans hEh6⟩
                    · skip
                      have hst0 : s2 = s := by rw [h2s, st0 (by omega)]
                      refine V_skipk [5, 6] (by simp only [proj, lk, reduceIte, Nat.reduceEqDiff]; rfl) ?_
                      refine hK9 _ _ ?_; clear hK9
                      refine V_sr T.mix (by kernel_rfl) (fun K31 hK31 => ?_)
                      refine S_ldn T.ag38 rfl (hA.all rfl) ?_
                      refine S_ldn T.ag38 rfl (hC.all rfl) ?_
                      first | refine S_fa0 T.f38_0 rfl ?_ | refine S_fa T.f38_0 rfl ?_
                      refine S_ldK T.ag3 rfl (fun K' hK' => ?_)
                      simp (disch := omega) only [hA0, hA1, hA2, hC0, hC1, hC2, hO0, hO1, hO2, hO4, oP_some, Nat.add_zero]
                      refine hK' _ ?_; clear hK' K'
                      refine S_call T.hb36 rfl ?_
                      refine FC.mono (moved_spec h5 s s2 s.p (by rw [hst0]) (by rw [hst0]) (by rw [hst0])) ?_
                      rintro v h6 ⟨rfl, hEh6⟩
                      refine S_as rfl ?_
                      refine S_nil (hK31 _ _ (V_keep [10] (by simp only [proj, lk, reduceIte, Nat.reduceEqDiff]; rfl) ?_)); clear hK31
                      refine V_ret ?_
                      refine hR _ _ (ret1 rfl rfl ?_)
                      exact ⟨rfl, hE.trans hEh6⟩
set_option maxHeartbeats 400000 in
theorem shotof_spec (h : Heap) (M : Nat) (a : Option Addr) (cap : Nat) (s : TS) (mt : MT h M a cap s) :
    FC Try.prog 12 (#[.pointer (some ⟨M, 0, none⟩)] : Array Value) h fun v h' => v = .agg #[.int .i64 (s.p : Int), .int .i64 (s.n : Int), .string (txt s.N s.n)] ∧ Ext (fun _ => False) h h' := by
  have hM := mt.t.lt
  refine FC_of [(0, .pointer (some ⟨M, 0, none⟩))] Try.func12 rfl Try.ntmps12 (by simp) rfl (fun R hR => ?_)
  refine V_sr T.mix (by kernel_rfl) (fun K1 hK1 => ?_)
  refine S_allocA T.z38 ?_
  generalize hh : Array.push h _ = h1
  have hR0 : B h1 h.size #[.int .i64 0, .int .i64 0, .string ⟨#[]⟩] 38 := by rw [← hh]; exact B.new _ _ _
  have hE1 : Ext (fun _ => False) h h1 := by rw [← hh]; exact Ext.push _ _ _
  clear hh
  have m1 := mt.ext hE1 (fun f => f) (fun _ _ f => f)
  refine S_nil (hK1 _ _ (V_keep [0, 2] (by simp only [proj, lk, reduceIte, Nat.reduceEqDiff]; rfl) ?_)); clear hK1
  refine V_sr T.mix (by kernel_rfl) (fun K2 hK2 => ?_)
  refine S_mv rfl ?_
  refine S_call T.hb21 rfl ?_
  refine FC.mono (mpos_spec h1 M a cap s m1) ?_
  rintro v h' ⟨rfl, rfl⟩
  refine S_as rfl ?_
  refine S_nil (hK2 _ _ (V_keep [0, 2, 3] (by simp only [proj, lk, reduceIte, Nat.reduceEqDiff]; rfl) ?_)); clear hK2
  refine V_sr T.mix (by kernel_rfl) (fun K3 hK3 => ?_)
  refine S_mv rfl ?_
  refine S_call T.hb22 rfl ?_
  refine FC.mono (mlen_spec h1 M a cap s m1) ?_
  rintro v h' ⟨rfl, rfl⟩
  refine S_as rfl ?_
  refine S_nil (hK3 _ _ (V_keep [0, 2, 3, 4] (by simp only [proj, lk, reduceIte, Nat.reduceEqDiff]; rfl) ?_)); clear hK3
  refine V_sr T.mix (by kernel_rfl) (fun K4 hK4 => ?_)
  refine S_mv rfl ?_
  refine S_call T.hb23 rfl ?_
  refine FC.mono (mtext_spec h1 M a cap s m1) ?_
  rintro v h2 ⟨rfl, hE2⟩
  have hR2 := hR0.ext hE2 (fun f => f)
  have kok : ∀ j, j < 3 → okPut h2 ⟨h.size, j, none⟩ = true := fun j hj => hR2.ok (by simpa using hj)
  refine S_as rfl ?_
  refine S_nil (hK4 _ _ (V_keep [2, 3, 4, 5] (by simp only [proj, lk, reduceIte, Nat.reduceEqDiff]; rfl) ?_)); clear hK4
  refine V_sr T.mix (by kernel_rfl) (fun K5 hK5 => ?_)
  refine S_mv rfl ?_
  refine S_mv rfl ?_
  refine S_mv rfl ?_
  refine S_bld rfl (T.bld38_0_1_2 _ _ _) ?_
  refine S_stl T.sz38 rfl rfl rfl rfl (fun j hj => by simp (disch := omega) only [kok]) ?_
  generalize hh : putsH _ _ _ _ = h3
  have hR3 : B h3 h.size #[.int .i64 (s.p : Int), .int .i64 (s.n : Int), .string (txt s.N s.n)] 38 := by rw [← hh]; exact puts_all hR2 (cs' := #[.int .i64 (s.p : Int), .int .i64 (s.n : Int), .string (txt s.N s.n)]) rfl
  have hE3 : Ext (fun k => k = h.size) h2 h3 := by rw [← hh]; exact Ext.puts (S := fun k => k = h.size) rfl _ _ _
  clear hh
  refine S_nil (hK5 _ _ (V_keep [2] (by simp only [proj, lk, reduceIte, Nat.reduceEqDiff]; rfl) ?_)); clear hK5
  refine V_ret ?_
  refine hR _ _ (retc1 rfl rfl T.ag38 hR3 (by rfl) ?_)
  exact ⟨rfl, (hE1.trans hE2).step hE3 (fun b hb e => by omega)⟩
set_option maxHeartbeats 400000 in
theorem reads_spec (h : Heap) (M : Nat) (a : Option Addr) (cap : Nat) (s : TS) (mt : MT h M a cap s) :
    FC Try.prog 15 (#[.pointer (some ⟨M, 0, none⟩), .agg #[.int .i64 (s.p : Int), .int .i64 (s.n : Int), .string (txt s.N s.n)]] : Array Value) h fun v h' => v = .bool true ∧ Ext (fun _ => False) h h' := by
  have ok2 := mt.ok.2.1
  have ok3 := mt.ok.2.2
  refine FC_of [(0, .pointer (some ⟨M, 0, none⟩)), (1, .agg #[.int .i64 (s.p : Int), .int .i64 (s.n : Int), .string (txt s.N s.n)])] Try.func15 rfl Try.ntmps15 (by simp) rfl (fun R hR => ?_)
  refine V_sr T.mix (by kernel_rfl) (fun K1 hK1 => ?_)
  refine S_boxA rfl ?_
  generalize hh : Array.push h _ = h1
  have hA : B h1 h.size #[.int .i64 (s.p : Int), .int .i64 (s.n : Int), .string (txt s.N s.n)] 38 := by rw [← hh]; exact B.new _ _ _
  have hEh1 : Ext (fun _ => False) h h1 := by rw [← hh]; exact Ext.push _ _ _
  clear hh
  have hM := mt.t.lt
  have hA0 := hA
  have hA1 := hA
  have hA2 := hA
  refine S_as rfl ?_
  refine S_nil (hK1 _ _ (V_keep [0, 3] (by simp only [proj, lk, reduceIte, Nat.reduceEqDiff]; rfl) ?_)); clear hK1
  refine V_seq (fun K2 hK2 => ?_)
  refine V_sr T.mix (by kernel_rfl) (fun K3 hK3 => ?_)
  refine S_as rfl ?_
  refine S_nil (hK3 _ _ (V_keep [0, 3, 5] (by simp only [proj, lk, reduceIte, Nat.reduceEqDiff]; rfl) ?_)); clear hK3
  refine V_block ?_
  refine V_loop (fun m l h' => ∃ (n : Int) (hk : Heap), (-1 ≤ n) ∧ (n ≤ 18) ∧ (Ext (fun _ => False) h1 hk) ∧ m = (18 - n).toNat ∧ l = [(0, .pointer (some ⟨M, 0, none⟩)), (3, .pointer (some ⟨h.size, 0, none⟩)), (5, .int .i64 n)] ∧ hk = h') _ ⟨-1, h1, by omega, by omega, Ext.refl _ _, rfl, rfl, rfl⟩ ?_
  rintro m l h' ⟨n, hk, hn1, hn2, hEk, rfl, rfl, rfl⟩ K4 hK4
  clear hA0 hA1 hA2
  have hAk := hA.ext hEk (fun f => f)
  have mk := (mt.ext hEh1 (fun f => f) (fun _ _ f => f)).ext hEk (fun f => f) (fun _ _ f => f)
  have hgf : gotF s n = if n < 0 ∨ 16 < n then 0 else min n.toNat (s.n - s.p) := rfl
  have hA0 : cellH hk ⟨h.size, 0, none⟩ = some (.int .i64 (s.p : Int)) := hAk.cell 0
  have hA1 : cellH hk ⟨h.size, 1, none⟩ = some (.int .i64 (s.n : Int)) := hAk.cell 1
  have hA2 : cellH hk ⟨h.size, 2, none⟩ = some (.string (txt s.N s.n)) := hAk.cell 2
  refine V_seq (fun K5 hK5 => ?_)
  refine V_sr T.mix (by kernel_rfl) (fun K6 hK6 => ?_)
  refine S_mv rfl ?_
  refine S_bin rfl rfl rfl ?_
  refine S_nil (hK6 _ _ (V_keep [0, 3, 5, 11] (by simp only [proj, lk, reduceIte, Nat.reduceEqDiff]; rfl) ?_)); clear hK6
  refine V_condp rfl (fun c76 => ?_) (fun c76 => ?_)
  · skip
    refine V_skipk [0, 3, 5] (by simp only [proj, lk, reduceIte, Nat.reduceEqDiff]; rfl) ?_
    refine hK5 _ _ ?_; clear hK5
    refine V_seq (fun K7 hK7 => ?_)
    refine V_block ?_
    refine V_sr T.mix (by kernel_rfl) (fun K8 hK8 => ?_)
    refine S_mv rfl ?_
    refine S_mv rfl ?_
    refine S_call T.hb40 rfl ?_
    refine FC.mono (mpeek_spec hk M a cap s mk n) ?_
    rintro v h' ⟨rfl, rfl⟩
    refine S_mv rfl ?_
    refine S_ex rfl rfl ?_
    refine S_ex rfl rfl ?_
    refine S_as rfl ?_
    refine S_as rfl ?_
    refine S_nil (hK8 _ _ (V_keep [0, 3, 5, 6, 7] (by simp only [proj, lk, reduceIte, Nat.reduceEqDiff]; rfl) ?_)); clear hK8
    refine V_sr T.mix (by kernel_rfl) (fun K9 hK9 => ?_)
    refine S_mv rfl ?_
    refine S_as rfl ?_
    refine S_nil (hK9 _ _ (V_keep [0, 3, 5, 6, 7, 8] (by simp only [proj, lk, reduceIte, Nat.reduceEqDiff]; rfl) ?_)); clear hK9
    refine V_seqJ (fun l h' => ∃ (u : Int), (u = if (s.n : Int) - s.p < n then (s.n : Int) - s.p else n) ∧ l = [(0, .pointer (some ⟨M, 0, none⟩)), (3, .pointer (some ⟨h.size, 0, none⟩)), (5, .int .i64 n), (6, .int .i64 ((peekV s n : Nat) : Int)), (7, .int .i64 ((gotF s n : Nat) : Int)), (8, .int .i64 u)] ∧ hk = h') ?_ ?_
    · skip
      refine V_sr T.mix (by kernel_rfl) (fun K11 hK11 => ?_)
      first | refine S_fa0 T.f38_1 rfl ?_ | refine S_fa T.f38_1 rfl ?_
      refine S_ldK T.ag3 rfl (fun K' hK' => ?_)
      simp (disch := omega) only [hA0, hA1, hA2, oP_some, Nat.add_zero]
      refine hK' _ ?_; clear hK' K'
      first | refine S_fa0 T.f38_0 rfl ?_ | refine S_fa T.f38_0 rfl ?_
      refine S_ldK T.ag3 rfl (fun K' hK' => ?_)
      simp (disch := omega) only [hA0, hA1, hA2, oP_some, Nat.add_zero]
      refine hK' _ ?_; clear hK' K'
      first | refine S_sub rfl rfl (by omega) (by omega) ?_ | refine S_bin rfl rfl rfl ?_
      refine S_mv rfl ?_
      refine S_bin rfl rfl rfl ?_
      refine S_nil (hK11 _ _ (V_keep [0, 3, 5, 6, 7, 8, 27] (by simp only [proj, lk, reduceIte, Nat.reduceEqDiff]; rfl) ?_)); clear hK11
      refine V_condp rfl (fun c79 => ?_) (fun c79 => ?_)
      · skip
        refine V_reg T.mix (by kernel_rfl) ?_
        first | refine S_fa0 T.f38_1 rfl ?_ | refine S_fa T.f38_1 rfl ?_
        refine S_ldK T.ag3 rfl (fun K' hK' => ?_)
        simp (disch := omega) only [hA0, hA1, hA2, oP_some, Nat.add_zero]
        refine hK' _ ?_; clear hK' K'
        first | refine S_fa0 T.f38_0 rfl ?_ | refine S_fa T.f38_0 rfl ?_
        refine S_ldK T.ag3 rfl (fun K' hK' => ?_)
        simp (disch := omega) only [hA0, hA1, hA2, oP_some, Nat.add_zero]
        refine hK' _ ?_; clear hK' K'
        first | refine S_sub rfl rfl (by omega) (by omega) ?_ | refine S_bin rfl rfl rfl ?_
        refine S_as rfl ?_
        refine S_nilk [0, 3, 5, 6, 7, 8] (by simp only [proj, lk, reduceIte, Nat.reduceEqDiff]; rfl) ?_
        exact ⟨_, by rw [if_pos (by omega)], rfl, rfl⟩
      · skip
        refine V_skipk [0, 3, 5, 6, 7, 8] (by simp only [proj, lk, reduceIte, Nat.reduceEqDiff]; rfl) ?_
        exact ⟨_, by rw [if_neg (by omega)], rfl, rfl⟩
    rintro l h' ⟨u, hu, rfl, rfl⟩
    refine V_seqJ (fun l h' => ∃ (u : Int), (u = ((gotF s n : Nat) : Int)) ∧ l = [(0, .pointer (some ⟨M, 0, none⟩)), (3, .pointer (some ⟨h.size, 0, none⟩)), (5, .int .i64 n), (6, .int .i64 ((peekV s n : Nat) : Int)), (7, .int .i64 ((gotF s n : Nat) : Int)), (8, .int .i64 u)] ∧ hk = h') ?_ ?_
    · skip
      refine V_sr T.mix (by kernel_rfl) (fun K13 hK13 => ?_)
      refine S_mv rfl ?_
      refine S_bin rfl rfl rfl ?_
      refine S_mv rfl ?_
      refine S_dec (fun g82 => ?_) (fun g82 => ?_)
      · skip
        refine S_gf rfl ?_
        refine S_gf rfl ?_
        refine S_pt rfl rfl ?_
        refine S_nil (hK13 _ _ (V_keep [0, 3, 5, 6, 7, 8, 38] (by simp only [proj, lk, reduceIte, Nat.reduceEqDiff]; rfl) ?_)); clear hK13
        refine V_condt rfl ?_
        refine V_reg T.mix (by kernel_rfl) ?_
        refine S_as rfl ?_
        refine S_nilk [0, 3, 5, 6, 7, 8] (by simp only [proj, lk, reduceIte, Nat.reduceEqDiff]; rfl) ?_
        exact ⟨_, by rw [hgf, if_pos (by omega)]; rfl, rfl, rfl⟩
      · skip
        refine S_gt rfl ?_
        refine S_mv rfl ?_
        refine S_gt rfl ?_
        refine S_bin rfl rfl rfl ?_
        refine S_pf rfl rfl ?_
        refine S_nil (hK13 _ _ (V_keep [0, 3, 5, 6, 7, 8, 38] (by simp only [proj, lk, reduceIte, Nat.reduceEqDiff]; rfl) ?_)); clear hK13
        refine V_condp rfl (fun c82 => ?_) (fun c82 => ?_)
        · skip
          refine V_reg T.mix (by kernel_rfl) ?_
          refine S_as rfl ?_
          refine S_nilk [0, 3, 5, 6, 7, 8] (by simp only [proj, lk, reduceIte, Nat.reduceEqDiff]; rfl) ?_
          exact ⟨_, by rw [hgf, if_pos (by omega)]; rfl, rfl, rfl⟩
        · skip
          refine V_skipk [0, 3, 5, 6, 7, 8] (by simp only [proj, lk, reduceIte, Nat.reduceEqDiff]; rfl) ?_
          exact ⟨_, by rw [hgf, if_neg (by omega), hu]; split <;> omega, rfl, rfl⟩
    rintro l h' ⟨u, hu2, rfl, rfl⟩
    refine V_seq (fun K14 hK14 => ?_)
    refine V_sr T.mix (by kernel_rfl) (fun K15 hK15 => ?_)
    refine S_mv rfl ?_
    refine S_mv rfl ?_
    refine S_bin rfl rfl rfl ?_
    refine S_nil (hK15 _ _ (V_keep [0, 3, 5, 6, 7, 41] (by simp only [proj, lk, reduceIte, Nat.reduceEqDiff]; rfl) ?_)); clear hK15
    refine V_condp rfl (fun c85 => ?_) (fun c85 => ?_)
    · skip
      exfalso; omega
    · skip
      refine V_skipk [0, 3, 5, 6, 7] (by simp only [proj, lk, reduceIte, Nat.reduceEqDiff]; rfl) ?_
      refine hK14 _ _ ?_; clear hK14
      refine V_sr T.mix (by kernel_rfl) (fun K16 hK16 => ?_)
      refine S_ldn T.ag38 rfl (hAk.all rfl) ?_
      refine S_mv rfl ?_
      refine S_call T.hb39 rfl ?_
      refine FC.mono (next_spec hk s mt.ok (gotF s n) (by rw [hgf]; split <;> omega) (by rw [hgf]; split <;> omega)) ?_
      rintro v h2 ⟨rfl, hE2⟩
      refine S_as rfl ?_
      refine S_nil (hK16 _ _ (V_keep [0, 3, 5, 6, 9] (by simp only [proj, lk, reduceIte, Nat.reduceEqDiff]; rfl) ?_)); clear hK16
      refine V_sr T.mix (by kernel_rfl) (fun K17 hK17 => ?_)
      refine S_mv rfl ?_
      refine S_mv rfl ?_
      refine S_bin rfl rfl rfl ?_
      refine S_nil (hK17 _ _ (V_keep [0, 3, 5, 47] (by simp only [proj, lk, reduceIte, Nat.reduceEqDiff]; rfl) ?_)); clear hK17
      refine V_condp rfl (fun c89 => ?_) (fun c89 => ?_)
      · skip
        exfalso; exact c89 rfl
      · skip
        refine V_skipk [0, 3, 5] (by simp only [proj, lk, reduceIte, Nat.reduceEqDiff]; rfl) ?_
        refine hK7 _ _ ?_; clear hK7
        refine V_reg T.mix (by kernel_rfl) ?_
        refine S_mv rfl ?_
        first | refine S_add rfl rfl (by omega) (by omega) ?_ | refine S_bin rfl rfl rfl ?_
        refine S_as rfl ?_
        refine S_nilk [0, 3, 5] (by simp only [proj, lk, reduceIte, Nat.reduceEqDiff]; rfl) ?_
        exact hK4 _ _ ⟨_, by omega, n + 1, h2, by omega, by omega, hEk.trans hE2, rfl, rfl, rfl⟩
  · skip
    refine V_exitk [] rfl (by simp only [proj, lk, reduceIte, Nat.reduceEqDiff]; rfl) ?_
    refine hK2 _ _ ?_; clear hK2
    refine V_sr T.mix (by kernel_rfl) (fun K18 hK18 => ?_)
    refine S_as rfl ?_
    refine S_nil (hK18 _ _ (V_keep [4] (by simp only [proj, lk, reduceIte, Nat.reduceEqDiff]; rfl) ?_)); clear hK18
    refine V_ret ?_
    refine hR _ _ (ret1 rfl rfl ?_)
    exact ⟨rfl, hEh1.trans hEk⟩
end Go.Proofs.Qxb6500405a
