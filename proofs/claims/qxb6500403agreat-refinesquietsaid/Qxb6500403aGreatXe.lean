import Derived.Test.Qxb6500403aGreatXd
set_option linter.unusedVariables false
set_option linter.unusedSimpArgs false
namespace Go.Proofs.Qxb6500403aGreat
open Go.Eng Go.Trl Go.Chk Go.Wat

theorem sd_bit {W : WC} {j : Nat} : (wo W.used (W.fresh ||| W.weak)).testBit j = (vw W j).sd := by
  rw [wo_bit, Nat.testBit_or]; simp only [Vw.sd, vw]
  generalize W.used.testBit j = x; generalize W.fresh.testBit j = y; generalize W.weak.testBit j = z
  cases x <;> cases y <;> cases z <;> rfl
theorem wo_sub {W : WC} {cl : Nat → Option (List Int)} {ls : List Int} {c : Nat} (hw : WI W cl ls c) : wo (W.fresh ||| W.weak) W.used = 0 := Nat.eq_of_testBit_eq fun j => by
  rw [wo_bit, Nat.testBit_or, Nat.zero_testBit]
  by_cases hj : j < 52
  · have hl := hw.lo j hj
    have h1 : W.fresh.testBit j = true → W.used.testBit j = true := hl.f
    have h2 : W.weak.testBit j = true → W.used.testBit j = true := hl.k
    revert h1 h2
    generalize W.used.testBit j = x; generalize W.fresh.testBit j = y; generalize W.weak.testBit j = z
    cases x <;> cases y <;> cases z <;> simp
  · have hh := hw.hi j (by omega)
    simp only [vw] at hh
    rw [hh.2.1, hh.2.2.1]; rfl
theorem and_dis {W : WC} {cl : Nat → Option (List Int)} {ls : List Int} {c : Nat} (hw : WI W cl ls c) : W.fresh &&& W.weak = 0 := Nat.eq_of_testBit_eq fun j => by
  rw [Nat.testBit_and, Nat.zero_testBit]
  by_cases hj : j < 52
  · have h1 : W.fresh.testBit j = true → W.weak.testBit j = false := (hw.lo j hj).d
    revert h1
    generalize W.fresh.testBit j = y; generalize W.weak.testBit j = z
    cases y <;> cases z <;> simp
  · have hh := hw.hi j (by omega)
    simp only [vw] at hh
    rw [hh.2.1]; rfl
theorem sd_some {W : WC} {cl : Nat → Option (List Int)} {ls : List Int} {c j : Nat} (hw : WI W cl ls c) (hj : j < 52) (h : (vw W j).sd = true) : ∃ cc, cl j = some cc := by
  have hu : (vw W j).u = true := by unfold Vw.sd at h; simp only [Bool.and_eq_true] at h; exact h.1.1
  rw [(hw.lo j hj).u] at hu
  exact Option.isSome_iff_exists.1 hu

theorem st_yes {st x i j : Nat} (h : st.testBit j = (decide (j < i) && x.testBit j)) (hx : x.testBit i = true) : (st.testBit j || decide (i = j)) = (decide (j < i + 1) && x.testBit j) := by
  rw [h]
  by_cases e : i = j
  · subst e; rw [hx]; simp
  · by_cases e2 : j < i
    · simp [e, e2, show j < i + 1 by omega]
    · simp [e, e2, show ¬ j < i + 1 by omega]
theorem st_no {st x i j : Nat} (h : st.testBit j = (decide (j < i) && x.testBit j)) (hx : x.testBit i = false) : st.testBit j = (decide (j < i + 1) && x.testBit j) := by
  rw [h]
  by_cases e : i = j
  · subst e; rw [hx]; simp
  · by_cases e2 : j < i
    · simp [e2, show j < i + 1 by omega]
    · simp [e2, show ¬ j < i + 1 by omega]
set_option maxHeartbeats 400000 in
theorem shape_spec (h : Heap) (C X : Nat) (W : WC) (cl : Nat → Option (List Int)) (s : TS) (p : Nat) (w : WX h C X W cl s p) (id : Nat) (hid : id < 52) (cc : List Int) (hcl : cl id = some cc) :
    FC Tryz.prog 69 (#[.pointer (some ⟨C, 0, none⟩), .int .i64 (id : Int)] : Array Value) h fun rv h' => rv = .bool true ∧ h = h' := by
  have hB := w.b
  have hE := Ext.refl (fun x => x = C) h
  have hlt := w.i.lt
  obtain ⟨hnr, hsz, harr⟩ := wi_arr w.i hid hcl
  have hln := hnr.len
  refine FC_of [(0, .pointer (some ⟨C, 0, none⟩)), (1, .int .i64 (id : Int))] Tryz.func69 rfl Tryz.ntmps69 (by simp) rfl (fun R hR => ?_)
  refine V_sr T.mix (by kernel_rfl) (fun K1 hK1 => ?_)
  refine S_as rfl ?_
  refine S_nil (hK1 _ _ (V_keep [0, 1] (by simp only [proj, lk, reduceIte, Nat.reduceEqDiff]; rfl) ?_)); clear hK1
  refine V_sr T.mix (by kernel_rfl) (fun K2 hK2 => ?_)
  refine S_mv rfl ?_
  refine S_mv rfl ?_
  refine S_nc rfl ?_
  first | refine S_fa0 T.f73_2 rfl ?_ | refine S_fa T.f73_2 rfl ?_
  first | refine S_ixan T.ar69 rfl rfl (by omega) ?_ | refine S_ixa1 T.ar69 rfl rfl (by omega) (by omega) ?_
  refine S_ldK T.ag3 rfl (fun K' hK' => ?_)
  simp (disch := omega) only [wlT hB, wlLit hB, wlSize hB, wlUsed hB, wlFresh hB, wlWeak hB, wlList hB, wlVis hB, oP_some, Nat.add_zero]
  refine hK' _ ?_; clear hK' K'
  rw [hsz]
  refine S_as rfl ?_
  refine S_nil (hK2 _ _ (V_keep [0, 1, 5] (by simp only [proj, lk, reduceIte, Nat.reduceEqDiff]; rfl) ?_)); clear hK2
  refine V_seq (fun K3 hK3 => ?_)
  refine V_sr T.mix (by kernel_rfl) (fun K4 hK4 => ?_)
  refine S_mv rfl ?_
  refine S_bin rfl rfl rfl ?_
  refine S_mv rfl ?_
  refine S_dec (fun g10 => ?_) (fun g10 => ?_)
  · skip
    exfalso; omega
  · skip
    refine S_gt rfl ?_
    refine S_mv rfl ?_
    refine S_gt rfl ?_
    refine S_bin rfl rfl rfl ?_
    refine S_pf rfl rfl ?_
    refine S_nil (hK4 _ _ (V_keep [0, 1, 5, 22] (by simp only [proj, lk, reduceIte, Nat.reduceEqDiff]; rfl) ?_)); clear hK4
    refine V_condp rfl (fun c10 => ?_) (fun c10 => ?_)
    · skip
      exfalso; omega
    · skip
      refine V_skipk [0, 1, 5] (by simp only [proj, lk, reduceIte, Nat.reduceEqDiff]; rfl) ?_
      refine hK3 _ _ ?_; clear hK3
      refine V_sr T.mix (by kernel_rfl) (fun K5 hK5 => ?_)
      refine S_mv rfl ?_
      first | refine S_mul rfl rfl (by omega) (by omega) ?_ | refine S_bin rfl rfl rfl ?_
      refine S_as rfl ?_
      refine S_nil (hK5 _ _ (V_keep [0, 5, 6] (by simp only [proj, lk, reduceIte, Nat.reduceEqDiff]; rfl) ?_)); clear hK5
      refine V_sr T.mix (by kernel_rfl) (fun K6 hK6 => ?_)
      refine S_as rfl ?_
      refine S_nil (hK6 _ _ (V_keep [0, 5, 6, 7] (by simp only [proj, lk, reduceIte, Nat.reduceEqDiff]; rfl) ?_)); clear hK6
      refine V_seq (fun K7 hK7 => ?_)
      refine V_sr T.mix (by kernel_rfl) (fun K8 hK8 => ?_)
      refine S_as rfl ?_
      refine S_nil (hK8 _ _ (V_keep [0, 5, 6, 7, 8] (by simp only [proj, lk, reduceIte, Nat.reduceEqDiff]; rfl) ?_)); clear hK8
      refine V_block ?_
      refine V_loop (fun m l h' => ∃ (i : Nat) (vs : Nat), (i ≤ cc.length) ∧ (vs < 8192) ∧ (∀ v : Nat, vs.testBit v = true ↔ ∃ j, j < i ∧ (W.lits (id * 12 + j)).natAbs = v) ∧ m = cc.length - i ∧ l = [(0, .pointer (some ⟨C, 0, none⟩)), (5, .int .i64 (cc.length : Int)), (6, .int .i64 ((id * 12 : Nat) : Int)), (7, .int .u16 (vs : Int)), (8, .int .i64 (i : Int))] ∧ h = h') _ ⟨0, 0, by omega, by omega, fun v => by simp, rfl, rfl, rfl⟩ ?_
      rintro m l h' ⟨i, vs, hi, hvl, hvb, rfl, rfl, rfl⟩ K9 hK9
      refine V_seq (fun K10 hK10 => ?_)
      refine V_sr T.mix (by kernel_rfl) (fun K11 hK11 => ?_)
      refine S_mv rfl ?_
      refine S_mv rfl ?_
      refine S_bin rfl rfl rfl ?_
      refine S_nil (hK11 _ _ (V_keep [0, 5, 6, 7, 8, 27] (by simp only [proj, lk, reduceIte, Nat.reduceEqDiff]; rfl) ?_)); clear hK11
      refine V_condp rfl (fun c15 => ?_) (fun c15 => ?_)
      · skip
        have hm := harr.2.1 i (by omega)
        have hgl : gd (W.lits (id * 12 + i)) := hnr.1 _ hm
        have hgl2 := hgl
        unfold gd at hgl2
        refine V_skipk [0, 5, 6, 7, 8] (by simp only [proj, lk, reduceIte, Nat.reduceEqDiff]; rfl) ?_
        refine hK10 _ _ ?_; clear hK10
        refine V_seq (fun K12 hK12 => ?_)
        refine V_block ?_
        refine V_sr T.mix (by kernel_rfl) (fun K13 hK13 => ?_)
        refine S_mv rfl ?_
        refine S_mv rfl ?_
        refine S_mv rfl ?_
        first | refine S_add rfl rfl (by omega) (by omega) ?_ | refine S_bin rfl rfl rfl ?_
        refine S_nc rfl ?_
        first | refine S_fa0 T.f73_1 rfl ?_ | refine S_fa T.f73_1 rfl ?_
        first | refine S_ixan T.ar68 rfl rfl (by omega) ?_ | refine S_ixa1 T.ar68 rfl rfl (by omega) (by omega) ?_
        refine S_ldK T.ag3 rfl (fun K' hK' => ?_)
        simp (disch := omega) only [wlT hB, wlLit hB, wlSize hB, wlUsed hB, wlFresh hB, wlWeak hB, wlList hB, wlVis hB, oP_some, Nat.add_zero]
        refine hK' _ ?_; clear hK' K'
        refine S_as rfl ?_
        refine S_nil (hK13 _ _ (V_keep [0, 5, 6, 7, 8, 9] (by simp only [proj, lk, reduceIte, Nat.reduceEqDiff]; rfl) ?_)); clear hK13
        refine V_seq (fun K14 hK14 => ?_)
        refine V_sr T.mix (by kernel_rfl) (fun K15 hK15 => ?_)
        refine S_mv rfl ?_
        refine S_call T.hb89 rfl ?_
        refine FC.mono (goodlit_spec _ ((W.lits (id * 12 + i)))) ?_
        rintro v' h' ⟨g, rfl, hg, rfl⟩
        refine S_notb rfl ?_
        refine S_nil (hK15 _ _ (V_keep [0, 5, 6, 7, 8, 9, 40] (by simp only [proj, lk, reduceIte, Nat.reduceEqDiff]; rfl) ?_)); clear hK15
        refine V_condb rfl (fun c17 => ?_) (fun c17 => ?_)
        · skip
          simp only [Bool.not_eq_true'] at c17
          exfalso; rw [hg.2 hgl] at c17; cases c17
        · skip
          refine V_skipk [0, 5, 6, 7, 8, 9] (by simp only [proj, lk, reduceIte, Nat.reduceEqDiff]; rfl) ?_
          refine hK14 _ _ ?_; clear hK14
          refine V_sr T.mix (by kernel_rfl) (fun K16 hK16 => ?_)
          refine S_mv rfl ?_
          refine S_call T.hb82 rfl ?_
          refine FC.mono (var_spec _ ((W.lits (id * 12 + i))) (by omega) (by omega)) ?_
          rintro v' h' ⟨rfl, rfl⟩
          refine S_as rfl ?_
          refine S_nil (hK16 _ _ (V_keep [0, 5, 6, 7, 8, 10] (by simp only [proj, lk, reduceIte, Nat.reduceEqDiff]; rfl) ?_)); clear hK16
          refine V_seq (fun K17 hK17 => ?_)
          refine V_sr T.mix (by kernel_rfl) (fun K18 hK18 => ?_)
          refine S_mv rfl ?_
          refine S_mv rfl ?_
          first | refine S_cvn T.us3 T.in77 rfl rfl (by first | omega | (simp only [IntKind.bits]; omega)) ?_ | refine S_cvu T.us3 T.in77 rfl (by omega) (by omega) ?_ | refine S_cv T.us3 T.in77 rfl ?_
          refine S_nshr vs (W.lits (id * 12 + i)).natAbs _ rfl rfl rfl rfl rfl (show (W.lits (id * 12 + i)).natAbs ≤ 16 by omega) ?_
          refine S_nand (vs / 2 ^ (W.lits (id * 12 + i)).natAbs) 1 _ rfl rfl rfl rfl rfl (t13 (Nat.lt_of_le_of_lt (Nat.div_le_self _ _) hvl)) (by decide) ?_
          rw [Nat.and_one_is_mod]
          refine S_bin rfl rfl rfl ?_
          refine S_nil (hK18 _ _ (V_keep [0, 5, 6, 7, 8, 10, 48] (by simp only [proj, lk, reduceIte, Nat.reduceEqDiff]; rfl) ?_)); clear hK18
          refine V_condp rfl (fun c21 => ?_) (fun c21 => ?_)
          · skip
            obtain ⟨j, hj, e⟩ := (hvb _).1 (bit_mod.1 (by exact_mod_cast c21))
            have h9 := hnr.inj (harr.2.1 j (by omega)) hm e
            have h8 := harr.2.2.2 j i (by omega) (by omega) h9
            exfalso; omega
          · skip
            refine V_skipk [0, 5, 6, 7, 8, 10] (by simp only [proj, lk, reduceIte, Nat.reduceEqDiff]; rfl) ?_
            refine hK17 _ _ ?_; clear hK17
            refine V_reg T.mix (by kernel_rfl) ?_
            refine S_mv rfl ?_
            refine S_mv rfl ?_
            first | refine S_cvn T.us3 T.in77 rfl rfl (by first | omega | (simp only [IntKind.bits]; omega)) ?_ | refine S_cvu T.us3 T.in77 rfl (by omega) (by omega) ?_ | refine S_cv T.us3 T.in77 rfl ?_
            refine S_nshl 1 (W.lits (id * 12 + i)).natAbs (2 ^ (W.lits (id * 12 + i)).natAbs) rfl rfl rfl rfl (Nat.one_mul _) (show (W.lits (id * 12 + i)).natAbs ≤ 16 by omega) (t13 (p13 (by omega))) ?_
            refine S_nor vs (2 ^ (W.lits (id * 12 + i)).natAbs) _ rfl rfl rfl rfl rfl (t13 hvl) (t13 (p13 (by omega))) ?_
            refine S_as rfl ?_
            refine S_nilk [0, 5, 6, 7, 8] (by simp only [proj, lk, reduceIte, Nat.reduceEqDiff]; rfl) ?_
            refine hK12 _ _ ?_; clear hK12
            refine V_reg T.mix (by kernel_rfl) ?_
            refine S_mv rfl ?_
            first | refine S_add rfl rfl (by omega) (by omega) ?_ | refine S_bin rfl rfl rfl ?_
            refine S_as rfl ?_
            refine S_nilk [0, 5, 6, 7, 8] (by simp only [proj, lk, reduceIte, Nat.reduceEqDiff]; rfl) ?_
            exact hK9 _ _ ⟨_, by omega, i + 1, vs ||| 2 ^ (W.lits (id * 12 + i)).natAbs, by omega, or13 hvl (p13 (by omega)), fun v => by
              rw [or_bit, Bool.or_eq_true, hvb v, decide_eq_true_eq]
              constructor
              · rintro (⟨j, h1, h2⟩ | e)
                · exact ⟨j, by omega, h2⟩
                · exact ⟨i, by omega, e⟩
              · rintro ⟨j, h1, h2⟩
                by_cases e : j = i
                · subst e; exact .inr h2
                · exact .inl ⟨j, by omega, h2⟩, rfl, rfl, rfl⟩
      · skip
        refine V_exitk [] rfl (by simp only [proj, lk, reduceIte, Nat.reduceEqDiff]; rfl) ?_
        refine hK7 _ _ ?_; clear hK7
        refine V_sr T.mix (by kernel_rfl) (fun K19 hK19 => ?_)
        refine S_as rfl ?_
        refine S_nil (hK19 _ _ (V_keep [4] (by simp only [proj, lk, reduceIte, Nat.reduceEqDiff]; rfl) ?_)); clear hK19
        refine V_ret ?_
        refine hR _ _ (ret1 rfl rfl ?_)
        exact ⟨rfl, rfl⟩
set_option maxHeartbeats 400000 in
theorem holds_spec (h : Heap) (C X : Nat) (W : WC) (cl : Nat → Option (List Int)) (s : TS) (p : Nat) (w : WX h C X W cl s p) (a o : Int) (hga : gd a) (hgo : gd o) (hH : Hold (lits s.L) s.c a o) :
    FC Tryz.prog 70 (#[.pointer (some ⟨C, 0, none⟩), .int .i64 a, .int .i64 o] : Array Value) h fun rv h' => rv = .bool true ∧ h = h' := by
  have hB := w.b
  have hE := Ext.refl (fun x => x = C) h
  have hlt := w.i.lt
  have hga2 := hga
  have hgo2 := hgo
  unfold gd at hga2 hgo2
  have hva := vO3 (s := s) hga
  have hvo := vO3 (s := s) hgo
  have hcc := w.ok.c
  have hll := w.ok.len
  refine FC_of [(0, .pointer (some ⟨C, 0, none⟩)), (1, .int .i64 a), (2, .int .i64 o)] Tryz.func70 rfl Tryz.ntmps70 (by simp) rfl (fun R hR => ?_)
  refine V_sr T.mix (by kernel_rfl) (fun K1 hK1 => ?_)
  refine S_as rfl ?_
  refine S_nil (hK1 _ _ (V_keep [0, 1, 2] (by simp only [proj, lk, reduceIte, Nat.reduceEqDiff]; rfl) ?_)); clear hK1
  refine V_sr T.mix (by kernel_rfl) (fun K2 hK2 => ?_)
  refine S_mv rfl ?_
  refine S_nc rfl ?_
  first | refine S_fa0 T.f73_0 rfl ?_ | refine S_fa T.f73_0 rfl ?_
  refine S_ldK T.ag39 rfl (fun K' hK' => ?_)
  simp (disch := omega) only [wlT hB, wlLit hB, wlSize hB, wlUsed hB, wlFresh hB, wlWeak hB, wlList hB, wlVis hB, oP_some, Nat.add_zero]
  refine hK' _ ?_; clear hK' K'
  refine S_mv rfl ?_
  refine S_call T.hb48 rfl ?_
  refine FC.mono (value_spec h X s p w.t a) ?_
  rintro v' h' ⟨rfl, rfl⟩
  refine S_as rfl ?_
  refine S_nil (hK2 _ _ (V_keep [0, 1, 2, 7] (by simp only [proj, lk, reduceIte, Nat.reduceEqDiff]; rfl) ?_)); clear hK2
  refine V_seq (fun K3 hK3 => ?_)
  refine V_sr T.mix (by kernel_rfl) (fun K4 hK4 => ?_)
  refine S_mv rfl ?_
  refine S_bin rfl rfl rfl ?_
  refine S_nil (hK4 _ _ (V_keep [0, 1, 2, 22] (by simp only [proj, lk, reduceIte, Nat.reduceEqDiff]; rfl) ?_)); clear hK4
  refine V_condp rfl (fun c32 => ?_) (fun c32 => ?_)
  · skip
    refine V_sr T.mix (by kernel_rfl) (fun K5 hK5 => ?_)
    refine S_as rfl ?_
    refine S_nil (hK5 _ _ (V_keep [6] (by simp only [proj, lk, reduceIte, Nat.reduceEqDiff]; rfl) ?_)); clear hK5
    refine V_ret ?_
    refine hR _ _ (ret1 rfl rfl ?_)
    exact ⟨rfl, rfl⟩
  · skip
    obtain ⟨i, hi⟩ : ∃ i, (lits s.L)[i]? = some (-a) := mem_idx.1 (by rcases hva with q | q | q; (omega); (exact q.2); (omega))
    have hpa : plaV s.L (a.natAbs : Int) = i := by have h9 := pla_nat w.ok hi; rw [Int.natAbs_neg] at h9; exact h9
    have hil := lits_lt hi
    refine V_skipk [0, 1, 2] (by simp only [proj, lk, reduceIte, Nat.reduceEqDiff]; rfl) ?_
    refine hK3 _ _ ?_; clear hK3
    refine V_sr T.mix (by kernel_rfl) (fun K6 hK6 => ?_)
    refine S_mv rfl ?_
    refine S_call T.hb82 rfl ?_
    refine FC.mono (var_spec _ (a) (by omega) (by omega)) ?_
    rintro v' h' ⟨rfl, rfl⟩
    refine S_as rfl ?_
    refine S_nil (hK6 _ _ (V_keep [0, 2, 8] (by simp only [proj, lk, reduceIte, Nat.reduceEqDiff]; rfl) ?_)); clear hK6
    refine V_sr T.mix (by kernel_rfl) (fun K7 hK7 => ?_)
    refine S_mv rfl ?_
    refine S_nc rfl ?_
    first | refine S_fa0 T.f73_0 rfl ?_ | refine S_fa T.f73_0 rfl ?_
    refine S_ldK T.ag39 rfl (fun K' hK' => ?_)
    simp (disch := omega) only [wlT hB, wlLit hB, wlSize hB, wlUsed hB, wlFresh hB, wlWeak hB, wlList hB, wlVis hB, oP_some, Nat.add_zero]
    refine hK' _ ?_; clear hK' K'
    refine S_mv rfl ?_
    refine S_call T.hb54 rfl ?_
    refine FC.mono (place_spec h X s p w.t (a.natAbs : Int)) ?_
    rintro v' h' ⟨rfl, rfl⟩
    rw [hpa]
    refine S_as rfl ?_
    refine S_nil (hK7 _ _ (V_keep [0, 2, 9] (by simp only [proj, lk, reduceIte, Nat.reduceEqDiff]; rfl) ?_)); clear hK7
    refine V_sr T.mix (by kernel_rfl) (fun K8 hK8 => ?_)
    refine S_mv rfl ?_
    refine S_nc rfl ?_
    first | refine S_fa0 T.f73_0 rfl ?_ | refine S_fa T.f73_0 rfl ?_
    refine S_ldK T.ag39 rfl (fun K' hK' => ?_)
    simp (disch := omega) only [wlT hB, wlLit hB, wlSize hB, wlUsed hB, wlFresh hB, wlWeak hB, wlList hB, wlVis hB, oP_some, Nat.add_zero]
    refine hK' _ ?_; clear hK' K'
    refine S_call T.hb44 rfl ?_
    refine FC.mono (len_spec h X s p w.t) ?_
    rintro v' h' ⟨rfl, rfl⟩
    refine S_as rfl ?_
    refine S_nil (hK8 _ _ (V_keep [0, 2, 9, 10] (by simp only [proj, lk, reduceIte, Nat.reduceEqDiff]; rfl) ?_)); clear hK8
    refine V_sr T.mix (by kernel_rfl) (fun K9 hK9 => ?_)
    refine S_mv rfl ?_
    refine S_nc rfl ?_
    first | refine S_fa0 T.f73_0 rfl ?_ | refine S_fa T.f73_0 rfl ?_
    refine S_ldK T.ag39 rfl (fun K' hK' => ?_)
    simp (disch := omega) only [wlT hB, wlLit hB, wlSize hB, wlUsed hB, wlFresh hB, wlWeak hB, wlList hB, wlVis hB, oP_some, Nat.add_zero]
    refine hK' _ ?_; clear hK' K'
    refine S_call T.hb46 rfl ?_
    refine FC.mono (pending_spec h X s p w.t) ?_
    rintro v' h' ⟨rfl, rfl⟩
    refine S_as rfl ?_
    refine S_nil (hK9 _ _ (V_keep [0, 2, 9, 10, 11] (by simp only [proj, lk, reduceIte, Nat.reduceEqDiff]; rfl) ?_)); clear hK9
    refine V_seq (fun K10 hK10 => ?_)
    refine V_sr T.mix (by kernel_rfl) (fun K11 hK11 => ?_)
    refine S_mv rfl ?_
    refine S_mv rfl ?_
    refine S_mv rfl ?_
    first | refine S_sub rfl rfl (by omega) (by omega) ?_ | refine S_bin rfl rfl rfl ?_
    refine S_bin rfl rfl rfl ?_
    refine S_nil (hK11 _ _ (V_keep [0, 2, 9, 45] (by simp only [proj, lk, reduceIte, Nat.reduceEqDiff]; rfl) ?_)); clear hK11
    refine V_condp rfl (fun c39 => ?_) (fun c39 => ?_)
    · skip
      refine V_sr T.mix (by kernel_rfl) (fun K12 hK12 => ?_)
      refine S_as rfl ?_
      refine S_nil (hK12 _ _ (V_keep [6] (by simp only [proj, lk, reduceIte, Nat.reduceEqDiff]; rfl) ?_)); clear hK12
      refine V_ret ?_
      refine hR _ _ (ret1 rfl rfl ?_)
      exact ⟨rfl, rfl⟩
    · skip
      obtain ⟨j, hj, hjo⟩ : ∃ j, j < i ∧ (lits s.L)[j]? = some o := by rcases hH i hi with q | q; (exfalso; omega); (exact q)
      have hpo : plaV s.L (o.natAbs : Int) = j := pla_nat w.ok hjo
      refine V_skipk [0, 2, 9] (by simp only [proj, lk, reduceIte, Nat.reduceEqDiff]; rfl) ?_
      refine hK10 _ _ ?_; clear hK10
      refine V_sr T.mix (by kernel_rfl) (fun K13 hK13 => ?_)
      refine S_mv rfl ?_
      refine S_nc rfl ?_
      first | refine S_fa0 T.f73_0 rfl ?_ | refine S_fa T.f73_0 rfl ?_
      refine S_ldK T.ag39 rfl (fun K' hK' => ?_)
      simp (disch := omega) only [wlT hB, wlLit hB, wlSize hB, wlUsed hB, wlFresh hB, wlWeak hB, wlList hB, wlVis hB, oP_some, Nat.add_zero]
      refine hK' _ ?_; clear hK' K'
      refine S_mv rfl ?_
      refine S_call T.hb48 rfl ?_
      refine FC.mono (value_spec h X s p w.t o) ?_
      rintro v' h' ⟨rfl, rfl⟩
      refine S_as rfl ?_
      refine S_nil (hK13 _ _ (V_keep [0, 2, 9, 12] (by simp only [proj, lk, reduceIte, Nat.reduceEqDiff]; rfl) ?_)); clear hK13
      refine V_seq (fun K14 hK14 => ?_)
      refine V_sr T.mix (by kernel_rfl) (fun K15 hK15 => ?_)
      refine S_mv rfl ?_
      refine S_bin rfl rfl rfl ?_
      refine S_nil (hK15 _ _ (V_keep [0, 2, 9, 53] (by simp only [proj, lk, reduceIte, Nat.reduceEqDiff]; rfl) ?_)); clear hK15
      refine V_condp rfl (fun c43 => ?_) (fun c43 => ?_)
      · skip
        have hom : o ∈ lits s.L := mem_idx.2 ⟨j, hjo⟩
        exfalso; rcases hvo with q | q | q; (exact c43 q.1); (exact con_lits w.ok _ hom q.2); (exact q.2.1 hom)
      · skip
        refine V_skipk [0, 2, 9] (by simp only [proj, lk, reduceIte, Nat.reduceEqDiff]; rfl) ?_
        refine hK14 _ _ ?_; clear hK14
        refine V_sr T.mix (by kernel_rfl) (fun K16 hK16 => ?_)
        refine S_mv rfl ?_
        refine S_call T.hb82 rfl ?_
        refine FC.mono (var_spec _ (o) (by omega) (by omega)) ?_
        rintro v' h' ⟨rfl, rfl⟩
        refine S_as rfl ?_
        refine S_nil (hK16 _ _ (V_keep [0, 9, 13] (by simp only [proj, lk, reduceIte, Nat.reduceEqDiff]; rfl) ?_)); clear hK16
        refine V_sr T.mix (by kernel_rfl) (fun K17 hK17 => ?_)
        refine S_mv rfl ?_
        refine S_nc rfl ?_
        first | refine S_fa0 T.f73_0 rfl ?_ | refine S_fa T.f73_0 rfl ?_
        refine S_ldK T.ag39 rfl (fun K' hK' => ?_)
        simp (disch := omega) only [wlT hB, wlLit hB, wlSize hB, wlUsed hB, wlFresh hB, wlWeak hB, wlList hB, wlVis hB, oP_some, Nat.add_zero]
        refine hK' _ ?_; clear hK' K'
        refine S_mv rfl ?_
        refine S_call T.hb54 rfl ?_
        refine FC.mono (place_spec h X s p w.t (o.natAbs : Int)) ?_
        rintro v' h' ⟨rfl, rfl⟩
        rw [hpo]
        refine S_as rfl ?_
        refine S_nil (hK17 _ _ (V_keep [9, 14] (by simp only [proj, lk, reduceIte, Nat.reduceEqDiff]; rfl) ?_)); clear hK17
        refine V_sr T.mix (by kernel_rfl) (fun K18 hK18 => ?_)
        refine S_mv rfl ?_
        refine S_mv rfl ?_
        refine S_bin rfl rfl rfl ?_
        refine S_as rfl ?_
        refine S_nil (hK18 _ _ (V_keep [6] (by simp only [proj, lk, reduceIte, Nat.reduceEqDiff]; rfl) ?_)); clear hK18
        refine V_ret ?_
        refine hR _ _ (ret1 rfl rfl ?_)
        exact ⟨by rw [decide_eq_true (by omega)], rfl⟩
set_option maxHeartbeats 1600000 in
theorem watchers_spec (h : Heap) (C X : Nat) (W : WC) (cl : Nat → Option (List Int)) (s : TS) (p : Nat) (w : WX h C X W cl s p) (q : Nat) (hq : q < 26) :
    FC Tryz.prog 71 (#[.pointer (some ⟨C, 0, none⟩), .int .i64 (q : Int)] : Array Value) h fun rv h' => rv = .int .u64 ((W.list q : Nat) : Int) ∧ h = h' := by
  have hB := w.b
  have hE := Ext.refl (fun x => x = C) h
  have hlt := w.i.lt
  refine FC_of [(0, .pointer (some ⟨C, 0, none⟩)), (1, .int .i64 (q : Int))] Tryz.func71 rfl Tryz.ntmps71 (by simp) rfl (fun R hR => ?_)
  refine V_sr T.mix (by kernel_rfl) (fun K1 hK1 => ?_)
  refine S_as rfl ?_
  refine S_nil (hK1 _ _ (V_keep [0, 1] (by simp only [proj, lk, reduceIte, Nat.reduceEqDiff]; rfl) ?_)); clear hK1
  refine V_sr T.mix (by kernel_rfl) (fun K2 hK2 => ?_)
  refine S_mv rfl ?_
  refine S_nc rfl ?_
  first | refine S_fa0 T.f73_3 rfl ?_ | refine S_fa T.f73_3 rfl ?_
  refine S_ldK T.ag70 rfl (fun K' hK' => ?_)
  simp (disch := omega) only [wlT hB, wlLit hB, wlSize hB, wlUsed hB, wlFresh hB, wlWeak hB, wlList hB, wlVis hB, oP_some, Nat.add_zero]
  refine hK' _ ?_; clear hK' K'
  refine S_mv rfl ?_
  refine S_nc rfl ?_
  first | refine S_fa0 T.f73_4 rfl ?_ | refine S_fa T.f73_4 rfl ?_
  refine S_ldK T.ag70 rfl (fun K' hK' => ?_)
  simp (disch := omega) only [wlT hB, wlLit hB, wlSize hB, wlUsed hB, wlFresh hB, wlWeak hB, wlList hB, wlVis hB, oP_some, Nat.add_zero]
  refine hK' _ ?_; clear hK' K'
  refine S_mv rfl ?_
  refine S_nc rfl ?_
  first | refine S_fa0 T.f73_5 rfl ?_ | refine S_fa T.f73_5 rfl ?_
  refine S_ldK T.ag70 rfl (fun K' hK' => ?_)
  simp (disch := omega) only [wlT hB, wlLit hB, wlSize hB, wlUsed hB, wlFresh hB, wlWeak hB, wlList hB, wlVis hB, oP_some, Nat.add_zero]
  refine hK' _ ?_; clear hK' K'
  refine S_nor W.fresh W.weak _ rfl rfl rfl rfl rfl (t52 hlt.2.1) (t52 hlt.2.2) ?_
  refine S_nandn W.used (W.fresh ||| W.weak) rfl rfl rfl rfl rfl (b52 hlt.1) (b52 (or52 hlt.2.1 hlt.2.2)) ?_
  refine S_as rfl ?_
  refine S_nil (hK2 _ _ (V_keep [0, 1, 5] (by simp only [proj, lk, reduceIte, Nat.reduceEqDiff]; rfl) ?_)); clear hK2
  refine V_sr T.mix (by kernel_rfl) (fun K3 hK3 => ?_)
  refine S_as rfl ?_
  refine S_nil (hK3 _ _ (V_keep [0, 1, 5, 6] (by simp only [proj, lk, reduceIte, Nat.reduceEqDiff]; rfl) ?_)); clear hK3
  refine V_seq (fun K4 hK4 => ?_)
  refine V_sr T.mix (by kernel_rfl) (fun K5 hK5 => ?_)
  refine S_as rfl ?_
  refine S_nil (hK5 _ _ (V_keep [0, 1, 5, 6, 7] (by simp only [proj, lk, reduceIte, Nat.reduceEqDiff]; rfl) ?_)); clear hK5
  refine V_block ?_
  refine V_loop (fun m l h' => ∃ (i : Nat) (st : Nat), (i ≤ 52) ∧ (st < 4503599627370496) ∧ (∀ j, st.testBit j = (decide (j < i) && (W.list q).testBit j)) ∧ m = 52 - i ∧ l = [(0, .pointer (some ⟨C, 0, none⟩)), (1, .int .i64 (q : Int)), (5, .int .u64 ((wo W.used (W.fresh ||| W.weak) : Nat) : Int)), (6, .int .u64 (st : Int)), (7, .int .i64 (i : Int))] ∧ h = h') _ ⟨0, 0, by omega, by decide, fun j => by simp, rfl, rfl, rfl⟩ ?_
  rintro m l h' ⟨i, st, hi, hsl, hsb, rfl, rfl, rfl⟩ K6 hK6
  refine V_seq (fun K7 hK7 => ?_)
  refine V_sr T.mix (by kernel_rfl) (fun K8 hK8 => ?_)
  refine S_mv rfl ?_
  refine S_bin rfl rfl rfl ?_
  refine S_nil (hK8 _ _ (V_keep [0, 1, 5, 6, 7, 26] (by simp only [proj, lk, reduceIte, Nat.reduceEqDiff]; rfl) ?_)); clear hK8
  refine V_condp rfl (fun c55 => ?_) (fun c55 => ?_)
  · skip
    refine V_skipk [0, 1, 5, 6, 7] (by simp only [proj, lk, reduceIte, Nat.reduceEqDiff]; rfl) ?_
    refine hK7 _ _ ?_; clear hK7
    refine V_seq (fun K9 hK9 => ?_)
    refine V_block ?_
    refine V_sr T.mix (by kernel_rfl) (fun K10 hK10 => ?_)
    refine S_mv rfl ?_
    refine S_mv rfl ?_
    refine S_call T.hb68 rfl ?_
    refine FC.mono (has_spec h (wo W.used (W.fresh ||| W.weak)) (i) ((wo52 hlt.1)) (by omega)) ?_
    rintro v' h' ⟨g, rfl, hg, rfl⟩
    refine S_nil (hK10 _ _ (V_keep [0, 1, 5, 6, 7, 31] (by simp only [proj, lk, reduceIte, Nat.reduceEqDiff]; rfl) ?_)); clear hK10
    refine V_condb rfl (fun c56 => ?_) (fun c56 => ?_)
    · skip
      have hsd : (vw W i).sd = true := by rw [← sd_bit, ← hg]; simpa using c56
      obtain ⟨cc, hcl⟩ := sd_some w.i (by omega) hsd
      obtain ⟨hnr, hsz, harr⟩ := wi_arr w.i (by omega) hcl
      have hLo := w.i.lo i (by omega)
      obtain ⟨hn2, hH0, hH1⟩ := hLo.s hsd
      rw [vw_a (by omega), vw_a (by omega)] at hH0 hH1
      simp only [Nat.add_zero] at hH0 hH1
      replace hn2 : 2 ≤ cc.length := by rw [← hsz]; exact hn2
      have hg0 : gd (W.lits (i * 12)) := hnr.1 _ (harr.2.1 0 (by omega))
      have hg1 : gd (W.lits (i * 12 + 1)) := hnr.1 _ (harr.2.1 1 (by omega))
      have hlq := hLo.l q hq
      rw [vw_l hq, hsd, vw_a (by omega), vw_a (by omega), Bool.true_and] at hlq
      simp only [Nat.add_zero] at hlq
      refine V_sr T.mix (by kernel_rfl) (fun K11 hK11 => ?_)
      refine S_mv rfl ?_
      first | refine S_mul rfl rfl (by omega) (by omega) ?_ | refine S_bin rfl rfl rfl ?_
      refine S_as rfl ?_
      refine S_nil (hK11 _ _ (V_keep [0, 1, 5, 6, 7, 8] (by simp only [proj, lk, reduceIte, Nat.reduceEqDiff]; rfl) ?_)); clear hK11
      refine V_sr T.mix (by kernel_rfl) (fun K12 hK12 => ?_)
      refine S_mv rfl ?_
      refine S_mv rfl ?_
      refine S_nc rfl ?_
      first | refine S_fa0 T.f73_1 rfl ?_ | refine S_fa T.f73_1 rfl ?_
      first | refine S_ixan T.ar68 rfl rfl (by omega) ?_ | refine S_ixa1 T.ar68 rfl rfl (by omega) (by omega) ?_
      refine S_ldK T.ag3 rfl (fun K' hK' => ?_)
      simp (disch := omega) only [wlT hB, wlLit hB, wlSize hB, wlUsed hB, wlFresh hB, wlWeak hB, wlList hB, wlVis hB, oP_some, Nat.add_zero]
      refine hK' _ ?_; clear hK' K'
      refine S_call T.hb98 rfl ?_
      refine FC.mono (code_spec h (W.lits (i * 12)) hg0) ?_
      rintro v' h' ⟨rfl, rfl⟩
      refine S_as rfl ?_
      refine S_nil (hK12 _ _ (V_keep [0, 1, 5, 6, 7, 8, 9] (by simp only [proj, lk, reduceIte, Nat.reduceEqDiff]; rfl) ?_)); clear hK12
      refine V_sr T.mix (by kernel_rfl) (fun K13 hK13 => ?_)
      refine S_mv rfl ?_
      refine S_mv rfl ?_
      first | refine S_add rfl rfl (by omega) (by omega) ?_ | refine S_bin rfl rfl rfl ?_
      refine S_nc rfl ?_
      first | refine S_fa0 T.f73_1 rfl ?_ | refine S_fa T.f73_1 rfl ?_
      first | refine S_ixan T.ar68 rfl rfl (by omega) ?_ | refine S_ixa1 T.ar68 rfl rfl (by omega) (by omega) ?_
      refine S_ldK T.ag3 rfl (fun K' hK' => ?_)
      simp (disch := omega) only [wlT hB, wlLit hB, wlSize hB, wlUsed hB, wlFresh hB, wlWeak hB, wlList hB, wlVis hB, oP_some, Nat.add_zero]
      refine hK' _ ?_; clear hK' K'
      refine S_call T.hb98 rfl ?_
      refine FC.mono (code_spec h (W.lits (i * 12 + 1)) hg1) ?_
      rintro v' h' ⟨rfl, rfl⟩
      refine S_as rfl ?_
      refine S_nil (hK13 _ _ (V_keep [0, 1, 5, 6, 7, 9, 10] (by simp only [proj, lk, reduceIte, Nat.reduceEqDiff]; rfl) ?_)); clear hK13
      refine V_sr T.mix (by kernel_rfl) (fun K14 hK14 => ?_)
      refine S_mv rfl ?_
      refine S_mv rfl ?_
      refine S_bin rfl rfl rfl ?_
      refine S_mv rfl ?_
      refine S_dec (fun g60 => ?_) (fun g60 => ?_)
      · skip
        refine S_gf rfl ?_
        refine S_gf rfl ?_
        refine S_gf rfl ?_
        refine S_pt rfl rfl ?_
        refine S_nil (hK14 _ _ (V_keep [0, 1, 5, 6, 7, 56] (by simp only [proj, lk, reduceIte, Nat.reduceEqDiff]; rfl) ?_)); clear hK14
        refine V_condt rfl ?_
        refine V_reg T.mix (by kernel_rfl) ?_
        refine S_mv rfl ?_
        refine S_mv rfl ?_
        refine S_call T.hb99 rfl ?_
        refine FC.mono (bit_spec h i (by omega)) ?_
        rintro v' h' ⟨rfl, rfl⟩
        refine S_nor st (2 ^ i) _ rfl rfl rfl rfl rfl (t52 hsl) (t52 (p52 (by omega))) ?_
        refine S_as rfl ?_
        refine S_nilk [0, 1, 5, 6, 7] (by simp only [proj, lk, reduceIte, Nat.reduceEqDiff]; rfl) ?_
        refine hK9 _ _ ?_; clear hK9
        refine V_reg T.mix (by kernel_rfl) ?_
        refine S_mv rfl ?_
        first | refine S_add rfl rfl (by omega) (by omega) ?_ | refine S_bin rfl rfl rfl ?_
        refine S_as rfl ?_
        refine S_nilk [0, 1, 5, 6, 7] (by simp only [proj, lk, reduceIte, Nat.reduceEqDiff]; rfl) ?_
        exact hK6 _ _ ⟨_, by omega, i + 1, st ||| 2 ^ i, by omega, or52 hsl (p52 (by omega)), fun j => by rw [or_bit]; exact st_yes (hsb j) (by rw [hlq]; first | (rw [decide_eq_true (show cdn (W.lits (i * 12)) = q by omega)]; rfl) | (rw [decide_eq_true (show cdn (W.lits (i * 12 + 1)) = q by omega), Bool.or_true])), rfl, rfl, rfl⟩
      · skip
        refine S_gt rfl ?_
        refine S_mv rfl ?_
        refine S_gt rfl ?_
        refine S_mv rfl ?_
        refine S_gt rfl ?_
        refine S_bin rfl rfl rfl ?_
        refine S_pf rfl rfl ?_
        refine S_nil (hK14 _ _ (V_keep [0, 1, 5, 6, 7, 56] (by simp only [proj, lk, reduceIte, Nat.reduceEqDiff]; rfl) ?_)); clear hK14
        refine V_condp rfl (fun c60 => ?_) (fun c60 => ?_)
        · skip
          refine V_reg T.mix (by kernel_rfl) ?_
          refine S_mv rfl ?_
          refine S_mv rfl ?_
          refine S_call T.hb99 rfl ?_
          refine FC.mono (bit_spec h i (by omega)) ?_
          rintro v' h' ⟨rfl, rfl⟩
          refine S_nor st (2 ^ i) _ rfl rfl rfl rfl rfl (t52 hsl) (t52 (p52 (by omega))) ?_
          refine S_as rfl ?_
          refine S_nilk [0, 1, 5, 6, 7] (by simp only [proj, lk, reduceIte, Nat.reduceEqDiff]; rfl) ?_
          refine hK9 _ _ ?_; clear hK9
          refine V_reg T.mix (by kernel_rfl) ?_
          refine S_mv rfl ?_
          first | refine S_add rfl rfl (by omega) (by omega) ?_ | refine S_bin rfl rfl rfl ?_
          refine S_as rfl ?_
          refine S_nilk [0, 1, 5, 6, 7] (by simp only [proj, lk, reduceIte, Nat.reduceEqDiff]; rfl) ?_
          exact hK6 _ _ ⟨_, by omega, i + 1, st ||| 2 ^ i, by omega, or52 hsl (p52 (by omega)), fun j => by rw [or_bit]; exact st_yes (hsb j) (by rw [hlq]; first | (rw [decide_eq_true (show cdn (W.lits (i * 12)) = q by omega)]; rfl) | (rw [decide_eq_true (show cdn (W.lits (i * 12 + 1)) = q by omega), Bool.or_true])), rfl, rfl, rfl⟩
        · skip
          refine V_skipk [0, 1, 5, 6, 7] (by simp only [proj, lk, reduceIte, Nat.reduceEqDiff]; rfl) ?_
          refine hK9 _ _ ?_; clear hK9
          refine V_reg T.mix (by kernel_rfl) ?_
          refine S_mv rfl ?_
          first | refine S_add rfl rfl (by omega) (by omega) ?_ | refine S_bin rfl rfl rfl ?_
          refine S_as rfl ?_
          refine S_nilk [0, 1, 5, 6, 7] (by simp only [proj, lk, reduceIte, Nat.reduceEqDiff]; rfl) ?_
          exact hK6 _ _ ⟨_, by omega, i + 1, st, by omega, hsl, fun j => st_no (hsb j) (by rw [hlq, decide_eq_false (show ¬ cdn (W.lits (i * 12)) = q by omega), decide_eq_false (show ¬ cdn (W.lits (i * 12 + 1)) = q by omega)]; rfl), rfl, rfl, rfl⟩
    · skip
      have hsd : (vw W i).sd = false := by rw [← sd_bit, ← hg]; simpa using c56
      have hlq := (w.i.lo i (by omega)).l q hq
      rw [vw_l hq, hsd, Bool.false_and] at hlq
      refine V_skipk [0, 1, 5, 6, 7] (by simp only [proj, lk, reduceIte, Nat.reduceEqDiff]; rfl) ?_
      refine hK9 _ _ ?_; clear hK9
      refine V_reg T.mix (by kernel_rfl) ?_
      refine S_mv rfl ?_
      first | refine S_add rfl rfl (by omega) (by omega) ?_ | refine S_bin rfl rfl rfl ?_
      refine S_as rfl ?_
      refine S_nilk [0, 1, 5, 6, 7] (by simp only [proj, lk, reduceIte, Nat.reduceEqDiff]; rfl) ?_
      exact hK6 _ _ ⟨_, by omega, i + 1, st, by omega, hsl, fun j => st_no (hsb j) hlq, rfl, rfl, rfl⟩
  · skip
    refine V_exitk [6] rfl (by simp only [proj, lk, reduceIte, Nat.reduceEqDiff]; rfl) ?_
    refine hK4 _ _ ?_; clear hK4
    refine V_sr T.mix (by kernel_rfl) (fun K15 hK15 => ?_)
    refine S_mv rfl ?_
    refine S_as rfl ?_
    refine S_nil (hK15 _ _ (V_keep [4] (by simp only [proj, lk, reduceIte, Nat.reduceEqDiff]; rfl) ?_)); clear hK15
    refine V_ret ?_
    refine hR _ _ (ret1 rfl rfl ?_)
    have hi52 : i = 52 := by omega
    subst hi52
    have hse : st = W.list q := Nat.eq_of_testBit_eq fun j => by
      rw [hsb j]
      by_cases e : j < 52
      · simp [e]
      · have hh := (w.i.hi j (by omega)).2.2.2 q
        rw [vw_l hq] at hh
        rw [hh]; simp
    exact ⟨by rw [hse], rfl⟩
set_option maxHeartbeats 1600000 in
theorem wcheck_spec (h : Heap) (C X : Nat) (W : WC) (cl : Nat → Option (List Int)) (s : TS) (p : Nat) (w : WX h C X W cl s p) :
    FC Tryz.prog 26 (#[.pointer (some ⟨C, 0, none⟩)] : Array Value) h fun rv h' => rv = .bool true ∧ h = h' := by
  have hB := w.b
  have hE := Ext.refl (fun x => x = C) h
  have hlt := w.i.lt
  have hsh : W.used / 2 ^ 52 = 0 := Nat.div_eq_of_lt hlt.1
  refine FC_of [(0, .pointer (some ⟨C, 0, none⟩))] Tryz.func26 rfl Tryz.ntmps26 (by simp) rfl (fun R hR => ?_)
  refine V_sr T.mix (by kernel_rfl) (fun K1 hK1 => ?_)
  refine S_as rfl ?_
  refine S_nil (hK1 _ _ (V_keep [0] (by simp only [proj, lk, reduceIte, Nat.reduceEqDiff]; rfl) ?_)); clear hK1
  refine V_seq (fun K2 hK2 => ?_)
  refine V_sr T.mix (by kernel_rfl) (fun K3 hK3 => ?_)
  refine S_mv rfl ?_
  refine S_nc rfl ?_
  first | refine S_fa0 T.f73_3 rfl ?_ | refine S_fa T.f73_3 rfl ?_
  refine S_ldK T.ag70 rfl (fun K' hK' => ?_)
  simp (disch := omega) only [wlT hB, wlLit hB, wlSize hB, wlUsed hB, wlFresh hB, wlWeak hB, wlList hB, wlVis hB, oP_some, Nat.add_zero]
  refine hK' _ ?_; clear hK' K'
  refine S_nshr W.used 52 _ rfl rfl rfl rfl rfl (by decide) ?_
  rw [hsh]
  refine S_bin rfl rfl rfl ?_
  refine S_mv rfl ?_
  refine S_dec (fun g74 => ?_) (fun g74 => ?_)
  · skip
    exfalso; exact g74 rfl
  · skip
    refine S_gt rfl ?_
    refine S_mv rfl ?_
    refine S_gt rfl ?_
    refine S_nc rfl ?_
    refine S_gt rfl ?_
    first | refine S_fa0 T.f73_7 rfl ?_ | refine S_fa T.f73_7 rfl ?_
    refine S_gt rfl ?_
    refine S_ldK T.ag3 rfl (fun K' hK' => ?_)
    simp (disch := omega) only [wlT hB, wlLit hB, wlSize hB, wlUsed hB, wlFresh hB, wlWeak hB, wlList hB, wlVis hB, oP_some, Nat.add_zero]
    refine hK' _ ?_; clear hK' K'
    refine S_gt rfl ?_
    refine S_bin rfl rfl rfl ?_
    refine S_pf rfl rfl ?_
    refine S_nil (hK3 _ _ (V_keep [0, 21] (by simp only [proj, lk, reduceIte, Nat.reduceEqDiff]; rfl) ?_)); clear hK3
    refine V_condp rfl (fun c74 => ?_) (fun c74 => ?_)
    · skip
      exfalso; omega
    · skip
      refine V_skipk [0] (by simp only [proj, lk, reduceIte, Nat.reduceEqDiff]; rfl) ?_
      refine hK2 _ _ ?_; clear hK2
      refine V_seq (fun K4 hK4 => ?_)
      refine V_sr T.mix (by kernel_rfl) (fun K5 hK5 => ?_)
      refine S_mv rfl ?_
      refine S_nc rfl ?_
      first | refine S_fa0 T.f73_4 rfl ?_ | refine S_fa T.f73_4 rfl ?_
      refine S_ldK T.ag70 rfl (fun K' hK' => ?_)
      simp (disch := omega) only [wlT hB, wlLit hB, wlSize hB, wlUsed hB, wlFresh hB, wlWeak hB, wlList hB, wlVis hB, oP_some, Nat.add_zero]
      refine hK' _ ?_; clear hK' K'
      refine S_mv rfl ?_
      refine S_nc rfl ?_
      first | refine S_fa0 T.f73_5 rfl ?_ | refine S_fa T.f73_5 rfl ?_
      refine S_ldK T.ag70 rfl (fun K' hK' => ?_)
      simp (disch := omega) only [wlT hB, wlLit hB, wlSize hB, wlUsed hB, wlFresh hB, wlWeak hB, wlList hB, wlVis hB, oP_some, Nat.add_zero]
      refine hK' _ ?_; clear hK' K'
      refine S_nor W.fresh W.weak _ rfl rfl rfl rfl rfl (t52 hlt.2.1) (t52 hlt.2.2) ?_
      refine S_mv rfl ?_
      refine S_nc rfl ?_
      first | refine S_fa0 T.f73_3 rfl ?_ | refine S_fa T.f73_3 rfl ?_
      refine S_ldK T.ag70 rfl (fun K' hK' => ?_)
      simp (disch := omega) only [wlT hB, wlLit hB, wlSize hB, wlUsed hB, wlFresh hB, wlWeak hB, wlList hB, wlVis hB, oP_some, Nat.add_zero]
      refine hK' _ ?_; clear hK' K'
      refine S_nandn (W.fresh ||| W.weak) W.used rfl rfl rfl rfl rfl (b52 (or52 hlt.2.1 hlt.2.2)) (b52 hlt.1) ?_
      rw [wo_sub w.i]
      refine S_bin rfl rfl rfl ?_
      refine S_mv rfl ?_
      refine S_dec (fun g77 => ?_) (fun g77 => ?_)
      · skip
        exfalso; exact g77 rfl
      · skip
        refine S_gt rfl ?_
        refine S_mv rfl ?_
        refine S_gt rfl ?_
        refine S_nc rfl ?_
        refine S_gt rfl ?_
        first | refine S_fa0 T.f73_4 rfl ?_ | refine S_fa T.f73_4 rfl ?_
        refine S_gt rfl ?_
        refine S_ldK T.ag70 rfl (fun K' hK' => ?_)
        simp (disch := omega) only [wlT hB, wlLit hB, wlSize hB, wlUsed hB, wlFresh hB, wlWeak hB, wlList hB, wlVis hB, oP_some, Nat.add_zero]
        refine hK' _ ?_; clear hK' K'
        refine S_gt rfl ?_
        refine S_mv rfl ?_
        refine S_gt rfl ?_
        refine S_nc rfl ?_
        refine S_gt rfl ?_
        first | refine S_fa0 T.f73_5 rfl ?_ | refine S_fa T.f73_5 rfl ?_
        refine S_gt rfl ?_
        refine S_ldK T.ag70 rfl (fun K' hK' => ?_)
        simp (disch := omega) only [wlT hB, wlLit hB, wlSize hB, wlUsed hB, wlFresh hB, wlWeak hB, wlList hB, wlVis hB, oP_some, Nat.add_zero]
        refine hK' _ ?_; clear hK' K'
        refine S_gt rfl ?_
        refine S_nand W.fresh W.weak _ rfl rfl rfl rfl rfl (t52 hlt.2.1) (t52 hlt.2.2) ?_
        rw [and_dis w.i]
        refine S_gt rfl ?_
        refine S_bin rfl rfl rfl ?_
        refine S_pf rfl rfl ?_
        refine S_nil (hK5 _ _ (V_keep [0, 48] (by simp only [proj, lk, reduceIte, Nat.reduceEqDiff]; rfl) ?_)); clear hK5
        refine V_condp rfl (fun c77 => ?_) (fun c77 => ?_)
        · skip
          exfalso; exact c77 rfl
        · skip
          refine V_skipk [0] (by simp only [proj, lk, reduceIte, Nat.reduceEqDiff]; rfl) ?_
          refine hK4 _ _ ?_; clear hK4
          refine V_sr T.mix (by kernel_rfl) (fun K6 hK6 => ?_)
          refine S_mv rfl ?_
          refine S_nc rfl ?_
          first | refine S_fa0 T.f73_3 rfl ?_ | refine S_fa T.f73_3 rfl ?_
          refine S_ldK T.ag70 rfl (fun K' hK' => ?_)
          simp (disch := omega) only [wlT hB, wlLit hB, wlSize hB, wlUsed hB, wlFresh hB, wlWeak hB, wlList hB, wlVis hB, oP_some, Nat.add_zero]
          refine hK' _ ?_; clear hK' K'
          refine S_mv rfl ?_
          refine S_nc rfl ?_
          first | refine S_fa0 T.f73_4 rfl ?_ | refine S_fa T.f73_4 rfl ?_
          refine S_ldK T.ag70 rfl (fun K' hK' => ?_)
          simp (disch := omega) only [wlT hB, wlLit hB, wlSize hB, wlUsed hB, wlFresh hB, wlWeak hB, wlList hB, wlVis hB, oP_some, Nat.add_zero]
          refine hK' _ ?_; clear hK' K'
          refine S_mv rfl ?_
          refine S_nc rfl ?_
          first | refine S_fa0 T.f73_5 rfl ?_ | refine S_fa T.f73_5 rfl ?_
          refine S_ldK T.ag70 rfl (fun K' hK' => ?_)
          simp (disch := omega) only [wlT hB, wlLit hB, wlSize hB, wlUsed hB, wlFresh hB, wlWeak hB, wlList hB, wlVis hB, oP_some, Nat.add_zero]
          refine hK' _ ?_; clear hK' K'
          refine S_nor W.fresh W.weak _ rfl rfl rfl rfl rfl (t52 hlt.2.1) (t52 hlt.2.2) ?_
          refine S_nandn W.used (W.fresh ||| W.weak) rfl rfl rfl rfl rfl (b52 hlt.1) (b52 (or52 hlt.2.1 hlt.2.2)) ?_
          refine S_as rfl ?_
          refine S_nil (hK6 _ _ (V_keep [0, 3] (by simp only [proj, lk, reduceIte, Nat.reduceEqDiff]; rfl) ?_)); clear hK6
          refine V_seq (fun K7 hK7 => ?_)
          refine V_sr T.mix (by kernel_rfl) (fun K8 hK8 => ?_)
          refine S_as rfl ?_
          refine S_nil (hK8 _ _ (V_keep [0, 3, 4] (by simp only [proj, lk, reduceIte, Nat.reduceEqDiff]; rfl) ?_)); clear hK8
          refine V_block ?_
          refine V_loop (fun m l h' => ∃ (i : Nat), (i ≤ 52) ∧ m = 52 - i ∧ l = [(0, .pointer (some ⟨C, 0, none⟩)), (3, .int .u64 ((wo W.used (W.fresh ||| W.weak) : Nat) : Int)), (4, .int .i64 (i : Int))] ∧ h = h') _ ⟨0, by omega, rfl, rfl, rfl⟩ ?_
          rintro m l h' ⟨i, hi, rfl, rfl, rfl⟩ K9 hK9
          refine V_seq (fun K10 hK10 => ?_)
          refine V_sr T.mix (by kernel_rfl) (fun K11 hK11 => ?_)
          refine S_mv rfl ?_
          refine S_bin rfl rfl rfl ?_
          refine S_nil (hK11 _ _ (V_keep [0, 3, 4, 64] (by simp only [proj, lk, reduceIte, Nat.reduceEqDiff]; rfl) ?_)); clear hK11
          refine V_condp rfl (fun c81 => ?_) (fun c81 => ?_)
          · skip
            refine V_skipk [0, 3, 4] (by simp only [proj, lk, reduceIte, Nat.reduceEqDiff]; rfl) ?_
            refine hK10 _ _ ?_; clear hK10
            refine V_seq (fun K12 hK12 => ?_)
            refine V_block ?_
            refine V_seqJ (fun l h' => (True) ∧ l = [(0, .pointer (some ⟨C, 0, none⟩)), (3, .int .u64 ((wo W.used (W.fresh ||| W.weak) : Nat) : Int)), (4, .int .i64 (i : Int))] ∧ h = h') ?_ ?_
            · skip
              refine V_sr T.mix (by kernel_rfl) (fun K14 hK14 => ?_)
              refine S_mv rfl ?_
              refine S_nc rfl ?_
              first | refine S_fa0 T.f73_3 rfl ?_ | refine S_fa T.f73_3 rfl ?_
              refine S_ldK T.ag70 rfl (fun K' hK' => ?_)
              simp (disch := omega) only [wlT hB, wlLit hB, wlSize hB, wlUsed hB, wlFresh hB, wlWeak hB, wlList hB, wlVis hB, oP_some, Nat.add_zero]
              refine hK' _ ?_; clear hK' K'
              refine S_mv rfl ?_
              refine S_call T.hb68 rfl ?_
              refine FC.mono (has_spec h (W.used) (i) (hlt.1) (by omega)) ?_
              rintro v' h' ⟨g, rfl, hg, rfl⟩
              refine S_notb rfl ?_
              refine S_nil (hK14 _ _ (V_keep [0, 3, 4, 73] (by simp only [proj, lk, reduceIte, Nat.reduceEqDiff]; rfl) ?_)); clear hK14
              refine V_condb rfl (fun c82 => ?_) (fun c82 => ?_)
              · skip
                have hu0 : W.used.testBit i = false := by rw [← hg]; simpa using c82
                have hsz0 : W.size i = 0 := by
                  have h9 := w.i.lo i (by omega)
                  have h8 := h9.u
                  simp only [vw] at h8
                  rw [hu0] at h8
                  exact h9.z (by simpa using h8.symm)
                refine V_sr T.mix (by kernel_rfl) (fun K15 hK15 => ?_)
                refine S_mv rfl ?_
                refine S_mv rfl ?_
                refine S_nc rfl ?_
                first | refine S_fa0 T.f73_2 rfl ?_ | refine S_fa T.f73_2 rfl ?_
                first | refine S_ixan T.ar69 rfl rfl (by omega) ?_ | refine S_ixa1 T.ar69 rfl rfl (by omega) (by omega) ?_
                refine S_ldK T.ag3 rfl (fun K' hK' => ?_)
                simp (disch := omega) only [wlT hB, wlLit hB, wlSize hB, wlUsed hB, wlFresh hB, wlWeak hB, wlList hB, wlVis hB, oP_some, Nat.add_zero]
                refine hK' _ ?_; clear hK' K'
                refine S_bin rfl rfl rfl ?_
                refine S_nil (hK15 _ _ (V_keep [0, 3, 4, 80] (by simp only [proj, lk, reduceIte, Nat.reduceEqDiff]; rfl) ?_)); clear hK15
                refine V_condp rfl (fun c83 => ?_) (fun c83 => ?_)
                · skip
                  exfalso; exact c83 (by rw [hsz0]; rfl)
                · skip
                  refine V_skipk [0, 3, 4] (by simp only [proj, lk, reduceIte, Nat.reduceEqDiff]; rfl) ?_
                  exact ⟨trivial, rfl, rfl⟩
              · skip
                obtain ⟨cc0, hcl0⟩ : ∃ cc, cl i = some cc := Option.isSome_iff_exists.1 (by rw [← w.i.u (by omega), ← hg]; simpa using c82)
                refine V_sr T.mix (by kernel_rfl) (fun K16 hK16 => ?_)
                refine S_mv rfl ?_
                refine S_mv rfl ?_
                refine S_call T.hb69 rfl ?_
                refine FC.mono (shape_spec h C X W cl s p w i (by omega) cc0 hcl0) ?_
                rintro v' h' ⟨rfl, rfl⟩
                refine S_notb rfl ?_
                refine S_nil (hK16 _ _ (V_keep [0, 3, 4, 84] (by simp only [proj, lk, reduceIte, Nat.reduceEqDiff]; rfl) ?_)); clear hK16
                refine V_condb rfl (fun c86 => ?_) (fun c86 => ?_)
                · skip
                  cases c86
                · skip
                  refine V_skipk [0, 3, 4] (by simp only [proj, lk, reduceIte, Nat.reduceEqDiff]; rfl) ?_
                  exact ⟨trivial, rfl, rfl⟩
            rintro l h' ⟨htt, rfl, rfl⟩
            refine V_sr T.mix (by kernel_rfl) (fun K17 hK17 => ?_)
            refine S_mv rfl ?_
            refine S_mv rfl ?_
            refine S_call T.hb68 rfl ?_
            refine FC.mono (has_spec h (wo W.used (W.fresh ||| W.weak)) (i) ((wo52 hlt.1)) (by omega)) ?_
            rintro v' h' ⟨g, rfl, hg, rfl⟩
            refine S_nil (hK17 _ _ (V_keep [0, 3, 4, 87] (by simp only [proj, lk, reduceIte, Nat.reduceEqDiff]; rfl) ?_)); clear hK17
            refine V_condb rfl (fun c89 => ?_) (fun c89 => ?_)
            · skip
              have hsd : (vw W i).sd = true := by rw [← sd_bit, ← hg]; simpa using c89
              obtain ⟨cc, hcl⟩ := sd_some w.i (by omega) hsd
              obtain ⟨hnr, hsz, harr⟩ := wi_arr w.i (by omega) hcl
              have hLo := w.i.lo i (by omega)
              obtain ⟨hn2, hH0, hH1⟩ := hLo.s hsd
              rw [vw_a (by omega), vw_a (by omega)] at hH0 hH1
              simp only [Nat.add_zero] at hH0 hH1
              replace hn2 : 2 ≤ cc.length := by rw [← hsz]; exact hn2
              have hg0 : gd (W.lits (i * 12)) := hnr.1 _ (harr.2.1 0 (by omega))
              have hg1 : gd (W.lits (i * 12 + 1)) := hnr.1 _ (harr.2.1 1 (by omega))
              refine V_seq (fun K18 hK18 => ?_)
              refine V_sr T.mix (by kernel_rfl) (fun K19 hK19 => ?_)
              refine S_mv rfl ?_
              refine S_mv rfl ?_
              refine S_nc rfl ?_
              first | refine S_fa0 T.f73_2 rfl ?_ | refine S_fa T.f73_2 rfl ?_
              first | refine S_ixan T.ar69 rfl rfl (by omega) ?_ | refine S_ixa1 T.ar69 rfl rfl (by omega) (by omega) ?_
              refine S_ldK T.ag3 rfl (fun K' hK' => ?_)
              simp (disch := omega) only [wlT hB, wlLit hB, wlSize hB, wlUsed hB, wlFresh hB, wlWeak hB, wlList hB, wlVis hB, oP_some, Nat.add_zero]
              refine hK' _ ?_; clear hK' K'
              refine S_bin rfl rfl rfl ?_
              refine S_nil (hK19 _ _ (V_keep [0, 3, 4, 94] (by simp only [proj, lk, reduceIte, Nat.reduceEqDiff]; rfl) ?_)); clear hK19
              refine V_condp rfl (fun c90 => ?_) (fun c90 => ?_)
              · skip
                exfalso; rw [hsz] at c90; omega
              · skip
                refine V_skipk [0, 3, 4] (by simp only [proj, lk, reduceIte, Nat.reduceEqDiff]; rfl) ?_
                refine hK18 _ _ ?_; clear hK18
                refine V_sr T.mix (by kernel_rfl) (fun K20 hK20 => ?_)
                refine S_mv rfl ?_
                refine S_mv rfl ?_
                first | refine S_mul rfl rfl (by omega) (by omega) ?_ | refine S_bin rfl rfl rfl ?_
                refine S_nc rfl ?_
                first | refine S_fa0 T.f73_1 rfl ?_ | refine S_fa T.f73_1 rfl ?_
                first | refine S_ixan T.ar68 rfl rfl (by omega) ?_ | refine S_ixa1 T.ar68 rfl rfl (by omega) (by omega) ?_
                refine S_ldK T.ag3 rfl (fun K' hK' => ?_)
                simp (disch := omega) only [wlT hB, wlLit hB, wlSize hB, wlUsed hB, wlFresh hB, wlWeak hB, wlList hB, wlVis hB, oP_some, Nat.add_zero]
                refine hK' _ ?_; clear hK' K'
                refine S_as rfl ?_
                refine S_nil (hK20 _ _ (V_keep [0, 3, 4, 5] (by simp only [proj, lk, reduceIte, Nat.reduceEqDiff]; rfl) ?_)); clear hK20
                refine V_sr T.mix (by kernel_rfl) (fun K21 hK21 => ?_)
                refine S_mv rfl ?_
                refine S_mv rfl ?_
                first | refine S_mul rfl rfl (by omega) (by omega) ?_ | refine S_bin rfl rfl rfl ?_
                first | refine S_add rfl rfl (by omega) (by omega) ?_ | refine S_bin rfl rfl rfl ?_
                refine S_nc rfl ?_
                first | refine S_fa0 T.f73_1 rfl ?_ | refine S_fa T.f73_1 rfl ?_
                first | refine S_ixan T.ar68 rfl rfl (by omega) ?_ | refine S_ixa1 T.ar68 rfl rfl (by omega) (by omega) ?_
                refine S_ldK T.ag3 rfl (fun K' hK' => ?_)
                simp (disch := omega) only [wlT hB, wlLit hB, wlSize hB, wlUsed hB, wlFresh hB, wlWeak hB, wlList hB, wlVis hB, oP_some, Nat.add_zero]
                refine hK' _ ?_; clear hK' K'
                refine S_as rfl ?_
                refine S_nil (hK21 _ _ (V_keep [0, 3, 4, 5, 6] (by simp only [proj, lk, reduceIte, Nat.reduceEqDiff]; rfl) ?_)); clear hK21
                refine V_seq (fun K22 hK22 => ?_)
                refine V_sr T.mix (by kernel_rfl) (fun K23 hK23 => ?_)
                refine S_mv rfl ?_
                refine S_mv rfl ?_
                refine S_mv rfl ?_
                refine S_call T.hb70 rfl ?_
                refine FC.mono (holds_spec h C X W cl s p w (W.lits (i * 12)) (W.lits (i * 12 + 1)) hg0 hg1 hH0) ?_
                rintro v' h' ⟨rfl, rfl⟩
                refine S_notb rfl ?_
                refine S_nil (hK23 _ _ (V_keep [0, 3, 4, 5, 6, 114] (by simp only [proj, lk, reduceIte, Nat.reduceEqDiff]; rfl) ?_)); clear hK23
                refine V_condb rfl (fun c95 => ?_) (fun c95 => ?_)
                · skip
                  cases c95
                · skip
                  refine V_skipk [0, 3, 4, 5, 6] (by simp only [proj, lk, reduceIte, Nat.reduceEqDiff]; rfl) ?_
                  refine hK22 _ _ ?_; clear hK22
                  refine V_sr T.mix (by kernel_rfl) (fun K24 hK24 => ?_)
                  refine S_mv rfl ?_
                  refine S_mv rfl ?_
                  refine S_mv rfl ?_
                  refine S_call T.hb70 rfl ?_
                  refine FC.mono (holds_spec h C X W cl s p w (W.lits (i * 12 + 1)) (W.lits (i * 12)) hg1 hg0 hH1) ?_
                  rintro v' h' ⟨rfl, rfl⟩
                  refine S_notb rfl ?_
                  refine S_nil (hK24 _ _ (V_keep [0, 3, 4, 119] (by simp only [proj, lk, reduceIte, Nat.reduceEqDiff]; rfl) ?_)); clear hK24
                  refine V_condb rfl (fun c98 => ?_) (fun c98 => ?_)
                  · skip
                    cases c98
                  · skip
                    refine V_skipk [0, 3, 4] (by simp only [proj, lk, reduceIte, Nat.reduceEqDiff]; rfl) ?_
                    refine hK12 _ _ ?_; clear hK12
                    refine V_reg T.mix (by kernel_rfl) ?_
                    refine S_mv rfl ?_
                    first | refine S_add rfl rfl (by omega) (by omega) ?_ | refine S_bin rfl rfl rfl ?_
                    refine S_as rfl ?_
                    refine S_nilk [0, 3, 4] (by simp only [proj, lk, reduceIte, Nat.reduceEqDiff]; rfl) ?_
                    exact hK9 _ _ ⟨_, by omega, i + 1, by omega, rfl, rfl, rfl⟩
            · skip
              refine V_skipk [0, 3, 4] (by simp only [proj, lk, reduceIte, Nat.reduceEqDiff]; rfl) ?_
              refine hK12 _ _ ?_; clear hK12
              refine V_reg T.mix (by kernel_rfl) ?_
              refine S_mv rfl ?_
              first | refine S_add rfl rfl (by omega) (by omega) ?_ | refine S_bin rfl rfl rfl ?_
              refine S_as rfl ?_
              refine S_nilk [0, 3, 4] (by simp only [proj, lk, reduceIte, Nat.reduceEqDiff]; rfl) ?_
              exact hK9 _ _ ⟨_, by omega, i + 1, by omega, rfl, rfl, rfl⟩
          · skip
            refine V_exitk [0] rfl (by simp only [proj, lk, reduceIte, Nat.reduceEqDiff]; rfl) ?_
            refine hK7 _ _ ?_; clear hK7
            refine V_seq (fun K25 hK25 => ?_)
            refine V_sr T.mix (by kernel_rfl) (fun K26 hK26 => ?_)
            refine S_as rfl ?_
            refine S_nil (hK26 _ _ (V_keep [0, 7] (by simp only [proj, lk, reduceIte, Nat.reduceEqDiff]; rfl) ?_)); clear hK26
            refine V_block ?_
            refine V_loop (fun m l h' => ∃ (v : Nat), (v ≤ 26) ∧ m = 26 - v ∧ l = [(0, .pointer (some ⟨C, 0, none⟩)), (7, .int .i64 (v : Int))] ∧ h = h') _ ⟨0, by omega, rfl, rfl, rfl⟩ ?_
            rintro m l h' ⟨v, hv, rfl, rfl, rfl⟩ K27 hK27
            refine V_seq (fun K28 hK28 => ?_)
            refine V_sr T.mix (by kernel_rfl) (fun K29 hK29 => ?_)
            refine S_mv rfl ?_
            refine S_bin rfl rfl rfl ?_
            refine S_nil (hK29 _ _ (V_keep [0, 7, 121] (by simp only [proj, lk, reduceIte, Nat.reduceEqDiff]; rfl) ?_)); clear hK29
            refine V_condp rfl (fun c103 => ?_) (fun c103 => ?_)
            · skip
              refine V_skipk [0, 7] (by simp only [proj, lk, reduceIte, Nat.reduceEqDiff]; rfl) ?_
              refine hK28 _ _ ?_; clear hK28
              refine V_seq (fun K30 hK30 => ?_)
              refine V_block ?_
              refine V_sr T.mix (by kernel_rfl) (fun K31 hK31 => ?_)
              refine S_mv rfl ?_
              refine S_mv rfl ?_
              refine S_call T.hb71 rfl ?_
              refine FC.mono (watchers_spec h C X W cl s p w v (by omega)) ?_
              rintro v' h' ⟨rfl, rfl⟩
              refine S_as rfl ?_
              refine S_nil (hK31 _ _ (V_keep [0, 7, 8] (by simp only [proj, lk, reduceIte, Nat.reduceEqDiff]; rfl) ?_)); clear hK31
              refine V_sr T.mix (by kernel_rfl) (fun K32 hK32 => ?_)
              refine S_mv rfl ?_
              refine S_mv rfl ?_
              refine S_nc rfl ?_
              first | refine S_fa0 T.f73_6 rfl ?_ | refine S_fa T.f73_6 rfl ?_
              first | refine S_ixan T.ar71 rfl rfl (by omega) ?_ | refine S_ixa1 T.ar71 rfl rfl (by omega) (by omega) ?_
              refine S_ldK T.ag70 rfl (fun K' hK' => ?_)
              simp (disch := omega) only [wlT hB, wlLit hB, wlSize hB, wlUsed hB, wlFresh hB, wlWeak hB, wlList hB, wlVis hB, oP_some, Nat.add_zero]
              refine hK' _ ?_; clear hK' K'
              refine S_mv rfl ?_
              refine S_bin rfl rfl rfl ?_
              refine S_nil (hK32 _ _ (V_keep [0, 7, 134] (by simp only [proj, lk, reduceIte, Nat.reduceEqDiff]; rfl) ?_)); clear hK32
              refine V_condp rfl (fun c105 => ?_) (fun c105 => ?_)
              · skip
                exfalso; exact c105 rfl
              · skip
                refine V_skipk [0, 7] (by simp only [proj, lk, reduceIte, Nat.reduceEqDiff]; rfl) ?_
                refine hK30 _ _ ?_; clear hK30
                refine V_reg T.mix (by kernel_rfl) ?_
                refine S_mv rfl ?_
                first | refine S_add rfl rfl (by omega) (by omega) ?_ | refine S_bin rfl rfl rfl ?_
                refine S_as rfl ?_
                refine S_nilk [0, 7] (by simp only [proj, lk, reduceIte, Nat.reduceEqDiff]; rfl) ?_
                exact hK27 _ _ ⟨_, by omega, v + 1, by omega, rfl, rfl, rfl⟩
            · skip
              refine V_exitk [] rfl (by simp only [proj, lk, reduceIte, Nat.reduceEqDiff]; rfl) ?_
              refine hK25 _ _ ?_; clear hK25
              refine V_sr T.mix (by kernel_rfl) (fun K33 hK33 => ?_)
              refine S_as rfl ?_
              refine S_nil (hK33 _ _ (V_keep [2] (by simp only [proj, lk, reduceIte, Nat.reduceEqDiff]; rfl) ?_)); clear hK33
              refine V_ret ?_
              refine hR _ _ (ret1 rfl rfl ?_)
              exact ⟨rfl, rfl⟩
end Go.Proofs.Qxb6500403aGreat
