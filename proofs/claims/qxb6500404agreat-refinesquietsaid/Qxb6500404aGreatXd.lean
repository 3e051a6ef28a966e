import Derived.Test.Qxb6500404aGreatXc
set_option linter.unusedVariables false
set_option linter.unusedSimpArgs false
namespace Go.Proofs.Qxb6500404aGreat.HufW
open Go.Eng Go.Huf

theorem planE_1 {cl : List Int} {lim : Int} (h : 265 < cl.length) : planE cl lim = 1 := if_pos h
theorem planE_2 {cl : List Int} {lim : Int} (h0 : ¬ 265 < cl.length) (h : lim < 1 ∨ 10 < lim) : planE cl lim = 2 := by unfold planE; rw [if_neg h0, if_pos h]
theorem planE_3 {cl : List Int} {L : Nat} (h0 : ¬ 265 < cl.length) (h1 : 1 ≤ L) (h2 : L ≤ 10) (h : ¬ okC cl) : planE cl L = 2 := by unfold planE; rw [if_neg h0, if_neg (by omega), if_pos h]
theorem planE_4 {cl : List Int} {L : Nat} (h0 : ¬ 265 < cl.length) (h1 : 1 ≤ L) (h2 : L ≤ 10) (h3 : okC cl) (h : 2 ^ L < liv (cf cl) cl.length) : planE cl L = 2 := by unfold planE; rw [if_neg h0, if_neg (by omega), if_neg (fun e => e h3), Int.toNat_natCast, if_pos h]
theorem planE_0 {cl : List Int} {L : Nat} (h0 : ¬ 265 < cl.length) (h1 : 1 ≤ L) (h2 : L ≤ 10) (h3 : okC cl) (h : ¬ 2 ^ L < liv (cf cl) cl.length) : planE cl L = 0 := by unfold planE; rw [if_neg h0, if_neg (by omega), if_neg (fun e => e h3), Int.toNat_natCast, if_neg h]
theorem planR_no {cl : List Int} {lim : Int} {e : Nat} (h : planE cl lim = e + 1) : planR cl lim = [] := by unfold planR; rw [if_neg (by omega)]
theorem planR_ok {cl : List Int} {L : Nat} (h : planE cl L = 0) : planR cl L = il cl.length (planL cl L) := by unfold planR; rw [if_pos h, Int.toNat_natCast]
theorem planL_1 {cl : List Int} {L : Nat} (h : liv (cf cl) cl.length < 2) : planL cl L = fun i => if 0 < cf cl i then 1 else 0 := by unfold planL; rw [if_pos h]
theorem planL_2 {cl : List Int} {L : Nat} (h : ¬ liv (cf cl) cl.length < 2) : planL cl L = mend cl.length (cf cl) L (pln cl.length (cf cl)) := by unfold planL; rw [if_neg h]
theorem cf_at {cl : List Int} {i : Nat} (h : 0 ≤ cl.getD i 0) : cl.getD i 0 = (cf cl i : Int) := by unfold cf; omega
theorem liv_snoc (c : Nat → Nat) (i : Nat) : liv c (i + 1) = if 0 < c i then liv c i + 1 else liv c i := ct_succ _ _
theorem liv_le (c : Nat → Nat) (i : Nat) : liv c i ≤ i := ct_le _ _
set_option maxHeartbeats 3200000 in
theorem plan_spec (h : Heap) (X : Nat) (u : HC) (c : CB h X u) (ca : Option Addr) (cap : Nat) (cl : List Int) (hIc : OL h ca cap cl) (hax : ∀ b, blkA ca = some b → ¬ CT X b) (lim : Int) (hfu : u.fill ≤ 265) :
    FC Tryz.prog 125 (#[.pointer (some ⟨X, 0, none⟩), .slice ca cl.length cap, .int .i64 lim] : Array Value) h fun rv h' => ∃ (xa : Option Addr) (v : HC), rv = .tuple #[.slice xa (planR cl lim).length (planR cl lim).length, .int .i64 ((planE cl lim : Nat) : Int)] ∧ IL h' xa (planR cl lim).length (planR cl lim) ∧ (∀ b, blkA xa = some b → h.size ≤ b) ∧ CB h' X v ∧ KC u v ∧ v.fill ≤ 265 ∧ Ext (CT X) h h' := by
  have hXl := c.lt
  refine FC_of [(0, .pointer (some ⟨X, 0, none⟩)), (1, .slice ca cl.length cap), (2, .int .i64 lim)] Tryz.func125 rfl Tryz.ntmps125 (by simp) rfl (fun R hR => ?_)
  refine V_sr T.mix (by kernel_rfl) (fun K1 hK1 => ?_)
  refine S_as rfl ?_
  refine S_as rfl ?_
  refine S_nil (hK1 _ _ (V_keep [0, 1, 2] (by simp only [proj, lk, reduceIte, Nat.reduceEqDiff]; rfl) ?_)); clear hK1
  refine V_seq (fun K2 hK2 => ?_)
  refine V_sr T.mix (by kernel_rfl) (fun K3 hK3 => ?_)
  refine S_mv rfl ?_
  refine S_lenl T.el56 rfl ?_
  refine S_bin rfl rfl rfl ?_
  refine S_nil (hK3 _ _ (V_keep [0, 1, 2, 15] (by simp only [proj, lk, reduceIte, Nat.reduceEqDiff]; rfl) ?_)); clear hK3
  refine V_condp rfl (fun c56 => ?_) (fun c56 => ?_)
  · skip
    refine V_sr T.mix (by kernel_rfl) (fun K4 hK4 => ?_)
    refine S_as rfl ?_
    refine S_as rfl ?_
    refine S_nil (hK4 _ _ (V_keep [6, 7] (by simp only [proj, lk, reduceIte, Nat.reduceEqDiff]; rfl) ?_)); clear hK4
    refine V_ret ?_
    refine hR _ _ (ret2 rfl rfl rfl ?_)
    have hpe : planE cl lim = 1 := planE_1 (by omega)
    have hpr := planR_no (show planE cl lim = 0 + 1 from hpe)
    exact ⟨none, u, by rw [hpr, hpe]; rfl, by rw [hpr]; exact IL.nil _, by simp [blkA], c, KC.refl _, hfu, Ext.refl _ _⟩
  · skip
    refine V_skipk [0, 1, 2] (by simp only [proj, lk, reduceIte, Nat.reduceEqDiff]; rfl) ?_
    refine hK2 _ _ ?_; clear hK2
    refine V_seq (fun K5 hK5 => ?_)
    refine V_sr T.mix (by kernel_rfl) (fun K6 hK6 => ?_)
    refine S_mv rfl ?_
    refine S_bin rfl rfl rfl ?_
    refine S_mv rfl ?_
    refine S_dec (fun g59 => ?_) (fun g59 => ?_)
    · skip
      refine S_gf rfl ?_
      refine S_gf rfl ?_
      refine S_pt rfl rfl ?_
      refine S_nil (hK6 _ _ (V_keep [0, 1, 2, 21] (by simp only [proj, lk, reduceIte, Nat.reduceEqDiff]; rfl) ?_)); clear hK6
      refine V_condt rfl ?_
      refine V_sr T.mix (by kernel_rfl) (fun K7 hK7 => ?_)
      refine S_as rfl ?_
      refine S_as rfl ?_
      refine S_nil (hK7 _ _ (V_keep [6, 7] (by simp only [proj, lk, reduceIte, Nat.reduceEqDiff]; rfl) ?_)); clear hK7
      refine V_ret ?_
      refine hR _ _ (ret2 rfl rfl rfl ?_)
      have hpe : planE cl lim = 2 := planE_2 (by omega) (by omega)
      have hpr := planR_no (show planE cl lim = 1 + 1 from hpe)
      exact ⟨none, u, by rw [hpr, hpe]; rfl, by rw [hpr]; exact IL.nil _, by simp [blkA], c, KC.refl _, hfu, Ext.refl _ _⟩
    · skip
      refine S_gt rfl ?_
      refine S_mv rfl ?_
      refine S_gt rfl ?_
      refine S_bin rfl rfl rfl ?_
      refine S_pf rfl rfl ?_
      refine S_nil (hK6 _ _ (V_keep [0, 1, 2, 21] (by simp only [proj, lk, reduceIte, Nat.reduceEqDiff]; rfl) ?_)); clear hK6
      refine V_condp rfl (fun c59 => ?_) (fun c59 => ?_)
      · skip
        refine V_sr T.mix (by kernel_rfl) (fun K8 hK8 => ?_)
        refine S_as rfl ?_
        refine S_as rfl ?_
        refine S_nil (hK8 _ _ (V_keep [6, 7] (by simp only [proj, lk, reduceIte, Nat.reduceEqDiff]; rfl) ?_)); clear hK8
        refine V_ret ?_
        refine hR _ _ (ret2 rfl rfl rfl ?_)
        have hpe : planE cl lim = 2 := planE_2 (by omega) (by omega)
        have hpr := planR_no (show planE cl lim = 1 + 1 from hpe)
        exact ⟨none, u, by rw [hpr, hpe]; rfl, by rw [hpr]; exact IL.nil _, by simp [blkA], c, KC.refl _, hfu, Ext.refl _ _⟩
      · skip
        obtain ⟨L, hL⟩ : ∃ L : Nat, lim = L := ⟨lim.toNat, by omega⟩
        subst hL
        have hL1 : 1 ≤ L := by omega
        have hL2 : L ≤ 10 := by omega
        have hp10 := p10 hL2
        have hpp := pp2 L
        refine V_skipk [0, 1, 2] (by simp only [proj, lk, reduceIte, Nat.reduceEqDiff]; rfl) ?_
        refine hK5 _ _ ?_; clear hK5
        refine V_sr T.mix (by kernel_rfl) (fun K9 hK9 => ?_)
        refine S_as rfl ?_
        refine S_nil (hK9 _ _ (V_keep [0, 1, 2, 8] (by simp only [proj, lk, reduceIte, Nat.reduceEqDiff]; rfl) ?_)); clear hK9
        refine V_seq (fun K10 hK10 => ?_)
        refine V_sr T.mix (by kernel_rfl) (fun K11 hK11 => ?_)
        refine S_as rfl ?_
        refine S_nil (hK11 _ _ (V_keep [0, 1, 2, 8, 9] (by simp only [proj, lk, reduceIte, Nat.reduceEqDiff]; rfl) ?_)); clear hK11
        refine V_block ?_
        refine V_loop (fun m l h' => ∃ (i us : Nat), (i ≤ cl.length) ∧ (us = liv (cf cl) i) ∧ (∀ j, j < i → 0 ≤ cl.getD j 0 ∧ cl.getD j 0 ≤ 1048576) ∧ m = cl.length - i ∧ l = [(0, .pointer (some ⟨X, 0, none⟩)), (1, .slice ca cl.length cap), (2, .int .i64 (L : Int)), (8, .int .i64 (us : Int)), (9, .int .i64 (i : Int))] ∧ h = h') _ ⟨0, 0, Nat.zero_le _, rfl, fun j hj => by omega, rfl, rfl, rfl⟩ ?_
        rintro m l h' ⟨i, us, hi, hus, hokp, rfl, rfl, rfl⟩ K12 hK12
        have hul := liv_le (cf cl) i
        refine V_seq (fun K13 hK13 => ?_)
        refine V_sr T.mix (by kernel_rfl) (fun K14 hK14 => ?_)
        refine S_mv rfl ?_
        refine S_mv rfl ?_
        refine S_lenl T.el56 rfl ?_
        refine S_bin rfl rfl rfl ?_
        refine S_nil (hK14 _ _ (V_keep [0, 1, 2, 8, 9, 25] (by simp only [proj, lk, reduceIte, Nat.reduceEqDiff]; rfl) ?_)); clear hK14
        refine V_condp rfl (fun c63 => ?_) (fun c63 => ?_)
        · skip
          obtain ⟨ab, ao, habe, _, hat⟩ := hIc.get (by omega)
          subst habe
          have habl := hIc.lt rfl
          refine V_skipk [0, 1, 2, 8, 9] (by simp only [proj, lk, reduceIte, Nat.reduceEqDiff]; rfl) ?_
          refine hK13 _ _ ?_; clear hK13
          refine V_seq (fun K15 hK15 => ?_)
          refine V_block ?_
          refine V_seq (fun K16 hK16 => ?_)
          refine V_sr T.mix (by kernel_rfl) (fun K17 hK17 => ?_)
          refine S_mv rfl ?_
          refine S_mv rfl ?_
          first | refine S_ixn T.el56 rfl rfl (by omega) ?_ | refine S_ix1 T.el56 rfl rfl (by omega) (by omega) ?_ | refine S_ix T.el56 rfl rfl (by omega) (by omega) ?_
          refine S_ldK T.ag3 rfl (fun K' hK' => ?_)
          simp (disch := omega) only [hat, Nat.mul_one, Int.toNat_natCast, oP_some, Nat.add_zero]
          refine hK' _ ?_; clear hK' K'
          refine S_bin rfl rfl rfl ?_
          refine S_mv rfl ?_
          refine S_dec (fun g64 => ?_) (fun g64 => ?_)
          · skip
            refine S_gf rfl ?_
            refine S_gf rfl ?_
            refine S_gf rfl ?_
            refine S_gf rfl ?_
            refine S_gf rfl ?_
            refine S_pt rfl rfl ?_
            refine S_nil (hK17 _ _ (V_keep [0, 1, 2, 8, 9, 39] (by simp only [proj, lk, reduceIte, Nat.reduceEqDiff]; rfl) ?_)); clear hK17
            refine V_condt rfl ?_
            refine V_sr T.mix (by kernel_rfl) (fun K18 hK18 => ?_)
            refine S_as rfl ?_
            refine S_as rfl ?_
            refine S_nil (hK18 _ _ (V_keep [6, 7] (by simp only [proj, lk, reduceIte, Nat.reduceEqDiff]; rfl) ?_)); clear hK18
            refine V_ret ?_
            refine hR _ _ (ret2 rfl rfl rfl ?_)
            have hpe : planE cl L = 2 := planE_3 (by omega) hL1 hL2 (fun e => by have h9 := e i (by omega); omega)
            have hpr := planR_no (show planE cl L = 1 + 1 from hpe)
            exact ⟨none, u, by rw [hpr, hpe]; rfl, by rw [hpr]; exact IL.nil _, by simp [blkA], c, KC.refl _, hfu, Ext.refl _ _⟩
          · skip
            refine S_gt rfl ?_
            refine S_mv rfl ?_
            refine S_gt rfl ?_
            refine S_mv rfl ?_
            refine S_gt rfl ?_
            first | refine S_ixn T.el56 rfl rfl (by omega) ?_ | refine S_ix1 T.el56 rfl rfl (by omega) (by omega) ?_ | refine S_ix T.el56 rfl rfl (by omega) (by omega) ?_
            refine S_gt rfl ?_
            refine S_ldK T.ag3 rfl (fun K' hK' => ?_)
            simp (disch := omega) only [hat, Nat.mul_one, Int.toNat_natCast, oP_some, Nat.add_zero]
            refine hK' _ ?_; clear hK' K'
            refine S_gt rfl ?_
            refine S_bin rfl rfl rfl ?_
            refine S_pf rfl rfl ?_
            refine S_nil (hK17 _ _ (V_keep [0, 1, 2, 8, 9, 39] (by simp only [proj, lk, reduceIte, Nat.reduceEqDiff]; rfl) ?_)); clear hK17
            refine V_condp rfl (fun c64 => ?_) (fun c64 => ?_)
            · skip
              refine V_sr T.mix (by kernel_rfl) (fun K19 hK19 => ?_)
              refine S_as rfl ?_
              refine S_as rfl ?_
              refine S_nil (hK19 _ _ (V_keep [6, 7] (by simp only [proj, lk, reduceIte, Nat.reduceEqDiff]; rfl) ?_)); clear hK19
              refine V_ret ?_
              refine hR _ _ (ret2 rfl rfl rfl ?_)
              have hpe : planE cl L = 2 := planE_3 (by omega) hL1 hL2 (fun e => by have h9 := e i (by omega); omega)
              have hpr := planR_no (show planE cl L = 1 + 1 from hpe)
              exact ⟨none, u, by rw [hpr, hpe]; rfl, by rw [hpr]; exact IL.nil _, by simp [blkA], c, KC.refl _, hfu, Ext.refl _ _⟩
            · skip
              refine V_skipk [0, 1, 2, 8, 9] (by simp only [proj, lk, reduceIte, Nat.reduceEqDiff]; rfl) ?_
              refine hK16 _ _ ?_; clear hK16
              refine V_sr T.mix (by kernel_rfl) (fun K20 hK20 => ?_)
              refine S_mv rfl ?_
              refine S_mv rfl ?_
              first | refine S_ixn T.el56 rfl rfl (by omega) ?_ | refine S_ix1 T.el56 rfl rfl (by omega) (by omega) ?_ | refine S_ix T.el56 rfl rfl (by omega) (by omega) ?_
              refine S_ldK T.ag3 rfl (fun K' hK' => ?_)
              simp (disch := omega) only [hat, Nat.mul_one, Int.toNat_natCast, oP_some, Nat.add_zero]
              refine hK' _ ?_; clear hK' K'
              refine S_bin rfl rfl rfl ?_
              refine S_nil (hK20 _ _ (V_keep [0, 1, 2, 8, 9, 44] (by simp only [proj, lk, reduceIte, Nat.reduceEqDiff]; rfl) ?_)); clear hK20
              refine V_condp rfl (fun c67 => ?_) (fun c67 => ?_)
              · skip
                refine V_reg T.mix (by kernel_rfl) ?_
                refine S_mv rfl ?_
                refine S_addN (us + 1) rfl rfl (by omega) (by omega) ?_
                refine S_as rfl ?_
                refine S_nilk [0, 1, 2, 8, 9] (by simp only [proj, lk, reduceIte, Nat.reduceEqDiff]; rfl) ?_
                refine hK15 _ _ ?_; clear hK15
                refine V_reg T.mix (by kernel_rfl) ?_
                refine S_mv rfl ?_
                first | refine S_add rfl rfl (by omega) (by omega) ?_ | refine S_bin rfl rfl rfl ?_
                refine S_as rfl ?_
                refine S_nilk [0, 1, 2, 8, 9] (by simp only [proj, lk, reduceIte, Nat.reduceEqDiff]; rfl) ?_
                exact hK12 _ _ ⟨_, by omega, i + 1, us + 1, by omega, by rw [hus, liv_snoc, if_pos (by unfold cf; omega)], fun j hj => by by_cases e : j = i; (rw [e]; omega); (exact hokp j (by omega)), rfl, rfl, rfl⟩
              · skip
                refine V_skipk [0, 1, 2, 8, 9] (by simp only [proj, lk, reduceIte, Nat.reduceEqDiff]; rfl) ?_
                refine hK15 _ _ ?_; clear hK15
                refine V_reg T.mix (by kernel_rfl) ?_
                refine S_mv rfl ?_
                first | refine S_add rfl rfl (by omega) (by omega) ?_ | refine S_bin rfl rfl rfl ?_
                refine S_as rfl ?_
                refine S_nilk [0, 1, 2, 8, 9] (by simp only [proj, lk, reduceIte, Nat.reduceEqDiff]; rfl) ?_
                exact hK12 _ _ ⟨_, by omega, i + 1, us, by omega, by rw [hus, liv_snoc, if_neg (by unfold cf; omega)], fun j hj => by by_cases e : j = i; (rw [e]; omega); (exact hokp j (by omega)), rfl, rfl, rfl⟩
        · skip
          have hiN : i = cl.length := by omega
          rw [hiN] at hus hokp
          have hok : okC cl := hokp
          have hul2 := liv_le (cf cl) cl.length
          refine V_exitk [0, 1, 2, 8] rfl (by simp only [proj, lk, reduceIte, Nat.reduceEqDiff]; rfl) ?_
          refine hK10 _ _ ?_; clear hK10
          refine V_seq (fun K21 hK21 => ?_)
          refine V_sr T.mix (by kernel_rfl) (fun K22 hK22 => ?_)
          refine S_mv rfl ?_
          refine S_mv rfl ?_
          refine S_cvN L T.us3 T.in105 rfl rfl (tu64 (by omega)) ?_
          refine S_nshl 1 L (2 ^ L) rfl rfl rfl rfl (Nat.one_mul _) (show L ≤ 64 by omega) (t64 (by omega)) ?_
          refine S_bin rfl rfl rfl ?_
          refine S_nil (hK22 _ _ (V_keep [0, 1, 2, 8, 51] (by simp only [proj, lk, reduceIte, Nat.reduceEqDiff]; rfl) ?_)); clear hK22
          refine V_condp rfl (fun c71 => ?_) (fun c71 => ?_)
          · skip
            refine V_sr T.mix (by kernel_rfl) (fun K23 hK23 => ?_)
            refine S_as rfl ?_
            refine S_as rfl ?_
            refine S_nil (hK23 _ _ (V_keep [6, 7] (by simp only [proj, lk, reduceIte, Nat.reduceEqDiff]; rfl) ?_)); clear hK23
            refine V_ret ?_
            refine hR _ _ (ret2 rfl rfl rfl ?_)
            have hpe : planE cl L = 2 := planE_4 (by omega) hL1 hL2 hok (by omega)
            have hpr := planR_no (show planE cl L = 1 + 1 from hpe)
            exact ⟨none, u, by rw [hpr, hpe]; rfl, by rw [hpr]; exact IL.nil _, by simp [blkA], c, KC.refl _, hfu, Ext.refl _ _⟩
          · skip
            have hpe : planE cl L = 0 := planE_0 (by omega) hL1 hL2 hok (by omega)
            have hpr := planR_ok hpe
            have hil := okC_il hok
            refine V_skipk [0, 1, 2, 8] (by simp only [proj, lk, reduceIte, Nat.reduceEqDiff]; rfl) ?_
            refine hK21 _ _ ?_; clear hK21
            refine V_sr T.mix (by kernel_rfl) (fun K24 hK24 => ?_)
            refine S_mv rfl ?_
            refine S_lenl T.el56 rfl ?_
            refine S_mk T.ei56 rfl rfl (by omega) (by omega) (by omega) (by omega) ?_
            rw [mkZ_one]
            generalize hh : Array.push h _ = h1
            have hob : B h1 h.size (ia cl.length (fun _ => 0)) 3 := by rw [← hh]; simpa [ia] using B.new h _ 3
            have hEh1 : Ext (fun _ => False) h h1 := by rw [← hh]; exact Ext.push _ _ _
            have hsh1 : h1.size = h.size + 1 := by rw [← hh]; simp
            clear hh
            have c1 := c.new hEh1
            have hIc1 := hIc.ext hEh1 (fun _ _ f => f)
            refine S_as rfl ?_
            refine S_nil (hK24 _ _ (V_keep [0, 1, 2, 8, 10] (by simp only [proj, lk, reduceIte, Nat.reduceEqDiff]; rfl) ?_)); clear hK24
            refine V_seq (fun K25 hK25 => ?_)
            refine V_sr T.mix (by kernel_rfl) (fun K26 hK26 => ?_)
            refine S_mv rfl ?_
            refine S_bin rfl rfl rfl ?_
            refine S_nil (hK26 _ _ (V_keep [0, 1, 2, 10, 56] (by simp only [proj, lk, reduceIte, Nat.reduceEqDiff]; rfl) ?_)); clear hK26
            refine V_condp rfl (fun c75 => ?_) (fun c75 => ?_)
            · skip
              refine V_seq (fun K27 hK27 => ?_)
              refine V_sr T.mix (by kernel_rfl) (fun K28 hK28 => ?_)
              refine S_as rfl ?_
              refine S_nil (hK28 _ _ (V_keep [1, 10, 11] (by simp only [proj, lk, reduceIte, Nat.reduceEqDiff]; rfl) ?_)); clear hK28
              refine V_block ?_
              refine V_loop (fun m l h' => ∃ (i : Nat) (hk : Heap) (A : Nat → Nat), (i ≤ cl.length) ∧ (B hk h.size (ia cl.length A) 3) ∧ (∀ j, j < i → A j = if 0 < cf cl j then 1 else 0) ∧ (∀ j, i ≤ j → A j = 0) ∧ (Ext (fun b => b = h.size) h1 hk) ∧ m = cl.length - i ∧ l = [(1, .slice ca cl.length cap), (10, .slice (some ⟨h.size, 0, none⟩) cl.length cl.length), (11, .int .i64 (i : Int))] ∧ hk = h') _ ⟨0, h1, fun _ => 0, Nat.zero_le _, hob, fun j hj => by omega, fun _ _ => rfl, Ext.refl _ _, rfl, rfl, rfl⟩ ?_
              rintro m l h' ⟨i, hk, A, hi, hA, hA1, hA2, hEk, rfl, rfl, rfl⟩ K29 hK29
              have hoo := ia_ok hA
              have hIk := hIc1.ext hEk (fun b e z => by have h9 := hIc.lt e; omega)
              refine V_seq (fun K30 hK30 => ?_)
              refine V_sr T.mix (by kernel_rfl) (fun K31 hK31 => ?_)
              refine S_mv rfl ?_
              refine S_mv rfl ?_
              refine S_lenl T.el56 rfl ?_
              refine S_bin rfl rfl rfl ?_
              refine S_nil (hK31 _ _ (V_keep [1, 10, 11, 60] (by simp only [proj, lk, reduceIte, Nat.reduceEqDiff]; rfl) ?_)); clear hK31
              refine V_condp rfl (fun c76 => ?_) (fun c76 => ?_)
              · skip
                obtain ⟨ab, ao, habe, _, hat⟩ := hIk.get (by omega)
                subst habe
                refine V_skipk [1, 10, 11] (by simp only [proj, lk, reduceIte, Nat.reduceEqDiff]; rfl) ?_
                refine hK30 _ _ ?_; clear hK30
                refine V_seq (fun K32 hK32 => ?_)
                refine V_block ?_
                refine V_sr T.mix (by kernel_rfl) (fun K33 hK33 => ?_)
                refine S_mv rfl ?_
                refine S_mv rfl ?_
                first | refine S_ixn T.el56 rfl rfl (by omega) ?_ | refine S_ix1 T.el56 rfl rfl (by omega) (by omega) ?_ | refine S_ix T.el56 rfl rfl (by omega) (by omega) ?_
                refine S_ldK T.ag3 rfl (fun K' hK' => ?_)
                simp (disch := omega) only [hat, Nat.mul_one, Int.toNat_natCast, oP_some, Nat.add_zero]
                refine hK' _ ?_; clear hK' K'
                refine S_bin rfl rfl rfl ?_
                refine S_nil (hK33 _ _ (V_keep [1, 10, 11, 67] (by simp only [proj, lk, reduceIte, Nat.reduceEqDiff]; rfl) ?_)); clear hK33
                refine V_condp rfl (fun c77 => ?_) (fun c77 => ?_)
                · skip
                  refine V_reg T.mix (by kernel_rfl) ?_
                  refine S_mv rfl ?_
                  refine S_mv rfl ?_
                  first | refine S_ixn T.el56 rfl rfl (by omega) ?_ | refine S_ix1 T.el56 rfl rfl (by omega) (by omega) ?_ | refine S_ix T.el56 rfl rfl (by omega) (by omega) ?_
                  refine S_st T.sz3 rfl rfl rfl rfl (by simp (disch := omega) only [hoo]) ?_
                  generalize hh : putH _ _ _ = h2
                  have hB2 : B h2 h.size (ia cl.length (ups A i 1)) 3 := by rw [← hh]; exact ia_put hA i 1
                  have hE2 : Ext (fun b => b = h.size) hk h2 := by rw [← hh]; exact Ext.put _ _ rfl
                  clear hh
                  refine S_nilk [1, 10, 11] (by simp only [proj, lk, reduceIte, Nat.reduceEqDiff]; rfl) ?_
                  refine hK32 _ _ ?_; clear hK32
                  refine V_reg T.mix (by kernel_rfl) ?_
                  refine S_mv rfl ?_
                  first | refine S_add rfl rfl (by omega) (by omega) ?_ | refine S_bin rfl rfl rfl ?_
                  refine S_as rfl ?_
                  refine S_nilk [1, 10, 11] (by simp only [proj, lk, reduceIte, Nat.reduceEqDiff]; rfl) ?_
                  exact hK29 _ _ ⟨_, by omega, i + 1, h2, ups A i 1, by omega, hB2, fun j hj => by by_cases e : j = i; (rw [e, ups_eq, if_pos (by unfold cf; omega)]); (rw [ups_ne _ _ e]; exact hA1 j (by omega)), fun j hj => by rw [ups_ne _ _ (by omega)]; exact hA2 j (by omega), hEk.trans hE2, rfl, rfl, rfl⟩
                · skip
                  refine V_skipk [1, 10, 11] (by simp only [proj, lk, reduceIte, Nat.reduceEqDiff]; rfl) ?_
                  refine hK32 _ _ ?_; clear hK32
                  refine V_reg T.mix (by kernel_rfl) ?_
                  refine S_mv rfl ?_
                  first | refine S_add rfl rfl (by omega) (by omega) ?_ | refine S_bin rfl rfl rfl ?_
                  refine S_as rfl ?_
                  refine S_nilk [1, 10, 11] (by simp only [proj, lk, reduceIte, Nat.reduceEqDiff]; rfl) ?_
                  exact hK29 _ _ ⟨_, by omega, i + 1, hk, A, by omega, hA, fun j hj => by by_cases e : j = i; (rw [e, hA2 i (Nat.le_refl _), if_neg (by unfold cf; omega)]); (exact hA1 j (by omega)), fun j hj => hA2 j (by omega), hEk, rfl, rfl, rfl⟩
              · skip
                refine V_exitk [10] rfl (by simp only [proj, lk, reduceIte, Nat.reduceEqDiff]; rfl) ?_
                refine hK27 _ _ ?_; clear hK27
                refine V_sr T.mix (by kernel_rfl) (fun K34 hK34 => ?_)
                refine S_mv rfl ?_
                refine S_as rfl ?_
                refine S_as rfl ?_
                refine S_nil (hK34 _ _ (V_keep [6, 7] (by simp only [proj, lk, reduceIte, Nat.reduceEqDiff]; rfl) ?_)); clear hK34
                refine V_ret ?_
                refine hR _ _ (ret2 rfl rfl rfl ?_)
                have hA3 : B hk h.size (ia cl.length (planL cl L)) 3 := ia_cong hA (fun j hj => by rw [hA1 j (by omega), planL_1 (by omega)])
                exact ⟨some ⟨h.size, 0, none⟩, u, by rw [hpr, hpe, il_len]; rfl, by rw [hpr, il_len]; exact IL.of hA3, fun b e => by cases e; exact Nat.le_refl _, c1.ext hEk (fun b hb e => by have h9 := hb.2; omega), KC.refl _, hfu, (hEh1.mono fun _ f => f.elim).step hEk (fun b hb e => by omega)⟩
            · skip
              have hlv2 : ¬ liv (cf cl) cl.length < 2 := by omega
              have hcb : ∀ i, i < cl.length → cf cl i ≤ 1048576 := fun i hi => by have h9 := hok i hi; unfold cf; omega
              obtain ⟨ab, ao, habe, _, hat⟩ := hIc.get (by omega)
              subst habe
              have habl := hIc.lt rfl
              refine V_skipk [0, 1, 2, 10] (by simp only [proj, lk, reduceIte, Nat.reduceEqDiff]; rfl) ?_
              refine hK25 _ _ ?_; clear hK25
              refine V_sr T.mix (by kernel_rfl) (fun K35 hK35 => ?_)
              refine S_mv rfl ?_
              refine S_mv rfl ?_
              refine S_mv rfl ?_
              refine S_call T.hb156 rfl ?_
              refine FC.mono (tree_spec h1 X u c1 cl.length (cf cl) ab ao cap h.size (by omega) (by rw [← hil]; exact hIc1) (hax _ rfl) hob (fun z => by have h9 := z.2; omega) (by omega) hcb (by omega)) ?_
              rintro v' h2 ⟨deep, o, v, rfl, c2, kc, hfv, hob2, ho, hd1, hd2, hE2⟩
              have hpl := pln_ok (N := cl.length) (c := cf cl) (by omega) (by omega)
              refine S_as rfl ?_
              refine S_nil (hK35 _ _ (V_keep [1, 2, 10, 12] (by simp only [proj, lk, reduceIte, Nat.reduceEqDiff]; rfl) ?_)); clear hK35
              refine V_seqJ (fun l h' => ∃ (h3 : Heap) (v : HC) (o3 : Nat → Nat), (CB h3 X v) ∧ (KC u v) ∧ (v.fill ≤ 265) ∧ (B h3 h.size (ia cl.length o3) 3) ∧ (∀ i, i < cl.length → o3 i = planL cl L i) ∧ (Ext (fun b => CT X b ∨ b = h.size) h1 h3) ∧ l = [(10, .slice (some ⟨h.size, 0, none⟩) cl.length cl.length)] ∧ h3 = h') ?_ ?_
              · skip
                refine V_sr T.mix (by kernel_rfl) (fun K37 hK37 => ?_)
                refine S_mv rfl ?_
                refine S_mv rfl ?_
                refine S_bin rfl rfl rfl ?_
                refine S_nil (hK37 _ _ (V_keep [1, 2, 10, 78] (by simp only [proj, lk, reduceIte, Nat.reduceEqDiff]; rfl) ?_)); clear hK37
                refine V_condp rfl (fun c84 => ?_) (fun c84 => ?_)
                · skip
                  refine V_reg T.mix (by kernel_rfl) ?_
                  refine S_mv rfl ?_
                  refine S_mv rfl ?_
                  refine S_mv rfl ?_
                  refine S_call T.hb157 rfl ?_
                  refine FC.mono (rmend_spec h2 cl.length (cf cl) (pln cl.length (cf cl)) ab ao cap h.size (by omega) (by rw [← hil]; exact hIc1.ext hE2 (fun b e z => by cases e; rcases z with z | z; (exact hax _ rfl z); (omega))) (ia_cong hob2 ho) hcb L (by omega) hL1 hL2 (by omega) (by omega) hpl.z (fun i hi => by have h9 := hpl.le i; omega)) ?_
                  rintro v' h3 ⟨rfl, o3, hob3, ho3, hE3⟩
                  have c3 := c2.ext hE3 (fun b hb e => by have h9 := hb.2; omega)
                  refine S_nilk [10] (by simp only [proj, lk, reduceIte, Nat.reduceEqDiff]; rfl) ?_
                  exact ⟨h3, v, o3, c3, kc, hfv, hob3, fun i hi => by rw [ho3 i hi, planL_2 hlv2], hE2.trans (hE3.mono fun _ e => .inr e), rfl, rfl⟩
                · skip
                  refine V_skipk [10] (by simp only [proj, lk, reduceIte, Nat.reduceEqDiff]; rfl) ?_
                  exact ⟨h2, v, o, c2, kc, hfv, hob2, fun i hi => by rw [ho i hi, planL_2 hlv2, mend_pln (N := cl.length) (L := L) (c := cf cl) (by omega) (by omega) (fun j hj => cf_out hj) (by omega) (fun j hj => by have h9 := hd1 j hj; omega)], hE2, rfl, rfl⟩
              rintro l h' ⟨h3, v, o3, c3, kc, hfv, hob3, ho3, hE3, rfl, rfl⟩
              refine V_sr T.mix (by kernel_rfl) (fun K38 hK38 => ?_)
              refine S_mv rfl ?_
              refine S_as rfl ?_
              refine S_as rfl ?_
              refine S_nil (hK38 _ _ (V_keep [6, 7] (by simp only [proj, lk, reduceIte, Nat.reduceEqDiff]; rfl) ?_)); clear hK38
              refine V_ret ?_
              refine hR _ _ (ret2 rfl rfl rfl ?_)
              have hA3 : B h3 h.size (ia cl.length (planL cl L)) 3 := ia_cong hob3 ho3
              exact ⟨some ⟨h.size, 0, none⟩, v, by rw [hpr, hpe, il_len]; rfl, by rw [hpr, il_len]; exact IL.of hA3, fun b e => by cases e; exact Nat.le_refl _, c3, kc, hfv, (hEh1.mono fun _ f => f.elim).step hE3 (fun b hb e => by rcases e with e | e; (exact e); (omega))⟩
end Go.Proofs.Qxb6500404aGreat.HufW
