import Derived.Test.Qxb6500404aGreatXg
set_option linter.unusedVariables false
set_option linter.unusedSimpArgs false
namespace Go.Proofs.Qxb6500404aGreat.HufW
open Go.Eng Go.Huf

/-- what the coder holds is the canonical code of lf, and its tables -/
structure CK (v : HC) (lf : Nat → Nat) : Prop where
  n : v.n ≤ 265
  le : ∀ j, j < v.n → v.lens j = lf j
  cd : ∀ j, j < v.n → v.code j = Huf.cd lf v.n j
  tb : TB lf v.n v.root v.sub v.top
  lw : Lw lf v.n
theorem lensE_lw {cl : List Int} (h : lensE cl = 0) : cl.length ≤ 265 ∧ okL cl ∧ Lw (cf cl) cl.length := by
  unfold lensE at h
  split at h
  · cases h
  · split at h
    · cases h
    · split at h
      · cases h
      · split at h
        · cases h
        · rename_i h1 h2 h3 h4
          have hok := Classical.not_not.1 h2
          have hl : ∀ s, s < cl.length → cf cl s ≤ 10 := fun s hs => by have := hok s hs; unfold cf; omega
          refine ⟨by omega, hok, ⟨⟨hl, by omega⟩, ?_⟩⟩
          rcases Nat.lt_or_ge (kk 10 (cf cl) cl.length) 1024 with q | q
          · rcases Nat.eq_zero_or_pos (liv (cf cl) cl.length) with e | e
            · exact .inr (.inl (none_used e))
            · have h1u : liv (cf cl) cl.length = 1 ∧ kk 10 (cf cl) cl.length = 512 := by
                by_cases a : 1 < liv (cf cl) cl.length
                · exact absurd ⟨q, e, .inl a⟩ h4
                · by_cases b : kk 10 (cf cl) cl.length = 512
                  · exact ⟨by omega, b⟩
                  · exact absurd ⟨q, e, .inr b⟩ h4
              obtain ⟨s, s1, s2, s3, s4, s5⟩ := one_used hl h1u.1
              refine .inr (.inr ⟨s, s1, ?_, s3⟩)
              rw [h1u.2] at s4
              have h10 := hl s s1
              have : cf cl s = 1 ∨ cf cl s = 2 ∨ cf cl s = 3 ∨ cf cl s = 4 ∨ cf cl s = 5 ∨ cf cl s = 6 ∨ cf cl s = 7 ∨ cf cl s = 8 ∨ cf cl s = 9 ∨ cf cl s = 10 := by omega
              rcases this with z | z | z | z | z | z | z | z | z | z
              · exact z
              all_goals (rw [z] at s4; exact absurd s4 (by decide))
          · exact .inl (by omega)
theorem lensE_1 {cl : List Int} (h : 265 < cl.length) : lensE cl = 1 := if_pos h
theorem lensE_2 {cl : List Int} (h0 : ¬ 265 < cl.length) (h : ¬ okL cl) : lensE cl = 2 := by unfold lensE; rw [if_neg h0, if_pos h]
theorem lensE_6 {cl : List Int} (h0 : ¬ 265 < cl.length) (h : okL cl) (hk : 1024 < kk 10 (cf cl) cl.length) : lensE cl = 6 := by unfold lensE; rw [if_neg h0, if_neg (fun e => e h), if_pos hk]
theorem lensE_7 {cl : List Int} (h0 : ¬ 265 < cl.length) (h : okL cl) (hk : kk 10 (cf cl) cl.length < 1024) (hu : 1 < liv (cf cl) cl.length ∨ liv (cf cl) cl.length ≠ cn (cf cl) cl.length 1) : lensE cl = 7 := by
  have hl : ∀ s, s < cl.length → cf cl s ≤ 10 := fun s hs => by have := h s hs; unfold cf; omega
  unfold lensE; rw [if_neg h0, if_neg (fun e => e h), if_neg (by omega), if_pos ⟨hk, (under_iff hl).2 hu⟩]
theorem lensE_0 {cl : List Int} (h0 : ¬ 265 < cl.length) (h : okL cl) (hk : ¬ 1024 < kk 10 (cf cl) cl.length) (hu : kk 10 (cf cl) cl.length < 1024 → ¬ (1 < liv (cf cl) cl.length ∨ liv (cf cl) cl.length ≠ cn (cf cl) cl.length 1)) : lensE cl = 0 := by
  have hl : ∀ s, s < cl.length → cf cl s ≤ 10 := fun s hs => by have := h s hs; unfold cf; omega
  unfold lensE; rw [if_neg h0, if_neg (fun e => e h), if_neg hk, if_neg (fun z => hu z.1 ((under_iff hl).1 z.2))]
theorem z11 : (#[.int .i64 0, .int .i64 0, .int .i64 0, .int .i64 0, .int .i64 0, .int .i64 0, .int .i64 0, .int .i64 0, .int .i64 0, .int .i64 0, .int .i64 0] : Array Value) = ia 11 (fun _ => 0) := Array.ext' (by unfold ia; rw [arr_toList]; rfl)
theorem ct_full {lf : Nat → Nat} {s N : Nat} (hs : s < N) : ct (fun t => lf t = lf s) s < cn lf N (lf s) := ct_lt hs rfl
set_option maxHeartbeats 6400000 in
theorem build_spec (h : Heap) (X : Nat) (u : HC) (c : CB h X u) (cad : Option Addr) (cap : Nat) (cl : List Int) (hIc : OL h cad cap cl) (hax : ∀ b, blkA cad = some b → ¬ CT X b) :
    FC Tryz.prog 131 (#[.pointer (some ⟨X, 0, none⟩), .slice cad cl.length cap] : Array Value) h fun rv h' => ∃ v : HC, rv = .int .i64 ((lensE cl : Nat) : Int) ∧ CB h' X v ∧ (lensE cl ≠ 0 → v = u) ∧ (lensE cl = 0 → CK v (cf cl) ∧ v.n = cl.length ∧ v.fill = u.fill) ∧ Ext (CT X) h h' := by
  have hXl := c.lt
  refine FC_of [(0, .pointer (some ⟨X, 0, none⟩)), (1, .slice cad cl.length cap)] Tryz.func131 rfl Tryz.ntmps131 (by simp) rfl (fun R hR => ?_)
  refine V_sr T.mix (by kernel_rfl) (fun K1 hK1 => ?_)
  refine S_as rfl ?_
  refine S_nil (hK1 _ _ (V_keep [0, 1] (by simp only [proj, lk, reduceIte, Nat.reduceEqDiff]; rfl) ?_)); clear hK1
  refine V_seq (fun K2 hK2 => ?_)
  refine V_sr T.mix (by kernel_rfl) (fun K3 hK3 => ?_)
  refine S_mv rfl ?_
  refine S_lenl T.el56 rfl ?_
  refine S_bin rfl rfl rfl ?_
  refine S_nil (hK3 _ _ (V_keep [0, 1, 16] (by simp only [proj, lk, reduceIte, Nat.reduceEqDiff]; rfl) ?_)); clear hK3
  refine V_condp rfl (fun c92 => ?_) (fun c92 => ?_)
  · skip
    refine V_sr T.mix (by kernel_rfl) (fun K4 hK4 => ?_)
    refine S_as rfl ?_
    refine S_nil (hK4 _ _ (V_keep [4] (by simp only [proj, lk, reduceIte, Nat.reduceEqDiff]; rfl) ?_)); clear hK4
    refine V_ret ?_
    refine hR _ _ (ret1 rfl rfl ?_)
    have hle_ := lensE_1 (show 265 < cl.length by omega)
    exact ⟨u, by rw [hle_]; rfl, c, fun _ => rfl, (fun e => by rw [hle_] at e; cases e), Ext.refl _ _⟩
  · skip
    refine V_skipk [0, 1] (by simp only [proj, lk, reduceIte, Nat.reduceEqDiff]; rfl) ?_
    refine hK2 _ _ ?_; clear hK2
    refine V_sr T.mix (by kernel_rfl) (fun K5 hK5 => ?_)
    refine S_allocA T.z203 ?_
    generalize hh : Array.push h _ = h1
    have bc1 : B h1 h.size (ia 11 (fun _ => 0)) 203 := by rw [← hh]; exact (B.new _ _ _).cong z11
    have hEh1 : Ext (fun _ => False) h h1 := by rw [← hh]; exact Ext.push _ _ _
    have hsh1 : h1.size = h.size + 1 := by rw [← hh]; simp
    clear hh
    refine S_nil (hK5 _ _ (V_keep [0, 1, 5] (by simp only [proj, lk, reduceIte, Nat.reduceEqDiff]; rfl) ?_)); clear hK5
    refine V_seq (fun K6 hK6 => ?_)
    refine V_sr T.mix (by kernel_rfl) (fun K7 hK7 => ?_)
    refine S_as rfl ?_
    refine S_nil (hK7 _ _ (V_keep [0, 1, 5, 6] (by simp only [proj, lk, reduceIte, Nat.reduceEqDiff]; rfl) ?_)); clear hK7
    refine V_block ?_
    refine V_loop (fun m l h' => ∃ (i : Nat) (hk : Heap) (A : Nat → Nat), (i ≤ cl.length) ∧ (B hk h.size (ia 11 A) 203) ∧ (∀ n, n < 11 → A n = cn (cf cl) i n) ∧ (∀ j, j < i → 0 ≤ cl.getD j 0 ∧ cl.getD j 0 ≤ 10) ∧ (Ext (fun b => b = h.size) h1 hk) ∧ m = cl.length - i ∧ l = [(0, .pointer (some ⟨X, 0, none⟩)), (1, .slice cad cl.length cap), (5, .pointer (some ⟨h.size, 0, none⟩)), (6, .int .i64 (i : Int))] ∧ hk = h') _ ⟨0, h1, fun _ => 0, Nat.zero_le _, bc1, fun n _ => rfl, fun j hj => by omega, Ext.refl _ _, rfl, rfl, rfl⟩ ?_
    rintro m l h' ⟨i, hk, A, hi, hA, hAn, hokp, hEk, rfl, rfl, rfl⟩ K8 hK8
    have acn := ia_at hA
    have hoo := ia_ok hA
    have hIk := (hIc.ext hEh1 (fun _ _ f => f)).ext hEk (fun b e z => by have h9 := hIc.lt e; omega)
    have hEo : Ext (fun b => h.size ≤ b) h hk := (hEh1.mono fun _ f => f.elim).trans (hEk.mono fun b e => by omega)
    have cuk := (c.new hEh1).ext hEk (fun b hb e => by have h9 := hb.2; omega)
    have hEc : Ext (CT X) h hk := ⟨hEo.1, fun b hb _ => hEo.2 b hb (fun e => by omega)⟩
    refine V_seq (fun K9 hK9 => ?_)
    refine V_sr T.mix (by kernel_rfl) (fun K10 hK10 => ?_)
    refine S_mv rfl ?_
    refine S_mv rfl ?_
    refine S_lenl T.el56 rfl ?_
    refine S_bin rfl rfl rfl ?_
    refine S_nil (hK10 _ _ (V_keep [0, 1, 5, 6, 20] (by simp only [proj, lk, reduceIte, Nat.reduceEqDiff]; rfl) ?_)); clear hK10
    refine V_condp rfl (fun c96 => ?_) (fun c96 => ?_)
    · skip
      obtain ⟨ab, ao, habe, _, hat⟩ := hIk.get (by omega)
      subst habe
      refine V_skipk [0, 1, 5, 6] (by simp only [proj, lk, reduceIte, Nat.reduceEqDiff]; rfl) ?_
      refine hK9 _ _ ?_; clear hK9
      refine V_seq (fun K11 hK11 => ?_)
      refine V_block ?_
      refine V_seq (fun K12 hK12 => ?_)
      refine V_sr T.mix (by kernel_rfl) (fun K13 hK13 => ?_)
      refine S_mv rfl ?_
      refine S_mv rfl ?_
      first | refine S_ixn T.el56 rfl rfl (by omega) ?_ | refine S_ix1 T.el56 rfl rfl (by omega) (by omega) ?_ | refine S_ix T.el56 rfl rfl (by omega) (by omega) ?_
      refine S_ldK T.ag3 rfl (fun K' hK' => ?_)
      simp (disch := omega) only [hat, Nat.mul_one, Int.toNat_natCast, oP_some, Nat.add_zero]
      refine hK' _ ?_; clear hK' K'
      refine S_bin rfl rfl rfl ?_
      refine S_mv rfl ?_
      refine S_dec (fun g97 => ?_) (fun g97 => ?_)
      · skip
        refine S_gf rfl ?_
        refine S_gf rfl ?_
        refine S_gf rfl ?_
        refine S_gf rfl ?_
        refine S_gf rfl ?_
        refine S_pt rfl rfl ?_
        refine S_nil (hK13 _ _ (V_keep [0, 1, 5, 6, 34] (by simp only [proj, lk, reduceIte, Nat.reduceEqDiff]; rfl) ?_)); clear hK13
        refine V_condt rfl ?_
        refine V_sr T.mix (by kernel_rfl) (fun K14 hK14 => ?_)
        refine S_as rfl ?_
        refine S_nil (hK14 _ _ (V_keep [4] (by simp only [proj, lk, reduceIte, Nat.reduceEqDiff]; rfl) ?_)); clear hK14
        refine V_ret ?_
        refine hR _ _ (ret1 rfl rfl ?_)
        have hle_ := lensE_2 (show ¬ 265 < cl.length by omega) (fun e => by have h9 := e i (by omega); omega)
        exact ⟨u, by rw [hle_]; rfl, cuk, fun _ => rfl, (fun e => by rw [hle_] at e; cases e), hEc⟩
      · skip
        refine S_gt rfl ?_
        refine S_mv rfl ?_
        refine S_gt rfl ?_
        refine S_mv rfl ?_
        refine S_gt rfl ?_
        first | refine S_ixn T.el56 rfl rfl (by omega) ?_ | refine S_ix1 T.el56 rfl rfl (by omega) (by omega) ?_ | refine S_ix T.el56 rfl rfl (by omega) (by omega) ?_
        refine S_gt rfl ?_
        refine S_ldK T.ag3 rfl (fun K' hK' => ?_)
        simp (disch := omega) only [hat, Nat.mul_one, Int.toNat_natCast, oP_some, Nat.add_zero]
        refine hK' _ ?_; clear hK' K'
        refine S_gt rfl ?_
        refine S_bin rfl rfl rfl ?_
        refine S_pf rfl rfl ?_
        refine S_nil (hK13 _ _ (V_keep [0, 1, 5, 6, 34] (by simp only [proj, lk, reduceIte, Nat.reduceEqDiff]; rfl) ?_)); clear hK13
        refine V_condp rfl (fun c97 => ?_) (fun c97 => ?_)
        · skip
          refine V_sr T.mix (by kernel_rfl) (fun K15 hK15 => ?_)
          refine S_as rfl ?_
          refine S_nil (hK15 _ _ (V_keep [4] (by simp only [proj, lk, reduceIte, Nat.reduceEqDiff]; rfl) ?_)); clear hK15
          refine V_ret ?_
          refine hR _ _ (ret1 rfl rfl ?_)
          have hle_ := lensE_2 (show ¬ 265 < cl.length by omega) (fun e => by have h9 := e i (by omega); omega)
          exact ⟨u, by rw [hle_]; rfl, cuk, fun _ => rfl, (fun e => by rw [hle_] at e; cases e), hEc⟩
        · skip
          have hcf := cf_at (show 0 ≤ cl.getD i 0 by omega)
          have hci : A (cf cl i) ≤ 265 := by rw [hAn _ (by omega)]; have h9 := cn_le (cf cl) i (cf cl i); omega
          refine V_skipk [0, 1, 5, 6] (by simp only [proj, lk, reduceIte, Nat.reduceEqDiff]; rfl) ?_
          refine hK12 _ _ ?_; clear hK12
          refine V_reg T.mix (by kernel_rfl) ?_
          refine S_mv rfl ?_
          refine S_mv rfl ?_
          first | refine S_ixn T.el56 rfl rfl (by omega) ?_ | refine S_ix1 T.el56 rfl rfl (by omega) (by omega) ?_ | refine S_ix T.el56 rfl rfl (by omega) (by omega) ?_
          refine S_ldK T.ag3 rfl (fun K' hK' => ?_)
          simp (disch := omega) only [hat, Nat.mul_one, Int.toNat_natCast, hcf, acn, Nat.zero_add, oP_some, Nat.add_zero]
          refine hK' _ ?_; clear hK' K'
          first | refine S_ixan T.ar203 rfl rfl (by omega) ?_ | refine S_ixa1 T.ar203 rfl rfl (by omega) (by omega) ?_
          refine S_ldK T.ag3 rfl (fun K' hK' => ?_)
          simp (disch := omega) only [hat, Nat.mul_one, Int.toNat_natCast, hcf, acn, Nat.zero_add, oP_some, Nat.add_zero]
          refine hK' _ ?_; clear hK' K'
          refine S_addN (A (cf cl i) + 1) rfl rfl (by omega) (by omega) ?_
          first | refine S_ixan T.ar203 rfl rfl (by omega) ?_ | refine S_ixa1 T.ar203 rfl rfl (by omega) (by omega) ?_
          refine S_st T.sz3 rfl rfl rfl rfl (by simp (disch := omega) only [hoo]) ?_
          generalize hh : putH _ _ _ = h2
          have hA2 : B h2 h.size (ia 11 (ups A (cf cl i) (A (cf cl i) + 1))) 203 := by rw [← hh]; simp only [Nat.zero_add]; exact ia_put hA _ _
          have hE2 : Ext (fun b => b = h.size) hk h2 := by rw [← hh]; exact Ext.put _ _ rfl
          clear hh
          refine S_nilk [0, 1, 5, 6] (by simp only [proj, lk, reduceIte, Nat.reduceEqDiff]; rfl) ?_
          refine hK11 _ _ ?_; clear hK11
          refine V_reg T.mix (by kernel_rfl) ?_
          refine S_mv rfl ?_
          first | refine S_add rfl rfl (by omega) (by omega) ?_ | refine S_bin rfl rfl rfl ?_
          refine S_as rfl ?_
          refine S_nilk [0, 1, 5, 6] (by simp only [proj, lk, reduceIte, Nat.reduceEqDiff]; rfl) ?_
          exact hK8 _ _ ⟨_, by omega, i + 1, h2, ups A (cf cl i) (A (cf cl i) + 1), by omega, hA2, fun n hn => by rw [cn_snoc]; by_cases e : cf cl i = n; (rw [if_pos e, ← e, ups_eq, hAn _ (by omega)]); (rw [if_neg e, ups_ne _ _ (by omega)]; exact hAn n hn), fun j hj => by by_cases e : j = i; (rw [e]; omega); (exact hokp j (by omega)), hEk.trans hE2, rfl, rfl, rfl⟩
    · skip
      have hiN : i = cl.length := by omega
      rw [hiN] at hAn hokp
      have hok : okL cl := hokp
      have hl10 : ∀ s, s < cl.length → cf cl s ≤ 10 := fun s hs => by have h9 := hok s hs; unfold cf; omega
      have hkA := kk_A hl10
      have hkl := kk_le (L := 10) (l := (cf cl)) (Nat.le_refl _) cl.length
      have hlc := liv_cn (cf cl) cl.length
      have hA0 := hAn 0 (by omega)
      have hA1 := hAn 1 (by omega)
      refine V_exitk [0, 1, 5] rfl (by simp only [proj, lk, reduceIte, Nat.reduceEqDiff]; rfl) ?_
      refine hK6 _ _ ?_; clear hK6
      refine V_sr T.mix (by kernel_rfl) (fun K16 hK16 => ?_)
      refine S_as rfl ?_
      refine S_nil (hK16 _ _ (V_keep [0, 1, 5, 7] (by simp only [proj, lk, reduceIte, Nat.reduceEqDiff]; rfl) ?_)); clear hK16
      refine V_seq (fun K17 hK17 => ?_)
      refine V_sr T.mix (by kernel_rfl) (fun K18 hK18 => ?_)
      refine S_as rfl ?_
      refine S_nil (hK18 _ _ (V_keep [0, 1, 5, 7, 8] (by simp only [proj, lk, reduceIte, Nat.reduceEqDiff]; rfl) ?_)); clear hK18
      refine V_block ?_
      refine V_loop (fun m l h' => ∃ (n kx : Nat), (1 ≤ n) ∧ (n ≤ 11) ∧ (kx = Af (cn (cf cl) cl.length) n) ∧ m = 11 - n ∧ l = [(0, .pointer (some ⟨X, 0, none⟩)), (1, .slice cad cl.length cap), (5, .pointer (some ⟨h.size, 0, none⟩)), (7, .int .i64 (kx : Int)), (8, .int .i64 (n : Int))] ∧ hk = h') _ ⟨1, 0, by omega, by omega, rfl, rfl, rfl, rfl⟩ ?_
      rintro m l h' ⟨n, kx, hn1, hn2, hkx, rfl, rfl, rfl⟩ K19 hK19
      have hkb : Af (cn (cf cl) cl.length) n ≤ Af (cn (cf cl) cl.length) 11 := Af_mono hn2
      have hAb : ∀ m_, m_ < 11 → A m_ ≤ 265 := fun m_ hm_ => by rw [hAn m_ hm_]; have h9 := cn_le (cf cl) cl.length m_; omega
      have hAb0 := hAb n
      refine V_seq (fun K20 hK20 => ?_)
      refine V_sr T.mix (by kernel_rfl) (fun K21 hK21 => ?_)
      refine S_mv rfl ?_
      refine S_bin rfl rfl rfl ?_
      refine S_nil (hK21 _ _ (V_keep [0, 1, 5, 7, 8, 44] (by simp only [proj, lk, reduceIte, Nat.reduceEqDiff]; rfl) ?_)); clear hK21
      refine V_condp rfl (fun c103 => ?_) (fun c103 => ?_)
      · skip
        refine V_skipk [0, 1, 5, 7, 8] (by simp only [proj, lk, reduceIte, Nat.reduceEqDiff]; rfl) ?_
        refine hK20 _ _ ?_; clear hK20
        refine V_seq (fun K22 hK22 => ?_)
        refine V_block ?_
        refine V_reg T.mix (by kernel_rfl) ?_
        refine S_mv rfl ?_
        refine S_mv rfl ?_
        first | refine S_ixan T.ar203 rfl rfl (by omega) ?_ | refine S_ixa1 T.ar203 rfl rfl (by omega) (by omega) ?_
        refine S_ldK T.ag3 rfl (fun K' hK' => ?_)
        simp (disch := omega) only [acn, Nat.zero_add, oP_some, Nat.add_zero]
        refine hK' _ ?_; clear hK' K'
        refine S_mv rfl ?_
        refine S_subN (10 - n) rfl rfl (by omega) (by omega) ?_
        refine S_cvN (10 - n) T.us3 T.in105 rfl rfl (tu64 (by omega)) ?_
        have hmu := Nat.mul_le_mul (show A n ≤ 265 by omega) (p10 (show 10 - n ≤ 10 by omega))
        refine S_nshl (A n) (10 - n) (A n * 2 ^ (10 - n)) rfl rfl rfl rfl rfl (show 10 - n ≤ 64 by omega) (t64b (by omega)) ?_
        refine S_addN (kx + A n * 2 ^ (10 - n)) rfl rfl (by omega) (by omega) ?_
        refine S_as rfl ?_
        refine S_nilk [0, 1, 5, 7, 8] (by simp only [proj, lk, reduceIte, Nat.reduceEqDiff]; rfl) ?_
        refine hK22 _ _ ?_; clear hK22
        refine V_reg T.mix (by kernel_rfl) ?_
        refine S_mv rfl ?_
        refine S_addN (n + 1) rfl rfl (by omega) (by omega) ?_
        refine S_as rfl ?_
        refine S_nilk [0, 1, 5, 7, 8] (by simp only [proj, lk, reduceIte, Nat.reduceEqDiff]; rfl) ?_
        exact hK19 _ _ ⟨_, by omega, n + 1, _, by omega, by omega, by rw [hkx, Af_succ _ hn1, hAn n (by omega)], rfl, rfl, rfl⟩
      · skip
        have hn11 : n = 11 := by omega
        rw [hn11, ← hkA] at hkx
        refine V_exitk [0, 1, 5, 7] rfl (by simp only [proj, lk, reduceIte, Nat.reduceEqDiff]; rfl) ?_
        refine hK17 _ _ ?_; clear hK17
        refine V_seq (fun K23 hK23 => ?_)
        refine V_sr T.mix (by kernel_rfl) (fun K24 hK24 => ?_)
        refine S_mv rfl ?_
        refine S_bin rfl rfl rfl ?_
        refine S_nil (hK24 _ _ (V_keep [0, 1, 5, 7, 57] (by simp only [proj, lk, reduceIte, Nat.reduceEqDiff]; rfl) ?_)); clear hK24
        refine V_condp rfl (fun c106 => ?_) (fun c106 => ?_)
        · skip
          refine V_sr T.mix (by kernel_rfl) (fun K25 hK25 => ?_)
          refine S_as rfl ?_
          refine S_nil (hK25 _ _ (V_keep [4] (by simp only [proj, lk, reduceIte, Nat.reduceEqDiff]; rfl) ?_)); clear hK25
          refine V_ret ?_
          refine hR _ _ (ret1 rfl rfl ?_)
          have hle_ := lensE_6 (show ¬ 265 < cl.length by omega) hok (by omega)
          exact ⟨u, by rw [hle_]; rfl, cuk, fun _ => rfl, (fun e => by rw [hle_] at e; cases e), hEc⟩
        · skip
          have hln : Ln (cf cl) cl.length := ⟨hl10, by omega⟩
          refine V_skipk [0, 1, 5, 7] (by simp only [proj, lk, reduceIte, Nat.reduceEqDiff]; rfl) ?_
          refine hK23 _ _ ?_; clear hK23
          refine V_seqJ (fun l h' => (lensE cl = 0) ∧ l = [(0, .pointer (some ⟨X, 0, none⟩)), (1, .slice cad cl.length cap), (5, .pointer (some ⟨h.size, 0, none⟩))] ∧ hk = h') ?_ ?_
          · skip
            refine V_sr T.mix (by kernel_rfl) (fun K27 hK27 => ?_)
            refine S_mv rfl ?_
            refine S_bin rfl rfl rfl ?_
            refine S_nil (hK27 _ _ (V_keep [0, 1, 5, 59] (by simp only [proj, lk, reduceIte, Nat.reduceEqDiff]; rfl) ?_)); clear hK27
            refine V_condp rfl (fun c109 => ?_) (fun c109 => ?_)
            · skip
              refine V_sr T.mix (by kernel_rfl) (fun K28 hK28 => ?_)
              refine S_mv rfl ?_
              refine S_lenl T.el56 rfl ?_
              first | refine S_ixan T.ar203 rfl rfl (by omega) ?_ | refine S_ixa1 T.ar203 rfl rfl (by omega) (by omega) ?_
              refine S_ldK T.ag3 rfl (fun K' hK' => ?_)
              simp (disch := omega) only [acn, Nat.zero_add, Int.toNat_zero, oP_some, Nat.add_zero]
              refine hK' _ ?_; clear hK' K'
              refine S_subN (liv (cf cl) cl.length) rfl rfl (by omega) (by omega) ?_
              refine S_as rfl ?_
              refine S_nil (hK28 _ _ (V_keep [0, 1, 5, 9] (by simp only [proj, lk, reduceIte, Nat.reduceEqDiff]; rfl) ?_)); clear hK28
              refine V_sr T.mix (by kernel_rfl) (fun K29 hK29 => ?_)
              refine S_mv rfl ?_
              refine S_bin rfl rfl rfl ?_
              refine S_mv rfl ?_
              refine S_dec (fun g111 => ?_) (fun g111 => ?_)
              · skip
                refine S_gf rfl ?_
                refine S_gf rfl ?_
                refine S_gf rfl ?_
                refine S_gf rfl ?_
                refine S_pt rfl rfl ?_
                refine S_nil (hK29 _ _ (V_keep [0, 1, 5, 72] (by simp only [proj, lk, reduceIte, Nat.reduceEqDiff]; rfl) ?_)); clear hK29
                refine V_condt rfl ?_
                refine V_sr T.mix (by kernel_rfl) (fun K30 hK30 => ?_)
                refine S_as rfl ?_
                refine S_nil (hK30 _ _ (V_keep [4] (by simp only [proj, lk, reduceIte, Nat.reduceEqDiff]; rfl) ?_)); clear hK30
                refine V_ret ?_
                refine hR _ _ (ret1 rfl rfl ?_)
                have hle_ := lensE_7 (show ¬ 265 < cl.length by omega) hok (by omega) (by omega)
                exact ⟨u, by rw [hle_]; rfl, cuk, fun _ => rfl, (fun e => by rw [hle_] at e; cases e), hEc⟩
              · skip
                refine S_gt rfl ?_
                refine S_mv rfl ?_
                refine S_gt rfl ?_
                first | refine S_ixan T.ar203 rfl rfl (by omega) ?_ | refine S_ixa1 T.ar203 rfl rfl (by omega) (by omega) ?_
                refine S_gt rfl ?_
                refine S_ldK T.ag3 rfl (fun K' hK' => ?_)
                simp (disch := omega) only [acn, Nat.zero_add, Int.toNat_one, oP_some, Nat.add_zero]
                refine hK' _ ?_; clear hK' K'
                refine S_gt rfl ?_
                refine S_bin rfl rfl rfl ?_
                refine S_pf rfl rfl ?_
                refine S_nil (hK29 _ _ (V_keep [0, 1, 5, 72] (by simp only [proj, lk, reduceIte, Nat.reduceEqDiff]; rfl) ?_)); clear hK29
                refine V_condp rfl (fun c111 => ?_) (fun c111 => ?_)
                · skip
                  refine V_sr T.mix (by kernel_rfl) (fun K31 hK31 => ?_)
                  refine S_as rfl ?_
                  refine S_nil (hK31 _ _ (V_keep [4] (by simp only [proj, lk, reduceIte, Nat.reduceEqDiff]; rfl) ?_)); clear hK31
                  refine V_ret ?_
                  refine hR _ _ (ret1 rfl rfl ?_)
                  have hle_ := lensE_7 (show ¬ 265 < cl.length by omega) hok (by omega) (by omega)
                  exact ⟨u, by rw [hle_]; rfl, cuk, fun _ => rfl, (fun e => by rw [hle_] at e; cases e), hEc⟩
                · skip
                  refine V_skipk [0, 1, 5] (by simp only [proj, lk, reduceIte, Nat.reduceEqDiff]; rfl) ?_
                  exact ⟨lensE_0 (by omega) hok (by omega) (fun _ z => by omega), rfl, rfl⟩
            · skip
              refine V_skipk [0, 1, 5] (by simp only [proj, lk, reduceIte, Nat.reduceEqDiff]; rfl) ?_
              exact ⟨lensE_0 (by omega) hok (by omega) (fun z => by omega), rfl, rfl⟩
          rintro l h' ⟨he0, rfl, rfl⟩
          refine V_sr T.mix (by kernel_rfl) (fun K32 hK32 => ?_)
          refine S_allocA T.z203 ?_
          generalize hh : Array.push hk _ = h2
          have bn2 : B h2 hk.size (ia 11 (fun _ => 0)) 203 := by rw [← hh]; exact (B.new _ _ _).cong z11
          have hEh2 : Ext (fun _ => False) hk h2 := by rw [← hh]; exact Ext.push _ _ _
          have hsh2 : h2.size = hk.size + 1 := by rw [← hh]; simp
          clear hh
          have bck := hA.ext hEh2 (fun f => f)
          have hEo2 := hEo.trans (hEh2.mono fun _ f => f.elim)
          obtain ⟨nb, hnb⟩ : ∃ w, w = hk.size := ⟨_, rfl⟩
          rw [← hnb] at bn2
          rw [← hnb]
          have hks := hEo.1
          have hks1 := hEk.1
          have hnx : ¬ CT X nb := fun z => by have h9 := z.2; omega
          refine S_nil (hK32 _ _ (V_keep [0, 1, 5, 10] (by simp only [proj, lk, reduceIte, Nat.reduceEqDiff]; rfl) ?_)); clear hK32
          refine V_seq (fun K33 hK33 => ?_)
          refine V_sr T.mix (by kernel_rfl) (fun K34 hK34 => ?_)
          refine S_as rfl ?_
          refine S_nil (hK34 _ _ (V_keep [0, 1, 5, 10, 11] (by simp only [proj, lk, reduceIte, Nat.reduceEqDiff]; rfl) ?_)); clear hK34
          refine V_block ?_
          refine V_loop (fun m l h' => ∃ (n : Nat) (hk2 : Heap) (Bf : Nat → Nat), (2 ≤ n) ∧ (n ≤ 11) ∧ (B hk2 nb (ia 11 Bf) 203) ∧ (∀ m_, m_ < n → Bf m_ = (fc (cf cl) cl.length) m_) ∧ (Ext (fun b => b = nb) h2 hk2) ∧ m = 11 - n ∧ l = [(0, .pointer (some ⟨X, 0, none⟩)), (1, .slice cad cl.length cap), (5, .pointer (some ⟨h.size, 0, none⟩)), (10, .pointer (some ⟨nb, 0, none⟩)), (11, .int .i64 (n : Int))] ∧ hk2 = h') _ ⟨2, h2, fun _ => 0, by omega, by omega, bn2, fun m_ hm_ => by rcases Nat.lt_or_ge m_ 1 with q | q; (rw [show m_ = 0 by omega]; rfl); (rw [show m_ = 1 by omega]; rfl), Ext.refl _ _, rfl, rfl, rfl⟩ ?_
          rintro m l h' ⟨n, hk2, Bf, hn1, hn2, hB, hBf, hE2, rfl, rfl, rfl⟩ K35 hK35
          have acn := ia_at (bck.ext hE2 (fun e => by omega))
          have anx := ia_at hB
          have hoo := ia_ok hB
          have hAb1 : A (n - 1) ≤ 265 := by rw [hAn (n - 1) (by omega)]; have h9 := cn_le (cf cl) cl.length (n - 1); omega
          have hfb := hln.fc_le (show 1 ≤ n - 1 by omega) (show n - 1 ≤ 10 by omega)
          have hb1 := hBf (n - 1) (by omega)
          refine V_seq (fun K36 hK36 => ?_)
          refine V_sr T.mix (by kernel_rfl) (fun K37 hK37 => ?_)
          refine S_mv rfl ?_
          refine S_bin rfl rfl rfl ?_
          refine S_nil (hK37 _ _ (V_keep [0, 1, 5, 10, 11, 74] (by simp only [proj, lk, reduceIte, Nat.reduceEqDiff]; rfl) ?_)); clear hK37
          refine V_condp rfl (fun c116 => ?_) (fun c116 => ?_)
          · skip
            refine V_skipk [0, 1, 5, 10, 11] (by simp only [proj, lk, reduceIte, Nat.reduceEqDiff]; rfl) ?_
            refine hK36 _ _ ?_; clear hK36
            refine V_seq (fun K38 hK38 => ?_)
            refine V_block ?_
            refine V_reg T.mix (by kernel_rfl) ?_
            refine S_mv rfl ?_
            refine S_mv rfl ?_
            refine S_subN (n - 1) rfl rfl (by omega) (by omega) ?_
            first | refine S_ixan T.ar203 rfl rfl (by omega) ?_ | refine S_ixa1 T.ar203 rfl rfl (by omega) (by omega) ?_
            refine S_ldK T.ag3 rfl (fun K' hK' => ?_)
            simp (disch := omega) only [acn, anx, Nat.zero_add, oP_some, Nat.add_zero]
            refine hK' _ ?_; clear hK' K'
            refine S_mv rfl ?_
            refine S_subN (n - 1) rfl rfl (by omega) (by omega) ?_
            first | refine S_ixan T.ar203 rfl rfl (by omega) ?_ | refine S_ixa1 T.ar203 rfl rfl (by omega) (by omega) ?_
            refine S_ldK T.ag3 rfl (fun K' hK' => ?_)
            simp (disch := omega) only [acn, anx, Nat.zero_add, oP_some, Nat.add_zero]
            refine hK' _ ?_; clear hK' K'
            refine S_addN (Bf (n - 1) + A (n - 1)) rfl rfl (by omega) (by omega) ?_
            refine S_nshl (Bf (n - 1) + A (n - 1)) 1 ((Bf (n - 1) + A (n - 1)) * 2) rfl rfl rfl rfl (by rw [Nat.pow_one]) (by decide) (t64b (by omega)) ?_
            first | refine S_ixan T.ar203 rfl rfl (by omega) ?_ | refine S_ixa1 T.ar203 rfl rfl (by omega) (by omega) ?_
            refine S_st T.sz3 rfl rfl rfl rfl (by simp (disch := omega) only [hoo]) ?_
            generalize hh : putH _ _ _ = h3
            have hB2 : B h3 nb (ia 11 (ups Bf (n) ((Bf (n - 1) + A (n - 1)) * 2))) 203 := by rw [← hh]; simp only [Nat.zero_add]; exact ia_put hB _ _
            have hE3 : Ext (fun b => b = nb) hk2 h3 := by rw [← hh]; exact Ext.put _ _ rfl
            clear hh
            refine S_nilk [0, 1, 5, 10, 11] (by simp only [proj, lk, reduceIte, Nat.reduceEqDiff]; rfl) ?_
            refine hK38 _ _ ?_; clear hK38
            refine V_reg T.mix (by kernel_rfl) ?_
            refine S_mv rfl ?_
            refine S_addN (n + 1) rfl rfl (by omega) (by omega) ?_
            refine S_as rfl ?_
            refine S_nilk [0, 1, 5, 10, 11] (by simp only [proj, lk, reduceIte, Nat.reduceEqDiff]; rfl) ?_
            exact hK35 _ _ ⟨_, by omega, n + 1, h3, _, by omega, by omega, hB2, fun m_ hm_ => by by_cases e : m_ = n; (rw [e, ups_eq, hb1, hAn (n - 1) (by omega), ← fc_succ _ _ (show 1 ≤ n - 1 by omega), show n - 1 + 1 = n by omega]); (rw [ups_ne _ _ e]; exact hBf m_ (by omega)), hE2.trans hE3, rfl, rfl, rfl⟩
          · skip
            have cu2 := (cuk.new hEh2).ext hE2 (fun b hb e => by have h9 := hb.2; omega)
            have hcok := cok cu2
            refine V_exitk [0, 1, 10] rfl (by simp only [proj, lk, reduceIte, Nat.reduceEqDiff]; rfl) ?_
            refine hK33 _ _ ?_; clear hK33
            refine V_sr T.mix (by kernel_rfl) (fun K39 hK39 => ?_)
            refine S_mv rfl ?_
            refine S_mv rfl ?_
            refine S_lenl T.el56 rfl ?_
            refine S_nc rfl ?_
            first | refine S_fa0 T.f70_0 rfl ?_ | refine S_fa T.f70_0 rfl ?_
            refine S_st T.sz3 rfl rfl rfl rfl (by simp (disch := omega) only [hcok]) ?_
            generalize hh : putH _ _ _ = h3
            have c3 : CB h3 X { u with n := cl.length } := by rw [← hh]; exact cu2.pn cl.length
            have hE3 : Ext (CT X) hk2 h3 := by rw [← hh]; exact CB.putx
            clear hh
            have hB3 := hB.ext hE3 hnx
            have hEs3 : Ext (fun b => CT X b ∨ h.size ≤ b) h h3 := ((hEo2.mono fun _ e => .inr e).trans (hE2.mono fun b e => .inr (by omega))).trans (hE3.mono fun _ e => .inl e)
            refine S_nil (hK39 _ _ (V_keep [0, 1, 10] (by simp only [proj, lk, reduceIte, Nat.reduceEqDiff]; rfl) ?_)); clear hK39
            refine V_seq (fun K40 hK40 => ?_)
            refine V_sr T.mix (by kernel_rfl) (fun K41 hK41 => ?_)
            refine S_as rfl ?_
            refine S_nil (hK41 _ _ (V_keep [0, 1, 10, 12] (by simp only [proj, lk, reduceIte, Nat.reduceEqDiff]; rfl) ?_)); clear hK41
            refine V_block ?_
            refine V_loop (fun m l h' => ∃ (s : Nat) (hk : Heap) (le co Bf : Nat → Nat), (s ≤ cl.length) ∧ (CB hk X { u with n := cl.length, lens := le, code := co }) ∧ (∀ j, j < s → le j = cf cl j ∧ co j = cd (cf cl) cl.length j) ∧ (B hk nb (ia 11 Bf) 203) ∧ (∀ m_, 1 ≤ m_ → m_ ≤ 10 → Bf m_ = (fc (cf cl) cl.length) m_ + ct (fun t => cf cl t = m_) s) ∧ (Ext (fun b => CT X b ∨ h.size ≤ b) h hk) ∧ m = cl.length - s ∧ l = [(0, .pointer (some ⟨X, 0, none⟩)), (1, .slice cad cl.length cap), (10, .pointer (some ⟨nb, 0, none⟩)), (12, .int .i64 (s : Int))] ∧ hk = h') _ ⟨0, h3, u.lens, u.code, Bf, Nat.zero_le _, c3, fun j hj => by omega, hB3, fun m_ h1_ h2_ => by rw [hBf m_ (by omega)]; rfl, hEs3, rfl, rfl, rfl⟩ ?_
            rintro m l h' ⟨s, hk, le, co, Bf, hs, ck, hjs, hB, hBf, hEs, rfl, rfl, rfl⟩ K42 hK42
            try clear q0 q1 q2 q3 q4 q5 q6 q7 q8 q9 q10 q11 q12 alens acode aroot asub awt aht anum apar adep aheap
            obtain ⟨q0, q1, q2, q3, q4, q5, q6, q7, q8, q9, q10, q11, q12⟩ := cq ((show CB hk X { u with n := cl.length, lens := le, code := co } from ck))
            obtain ⟨alens, acode, aroot, asub, awt, aht, anum, apar, adep, aheap⟩ := ca ((show CB hk X { u with n := cl.length, lens := le, code := co } from ck))
            have hol := ck.olens
            have hIk := hIc.ext hEs (fun b e z => by have h9 := hIc.lt e; rcases z with z | z; (exact hax b e z); (omega))
            refine V_seq (fun K43 hK43 => ?_)
            refine V_sr T.mix (by kernel_rfl) (fun K44 hK44 => ?_)
            refine S_mv rfl ?_
            refine S_mv rfl ?_
            refine S_lenl T.el56 rfl ?_
            refine S_bin rfl rfl rfl ?_
            refine S_nil (hK44 _ _ (V_keep [0, 1, 10, 12, 97] (by simp only [proj, lk, reduceIte, Nat.reduceEqDiff]; rfl) ?_)); clear hK44
            refine V_condp rfl (fun c120 => ?_) (fun c120 => ?_)
            · skip
              obtain ⟨ab, ao, habe, _, hat⟩ := hIk.get (by omega)
              subst habe
              have hcf := cf_at (hok s (by omega)).1
              have hc10 := hl10 s (by omega)
              have hrk : 1 ≤ cf cl s → ct (fun t => cf cl t = cf cl s) s < cn (cf cl) cl.length (cf cl s) := fun _ => ct_full (by omega)
              have hfb : 1 ≤ cf cl s → (fc (cf cl) cl.length) (cf cl s) + cn (cf cl) cl.length (cf cl s) ≤ 1024 := fun z => hln.fc_le z hc10
              have hbs0 : 1 ≤ cf cl s → Bf (cf cl s) = (fc (cf cl) cl.length) (cf cl s) + ct (fun t => cf cl t = cf cl s) s := fun z => hBf _ z hc10
              refine V_skipk [0, 1, 10, 12] (by simp only [proj, lk, reduceIte, Nat.reduceEqDiff]; rfl) ?_
              refine hK43 _ _ ?_; clear hK43
              refine V_seq (fun K45 hK45 => ?_)
              refine V_block ?_
              refine V_sr T.mix (by kernel_rfl) (fun K46 hK46 => ?_)
              refine S_mv rfl ?_
              refine S_mv rfl ?_
              first | refine S_ixn T.el56 rfl rfl (by omega) ?_ | refine S_ix1 T.el56 rfl rfl (by omega) (by omega) ?_ | refine S_ix T.el56 rfl rfl (by omega) (by omega) ?_
              refine S_ldK T.ag3 rfl (fun K' hK' => ?_)
              simp (disch := omega) only [hat, Nat.mul_one, Int.toNat_natCast, hcf, oP_some, Nat.add_zero]
              refine hK' _ ?_; clear hK' K'
              refine S_as rfl ?_
              refine S_nil (hK46 _ _ (V_keep [0, 1, 10, 12, 13] (by simp only [proj, lk, reduceIte, Nat.reduceEqDiff]; rfl) ?_)); clear hK46
              refine V_sr T.mix (by kernel_rfl) (fun K47 hK47 => ?_)
              refine S_mv rfl ?_
              refine S_nc rfl ?_
              first | refine S_fa0 T.f70_1 rfl ?_ | refine S_fa T.f70_1 rfl ?_
              refine S_ldK T.ag56 rfl (fun K' hK' => ?_)
              simp (disch := omega) only [q0, q1, q2, q3, q4, q5, q6, q7, q8, q9, q10, q11, q12, oP_some, Nat.add_zero]
              refine hK' _ ?_; clear hK' K'
              refine S_mv rfl ?_
              refine S_mv rfl ?_
              first | refine S_ixn T.el56 rfl rfl (by omega) ?_ | refine S_ix1 T.el56 rfl rfl (by omega) (by omega) ?_ | refine S_ix T.el56 rfl rfl (by omega) (by omega) ?_
              refine S_st T.sz3 rfl rfl rfl rfl (by simp (disch := omega) only [hol]) ?_
              generalize hh : putH _ _ _ = h4
              have c4 : CB h4 X { u with n := cl.length, lens := ups le s (cf cl s), code := co } := by rw [← hh]; exact ck.plens s (cf cl s)
              have hE4 : Ext (CT X) hk h4 := by rw [← hh]; exact CB.pute (by omega)
              clear hh
              try clear q0 q1 q2 q3 q4 q5 q6 q7 q8 q9 q10 q11 q12 alens acode aroot asub awt aht anum apar adep aheap
              obtain ⟨q0, q1, q2, q3, q4, q5, q6, q7, q8, q9, q10, q11, q12⟩ := cq (c4)
              obtain ⟨alens, acode, aroot, asub, awt, aht, anum, apar, adep, aheap⟩ := ca (c4)
              have hoc := c4.ocode
              refine S_nil (hK47 _ _ (V_keep [0, 1, 10, 12, 13] (by simp only [proj, lk, reduceIte, Nat.reduceEqDiff]; rfl) ?_)); clear hK47
              refine V_sr T.mix (by kernel_rfl) (fun K48 hK48 => ?_)
              refine S_mv rfl ?_
              refine S_nc rfl ?_
              first | refine S_fa0 T.f70_2 rfl ?_ | refine S_fa T.f70_2 rfl ?_
              refine S_ldK T.ag56 rfl (fun K' hK' => ?_)
              simp (disch := omega) only [q0, q1, q2, q3, q4, q5, q6, q7, q8, q9, q10, q11, q12, oP_some, Nat.add_zero]
              refine hK' _ ?_; clear hK' K'
              refine S_mv rfl ?_
              first | refine S_ixn T.el56 rfl rfl (by omega) ?_ | refine S_ix1 T.el56 rfl rfl (by omega) (by omega) ?_ | refine S_ix T.el56 rfl rfl (by omega) (by omega) ?_
              refine S_st T.sz3 rfl rfl rfl rfl (by simp (disch := omega) only [hoc]) ?_
              generalize hh : putH _ _ _ = h5
              have c5 : CB h5 X { u with n := cl.length, lens := ups le s (cf cl s), code := ups co s 0 } := by rw [← hh]; exact c4.pcode s 0
              have hE5 : Ext (CT X) h4 h5 := by rw [← hh]; exact CB.pute (by omega)
              clear hh
              try clear q0 q1 q2 q3 q4 q5 q6 q7 q8 q9 q10 q11 q12 alens acode aroot asub awt aht anum apar adep aheap
              obtain ⟨q0, q1, q2, q3, q4, q5, q6, q7, q8, q9, q10, q11, q12⟩ := cq (c5)
              obtain ⟨alens, acode, aroot, asub, awt, aht, anum, apar, adep, aheap⟩ := ca (c5)
              have hoc := c5.ocode
              have hB5 := (hB.ext hE4 hnx).ext hE5 hnx
              have anx := ia_at hB5
              refine S_nil (hK48 _ _ (V_keep [0, 1, 10, 12, 13] (by simp only [proj, lk, reduceIte, Nat.reduceEqDiff]; rfl) ?_)); clear hK48
              refine V_sr T.mix (by kernel_rfl) (fun K49 hK49 => ?_)
              refine S_mv rfl ?_
              refine S_bin rfl rfl rfl ?_
              refine S_nil (hK49 _ _ (V_keep [0, 1, 10, 12, 13, 118] (by simp only [proj, lk, reduceIte, Nat.reduceEqDiff]; rfl) ?_)); clear hK49
              refine V_condp rfl (fun c124 => ?_) (fun c124 => ?_)
              · skip
                have hbs : Bf (cf cl s) = vv (cf cl) cl.length s := hbs0 (by omega)
                have hrk1 := hrk (by omega)
                have hfb1 := hfb (by omega)
                have hbs1 := hbs0 (by omega)
                refine V_srM #[0, 1, 2, 3, 4, 5, 6, 7, 8, 9, 10, 11] [0, 1, 2, 3, 4, 5, 6, 7, 8] 9 [10, 11] T.mix (by kernel_rfl) rfl ⟨rfl, rfl⟩ (fun K50 hK50 => ?_)
                refine S_mv rfl ?_
                refine S_nc rfl ?_
                first | refine S_fa0 T.f70_2 rfl ?_ | refine S_fa T.f70_2 rfl ?_
                refine S_ldK T.ag56 rfl (fun K' hK' => ?_)
                simp (disch := omega) only [q0, q1, q2, q3, q4, q5, q6, q7, q8, q9, q10, q11, q12, anx, Nat.zero_add, oP_some, Nat.add_zero]
                refine hK' _ ?_; clear hK' K'
                refine S_mv rfl ?_
                refine S_mv rfl ?_
                first | refine S_ixan T.ar203 rfl rfl (by omega) ?_ | refine S_ixa1 T.ar203 rfl rfl (by omega) (by omega) ?_
                refine S_ldK T.ag3 rfl (fun K' hK' => ?_)
                simp (disch := omega) only [q0, q1, q2, q3, q4, q5, q6, q7, q8, q9, q10, q11, q12, anx, Nat.zero_add, oP_some, Nat.add_zero]
                refine hK' _ ?_; clear hK' K'
                refine S_mv rfl ?_
                refine S_nil ?_
                refine SM_call T.hb161 rfl ?_
                refine FC.mono (flip_spec h5 (Bf (cf cl s)) (cf cl s) (by omega) (by omega)) ?_
                rintro v' h' ⟨rfl, rfl⟩
                first | refine ⟨Grows.refl _, ?_⟩ | refine ⟨Grows.of_ext (by assumption), ?_⟩
                first | refine S_ixn T.el56 rfl rfl (by omega) ?_ | refine S_ix1 T.el56 rfl rfl (by omega) (by omega) ?_ | refine S_ix T.el56 rfl rfl (by omega) (by omega) ?_
                refine S_st T.sz3 rfl rfl rfl rfl (by simp (disch := omega) only [hoc]) ?_
                generalize hh : putH _ _ _ = h6
                have c6 : CB h6 X { u with n := cl.length, lens := ups le s (cf cl s), code := ups (ups co s 0) s (Huf.rv (Bf (cf cl s)) (cf cl s)) } := by rw [← hh]; exact c5.pcode s (Huf.rv (Bf (cf cl s)) (cf cl s))
                have hE6 : Ext (CT X) h5 h6 := by rw [← hh]; exact CB.pute (by omega)
                clear hh
                rw [ups_up] at c6
                have hB6 := hB5.ext hE6 hnx
                have anx := ia_at hB6
                have hoo := ia_ok hB6
                refine S_nil (hK50 _ _ (V_keep [0, 1, 10, 12, 13] (by simp only [proj, lk, reduceIte, Nat.reduceEqDiff]; rfl) ?_)); clear hK50
                refine V_reg T.mix (by kernel_rfl) ?_
                refine S_mv rfl ?_
                first | refine S_ixan T.ar203 rfl rfl (by omega) ?_ | refine S_ixa1 T.ar203 rfl rfl (by omega) (by omega) ?_
                refine S_ldK T.ag3 rfl (fun K' hK' => ?_)
                simp (disch := omega) only [anx, Nat.zero_add, oP_some, Nat.add_zero]
                refine hK' _ ?_; clear hK' K'
                refine S_addN (Bf (cf cl s) + 1) rfl rfl (by omega) (by omega) ?_
                first | refine S_ixan T.ar203 rfl rfl (by omega) ?_ | refine S_ixa1 T.ar203 rfl rfl (by omega) (by omega) ?_
                refine S_st T.sz3 rfl rfl rfl rfl (by simp (disch := omega) only [hoo]) ?_
                generalize hh : putH _ _ _ = h7
                have hB7 : B h7 nb (ia 11 (ups Bf (cf cl s) (Bf (cf cl s) + 1))) 203 := by rw [← hh]; simp only [Nat.zero_add]; exact ia_put hB6 _ _
                have hE7 : Ext (fun b => b = nb) h6 h7 := by rw [← hh]; exact Ext.put _ _ rfl
                clear hh
                refine S_nilk [0, 1, 10, 12] (by simp only [proj, lk, reduceIte, Nat.reduceEqDiff]; rfl) ?_
                refine hK45 _ _ ?_; clear hK45
                refine V_reg T.mix (by kernel_rfl) ?_
                refine S_mv rfl ?_
                first | refine S_add rfl rfl (by omega) (by omega) ?_ | refine S_bin rfl rfl rfl ?_
                refine S_as rfl ?_
                refine S_nilk [0, 1, 10, 12] (by simp only [proj, lk, reduceIte, Nat.reduceEqDiff]; rfl) ?_
                exact hK42 _ _ ⟨_, by omega, s + 1, h7, _, _, _, by omega, (show CB h6 X { u with n := cl.length, lens := ups le s (cf cl s), code := ups co s (Huf.rv (Bf (cf cl s)) (cf cl s)) } from c6).ext hE7 (fun b hb e => hnx (by rw [← e]; exact hb)), fun j hj => by by_cases e : j = s; (rw [e, ups_eq, ups_eq, hbs]; exact ⟨rfl, rfl⟩); (rw [ups_ne _ _ e, ups_ne _ _ e]; exact hjs j (by omega)), hB7, fun m_ h1_ h2_ => by rw [ct_succ]; by_cases e : cf cl s = m_; (rw [if_pos e, ← e, ups_eq, hBf _ (by omega) (by omega)]; rfl); (rw [if_neg e, ups_ne _ _ (by omega)]; exact hBf m_ h1_ h2_), (((hEs.trans (hE4.mono fun _ e => .inl e)).trans (hE5.mono fun _ e => .inl e)).trans (hE6.mono fun _ e => .inl e)).trans (hE7.mono fun b e => .inr (by omega)), rfl, rfl, rfl⟩
              · skip
                refine V_skipk [0, 1, 10, 12] (by simp only [proj, lk, reduceIte, Nat.reduceEqDiff]; rfl) ?_
                refine hK45 _ _ ?_; clear hK45
                refine V_reg T.mix (by kernel_rfl) ?_
                refine S_mv rfl ?_
                first | refine S_add rfl rfl (by omega) (by omega) ?_ | refine S_bin rfl rfl rfl ?_
                refine S_as rfl ?_
                refine S_nilk [0, 1, 10, 12] (by simp only [proj, lk, reduceIte, Nat.reduceEqDiff]; rfl) ?_
                exact hK42 _ _ ⟨_, by omega, s + 1, h5, _, _, Bf, by omega, c5, fun j hj => by by_cases e : j = s; (rw [e, ups_eq, ups_eq]; refine ⟨rfl, ?_⟩; unfold cd; rw [show cf cl s = 0 by omega]; rfl); (rw [ups_ne _ _ e, ups_ne _ _ e]; exact hjs j (by omega)), hB5, fun m_ h1_ h2_ => by rw [ct_succ, if_neg (by omega)]; exact hBf m_ h1_ h2_, (hEs.trans (hE4.mono fun _ e => .inl e)).trans (hE5.mono fun _ e => .inl e), rfl, rfl, rfl⟩
            · skip
              have hsN : s = cl.length := by omega
              rw [hsN] at hjs
              refine V_exitk [0] rfl (by simp only [proj, lk, reduceIte, Nat.reduceEqDiff]; rfl) ?_
              refine hK40 _ _ ?_; clear hK40
              refine V_sr T.mix (by kernel_rfl) (fun K51 hK51 => ?_)
              refine S_mv rfl ?_
              refine S_call T.hb162 rfl ?_
              refine FC.mono (lay_spec hk X { u with n := cl.length, lens := le, code := co } ck (cf cl) hln (by show cl.length ≤ 265; omega) (fun j hj => (hjs j hj).1) (fun j hj => (hjs j hj).2)) ?_
              rintro v' h9 ⟨rfl, root, sub, top_, c9, tb, hE9⟩
              refine S_nil (hK51 _ _ (V_keep [] (by simp only [proj, lk, reduceIte, Nat.reduceEqDiff]; rfl) ?_)); clear hK51
              refine V_sr T.mix (by kernel_rfl) (fun K52 hK52 => ?_)
              refine S_as rfl ?_
              refine S_nil (hK52 _ _ (V_keep [4] (by simp only [proj, lk, reduceIte, Nat.reduceEqDiff]; rfl) ?_)); clear hK52
              refine V_ret ?_
              refine hR _ _ (ret1 rfl rfl ?_)
              exact ⟨_, by rw [he0]; rfl, c9, fun e => absurd he0 e, fun _ => ⟨⟨by show cl.length ≤ 265; omega, fun j hj => (hjs j hj).1, fun j hj => (hjs j hj).2, tb, (lensE_lw he0).2.2⟩, rfl, rfl⟩, (hEs.trans (hE9.mono fun _ e => .inl e)).1, fun b hb hn => (hEs.trans (hE9.mono fun _ e => .inl e)).2 b hb (fun e => by rcases e with e | e; (exact hn e); (omega))⟩
end Go.Proofs.Qxb6500404aGreat.HufW
