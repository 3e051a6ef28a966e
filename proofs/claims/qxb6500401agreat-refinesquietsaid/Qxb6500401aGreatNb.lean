import Derived.Test.Qxb6500401aGreatNa
set_option linter.unusedVariables false
set_option linter.unusedSimpArgs false
namespace Go.Proofs.Qxb6500401aGreat
open Go.Eng Go.Trl Go.Chk Go.Wat Go.Cnf

theorem full_all {s : TS} (hok : Ok s) (hf : s.L.length = 12) {x : Int} (hx : gd x) : x ∈ lits s.L ∨ -x ∈ lits s.L := by
  rcases vO3 (s := s) hx with q | q | q
  · exact .inl q.2
  · exact .inr q.2
  · exfalso
    have hn : New s.L (vr x) := by
      unfold New; rw [loc_none]; intro y hy e
      obtain ⟨i, hi⟩ := List.mem_iff_getElem?.1 hy
      have hm := lits_at hi
      rcases vr_eq e with z | z
      · exact q.2.1 (z ▸ mem_idx.2 ⟨i, hm⟩)
      · exact q.2.2 (z ▸ mem_idx.2 ⟨i, hm⟩)
    have := (TI.app (x := ⟨x, s.k, -1⟩) hok hx (by simp only []; omega) hn (.inl rfl) (k' := s.k) rfl).len
    simp at this; omega
theorem val_of {s : TS} (hok : Ok s) {x : Int} (hx : gd x) (hm : x ∈ lits s.L) : valO s x = 1 := by
  rcases vO3 (s := s) hx with q | q | q
  · exact q.1
  · exact absurd q.2 (con_lits hok x hm)
  · exact absurd hm q.2.1
theorem md_val {s : TS} (hok : Ok s) (hf : s.L.length = 12) {j : Nat} (hj : j < 12) : valO s (mdA s j) = 1 := by
  have hg : gd ((j + 1 : Nat) : Int) := by unfold gd; omega
  unfold mdA; split
  · rename_i e; exact e
  · rename_i e
    rcases full_all hok hf hg with q | q
    · exact absurd (val_of hok hg q) e
    · exact val_of hok (by unfold gd; omega) q
theorem md_cases (s : TS) (j : Nat) : (mdA s j = ((j + 1 : Nat) : Int) ∧ valO s ((j + 1 : Nat) : Int) = 1) ∨ (mdA s j = -((j + 1 : Nat) : Int) ∧ ¬ valO s ((j + 1 : Nat) : Int) = 1) := by
  unfold mdA; split
  · rename_i e; exact .inl ⟨rfl, e⟩
  · rename_i e; exact .inr ⟨rfl, e⟩
theorem ids_le {cl : Nat → Option (List Int)} {cs : Sto} (h : ∀ i, i < 40 → cl i = cs[i]?) : (idsF cl 52).length ≤ cs.length + 12 := by
  have key : ∀ n, n ≤ 40 → (idsF cl n).length ≤ min n cs.length := by
    intro n
    induction n with
    | zero => intro _; simp [idsF]
    | succ n ih =>
      intro hn
      have := ih (by omega)
      rw [idsF_succ, List.length_append, h n (by omega)]
      by_cases e : n < cs.length
      · rw [List.getElem?_eq_getElem e]; simp; omega
      · rw [List.getElem?_eq_none (by omega)]; simp; omega
  have k2 : ∀ d, (idsF cl (40 + d)).length ≤ (idsF cl 40).length + d := by
    intro d
    induction d with
    | zero => simp
    | succ d ih => rw [← Nat.add_assoc, idsF_succ, List.length_append]; split <;> simp <;> omega
  have h1 := key 40 (Nat.le_refl _)
  have h2 : (idsF cl 52).length ≤ (idsF cl 40).length + 12 := k2 12
  omega
theorem ti63 {a : Nat} (h : a < 4096) : a < top .i64 := Nat.lt_of_lt_of_le h (by decide)
set_option maxHeartbeats 800000 in
theorem witness_spec (h : Heap) (ca : Option Addr) (cc lo hi_ : Nat) (cs : Sto) (hlv : ChkW.LV lo hi_ h ca cc cs) (hcs : ∀ c ∈ cs, Nrm c) (h40 : cs.length ≤ 40) (s : TS) (ma : Option Addr) (hm : IL h ma 12 (mdF s)) (hsat : sat cs (mskF s 12)) (e q cf rs : Int) :
    FC Tryz.prog 42 (#[.slice ca (List.length cs) cc, .agg #[.int .i64 e, .int .i64 q, .bool true, .slice ma 12 12, .string ⟨#[]⟩, .int .i64 cf, .int .i64 rs]] : Array Value) h fun rv h' => rv = .bool true ∧ Ext (fun _ => False) h h' := by
  have hml := md_len s
  refine FC_of [(0, .slice ca (List.length cs) cc), (1, .agg #[.int .i64 e, .int .i64 q, .bool true, .slice ma 12 12, .string ⟨#[]⟩, .int .i64 cf, .int .i64 rs])] Tryz.func42 rfl Tryz.ntmps42 (by simp) rfl (fun R hR => ?_)
  refine V_sr T.mix (by kernel_rfl) (fun K1 hK1 => ?_)
  refine S_boxA rfl ?_
  generalize hh : Array.push h _ = h1
  have hah1 : B h1 h.size #[.int .i64 e, .int .i64 q, .bool true, .slice ma 12 12, .string ⟨#[]⟩, .int .i64 cf, .int .i64 rs] 82 := by rw [← hh]; exact B.new _ _ _
  have hEh1 : Ext (fun _ => False) h h1 := by rw [← hh]; exact Ext.push _ _ _
  have hsh1 : h1.size = h.size + 1 := by rw [← hh]; simp
  clear hh
  obtain ⟨bm, rfl, _, hg, _⟩ := (hm.ext hEh1 (fun _ _ f => f)).get (by rw [hml]; omega)
  have hat : ∀ j, j < 12 → cellH h1 ⟨bm, j, none⟩ = some (.int .i64 (mdA s j)) := fun j hj => by rw [hg j (by rw [hml]; exact hj), md_at s hj]
  obtain ⟨a0, a1, a2, a3, a4, a5, a6⟩ := aq7 (hah1)
  refine S_as rfl ?_
  refine S_nil (hK1 _ _ (V_keep [0, 3] (by simp only [proj, lk, reduceIte, Nat.reduceEqDiff]; rfl) ?_)); clear hK1
  refine V_seq (fun K2 hK2 => ?_)
  refine V_sr T.mix (by kernel_rfl) (fun K3 hK3 => ?_)
  first | refine S_fa0 T.f82_3 rfl ?_ | refine S_fa T.f82_3 rfl ?_
  refine S_ldK T.ag49 rfl (fun K' hK' => ?_)
  simp (disch := omega) only [a0, a1, a2, a3, a4, hat, oP_some, Nat.add_zero]
  refine hK' _ ?_; clear hK' K'
  refine S_lenl T.el49 rfl ?_
  refine S_bin rfl rfl rfl ?_
  refine S_mv rfl ?_
  refine S_dec (fun g168 => ?_) (fun g168 => ?_)
  · skip
    refine S_gf rfl ?_
    refine S_gf rfl ?_
    refine S_gf rfl ?_
    refine S_gf rfl ?_
    refine S_pt rfl rfl ?_
    refine S_mv rfl ?_
    refine S_gf rfl ?_
    refine S_gf rfl ?_
    refine S_gf rfl ?_
    refine S_pt rfl rfl ?_
    refine S_nil (hK3 _ _ (V_keep [0, 3, 22] (by simp only [proj, lk, reduceIte, Nat.reduceEqDiff]; rfl) ?_)); clear hK3
    refine V_condt rfl ?_
    refine V_sr T.mix (by kernel_rfl) (fun K4 hK4 => ?_)
    refine S_as rfl ?_
    refine S_nil (hK4 _ _ (V_keep [4] (by simp only [proj, lk, reduceIte, Nat.reduceEqDiff]; rfl) ?_)); clear hK4
    refine V_ret ?_
    refine hR _ _ (ret1 rfl rfl ?_)
    first | (exfalso; omega) | (exfalso; simp_all; done) | exact ⟨rfl, hEh1⟩
  · skip
    refine S_gt rfl ?_
    first | refine S_fa0 T.f82_3 rfl ?_ | refine S_fa T.f82_3 rfl ?_
    refine S_gt rfl ?_
    refine S_ldK T.ag49 rfl (fun K' hK' => ?_)
    simp (disch := omega) only [a0, a1, a2, a3, a4, hat, oP_some, Nat.add_zero]
    refine hK' _ ?_; clear hK' K'
    refine S_gt rfl ?_
    refine S_capl T.el49 rfl ?_
    refine S_gt rfl ?_
    refine S_bin rfl rfl rfl ?_
    refine S_pf rfl rfl ?_
    refine S_mv rfl ?_
    refine S_dec (fun g168a => ?_) (fun g168a => ?_)
    · skip
      refine S_gf rfl ?_
      refine S_gf rfl ?_
      refine S_gf rfl ?_
      refine S_pt rfl rfl ?_
      refine S_nil (hK3 _ _ (V_keep [0, 3, 22] (by simp only [proj, lk, reduceIte, Nat.reduceEqDiff]; rfl) ?_)); clear hK3
      refine V_condt rfl ?_
      refine V_sr T.mix (by kernel_rfl) (fun K5 hK5 => ?_)
      refine S_as rfl ?_
      refine S_nil (hK5 _ _ (V_keep [4] (by simp only [proj, lk, reduceIte, Nat.reduceEqDiff]; rfl) ?_)); clear hK5
      refine V_ret ?_
      refine hR _ _ (ret1 rfl rfl ?_)
      first | (exfalso; omega) | (exfalso; simp_all; done) | exact ⟨rfl, hEh1⟩
    · skip
      refine S_gt rfl ?_
      first | refine S_fa0 T.f82_4 rfl ?_ | refine S_fa T.f82_4 rfl ?_
      refine S_gt rfl ?_
      refine S_ldK T.ag9 rfl (fun K' hK' => ?_)
      simp (disch := omega) only [a0, a1, a2, a3, a4, hat, oP_some, Nat.add_zero]
      refine hK' _ ?_; clear hK' K'
      refine S_gt rfl ?_
      refine S_bin rfl rfl rfl ?_
      refine S_pf rfl rfl ?_
      refine S_nil (hK3 _ _ (V_keep [0, 3, 22] (by simp only [proj, lk, reduceIte, Nat.reduceEqDiff]; rfl) ?_)); clear hK3
      refine V_condp rfl (fun c168 => ?_) (fun c168 => ?_)
      · skip
        refine V_sr T.mix (by kernel_rfl) (fun K6 hK6 => ?_)
        refine S_as rfl ?_
        refine S_nil (hK6 _ _ (V_keep [4] (by simp only [proj, lk, reduceIte, Nat.reduceEqDiff]; rfl) ?_)); clear hK6
        refine V_ret ?_
        refine hR _ _ (ret1 rfl rfl ?_)
        first | (exfalso; omega) | (exfalso; simp_all; done) | exact ⟨rfl, hEh1⟩
      · skip
        refine V_skipk [0, 3] (by simp only [proj, lk, reduceIte, Nat.reduceEqDiff]; rfl) ?_
        refine hK2 _ _ ?_; clear hK2
        refine V_sr T.mix (by kernel_rfl) (fun K7 hK7 => ?_)
        refine S_as rfl ?_
        refine S_nil (hK7 _ _ (V_keep [0, 3, 5] (by simp only [proj, lk, reduceIte, Nat.reduceEqDiff]; rfl) ?_)); clear hK7
        refine V_seq (fun K8 hK8 => ?_)
        refine V_sr T.mix (by kernel_rfl) (fun K9 hK9 => ?_)
        refine S_as rfl ?_
        refine S_nil (hK9 _ _ (V_keep [0, 3, 5, 6] (by simp only [proj, lk, reduceIte, Nat.reduceEqDiff]; rfl) ?_)); clear hK9
        refine V_block ?_
        refine V_loop (fun m l h' => ∃ (v : Nat), (1 ≤ v) ∧ (v ≤ 13) ∧ m = 13 - v ∧ l = [(0, .slice ca (List.length cs) cc), (3, .pointer (some ⟨h.size, 0, none⟩)), (5, .int .i64 ((mskF s (v - 1) : Nat) : Int)), (6, .int .i64 (v : Int))] ∧ h1 = h') _ ⟨1, by omega, by omega, rfl, rfl, rfl⟩ ?_
        rintro m l h' ⟨v, hv1, hv2, rfl, rfl, rfl⟩ K10 hK10
        have hmd := md_cases s (v - 1)
        rw [show v - 1 + 1 = v by omega] at hmd
        have hmk : mskF s (v - 1) < 4096 := Nat.lt_pow_two_of_testBit (n := 12) _ (fun i hi => by rw [msk_bit]; simp; omega)
        have hms : mskF s v = mskF s (v - 1) ||| (if valO s (v : Int) = 1 then 2 ^ (v - 1) else 0) := by conv => lhs; rw [show v = v - 1 + 1 by omega]; unfold mskF; rw [show v - 1 + 1 = v by omega]
        refine V_seq (fun K11 hK11 => ?_)
        refine V_sr T.mix (by kernel_rfl) (fun K12 hK12 => ?_)
        refine S_mv rfl ?_
        refine S_bin rfl rfl rfl ?_
        refine S_nil (hK12 _ _ (V_keep [0, 3, 5, 6, 24] (by simp only [proj, lk, reduceIte, Nat.reduceEqDiff]; rfl) ?_)); clear hK12
        refine V_condp rfl (fun c172 => ?_) (fun c172 => ?_)
        · skip
          refine V_skipk [0, 3, 5, 6] (by simp only [proj, lk, reduceIte, Nat.reduceEqDiff]; rfl) ?_
          refine hK11 _ _ ?_; clear hK11
          refine V_seq (fun K13 hK13 => ?_)
          refine V_block ?_
          refine V_sr T.mix (by kernel_rfl) (fun K14 hK14 => ?_)
          first | refine S_fa0 T.f82_3 rfl ?_ | refine S_fa T.f82_3 rfl ?_
          refine S_ldK T.ag49 rfl (fun K' hK' => ?_)
          simp (disch := omega) only [a0, a1, a2, a3, a4, hat, oP_some, Nat.add_zero]
          refine hK' _ ?_; clear hK' K'
          refine S_mv rfl ?_
          refine S_subN (v - 1) rfl rfl (by omega) (by omega) ?_
          first | refine S_ixn T.el49 rfl rfl (by omega) ?_ | refine S_ix1 T.el49 rfl rfl (by omega) (by omega) ?_ | refine S_ix T.el49 rfl rfl (by omega) (by omega) ?_
          refine S_ldK T.ag3 rfl (fun K' hK' => ?_)
          simp (disch := omega) only [a0, a1, a2, a3, a4, hat, oP_some, Nat.add_zero]
          refine hK' _ ?_; clear hK' K'
          refine S_as rfl ?_
          refine S_nil (hK14 _ _ (V_keep [0, 3, 5, 6, 7] (by simp only [proj, lk, reduceIte, Nat.reduceEqDiff]; rfl) ?_)); clear hK14
          refine V_seq (fun K15 hK15 => ?_)
          refine V_sr T.mix (by kernel_rfl) (fun K16 hK16 => ?_)
          refine S_mv rfl ?_
          refine S_mv rfl ?_
          refine S_bin rfl rfl rfl ?_
          refine S_mv rfl ?_
          refine S_dec (fun g174 => ?_) (fun g174 => ?_)
          · skip
            refine S_gt rfl ?_
            refine S_mv rfl ?_
            refine S_gt rfl ?_
            refine S_mv rfl ?_
            refine S_gt rfl ?_
            first | refine S_neg rfl (by omega) (by omega) ?_ | refine S_un rfl rfl ?_
            refine S_gt rfl ?_
            refine S_bin rfl rfl rfl ?_
            refine S_pt rfl rfl ?_
            refine S_nil (hK16 _ _ (V_keep [0, 3, 5, 6, 7, 41] (by simp only [proj, lk, reduceIte, Nat.reduceEqDiff]; rfl) ?_)); clear hK16
            refine V_condp rfl (fun c174 => ?_) (fun c174 => ?_)
            · skip
              refine V_sr T.mix (by kernel_rfl) (fun K17 hK17 => ?_)
              refine S_as rfl ?_
              refine S_nil (hK17 _ _ (V_keep [4] (by simp only [proj, lk, reduceIte, Nat.reduceEqDiff]; rfl) ?_)); clear hK17
              refine V_ret ?_
              refine hR _ _ (ret1 rfl rfl ?_)
              first | (exfalso; omega) | (exfalso; simp_all; done) | exact ⟨rfl, hEh1⟩
            · skip
              refine V_skipk [0, 3, 5, 6, 7] (by simp only [proj, lk, reduceIte, Nat.reduceEqDiff]; rfl) ?_
              refine hK15 _ _ ?_; clear hK15
              refine V_sr T.mix (by kernel_rfl) (fun K18 hK18 => ?_)
              refine S_mv rfl ?_
              refine S_mv rfl ?_
              refine S_bin rfl rfl rfl ?_
              refine S_nil (hK18 _ _ (V_keep [0, 3, 5, 6, 44] (by simp only [proj, lk, reduceIte, Nat.reduceEqDiff]; rfl) ?_)); clear hK18
              refine V_condp rfl (fun c177 => ?_) (fun c177 => ?_)
              · skip
                refine V_reg T.mix (by kernel_rfl) ?_
                refine S_mv rfl ?_
                refine S_mv rfl ?_
                refine S_subN (v - 1) rfl rfl (by omega) (by omega) ?_
                first | refine S_cvn T.us3 T.in57 rfl rfl (by first | omega | (simp only [IntKind.bits]; omega)) ?_ | refine S_cvu T.us3 T.in57 rfl (by omega) (by omega) ?_ | refine S_cv T.us3 T.in57 rfl ?_
                refine S_nshl 1 (v - 1) (2 ^ (v - 1)) rfl rfl rfl rfl (Nat.one_mul _) (show v - 1 ≤ 64 by omega) (ti63 (p12 (by omega))) ?_
                refine S_nor (mskF s (v - 1)) (2 ^ (v - 1)) _ rfl rfl rfl rfl rfl (ti63 hmk) (ti63 (p12 (by omega))) ?_
                refine S_as rfl ?_
                refine S_nilk [0, 3, 5, 6] (by simp only [proj, lk, reduceIte, Nat.reduceEqDiff]; rfl) ?_
                refine hK13 _ _ ?_; clear hK13
                refine V_reg T.mix (by kernel_rfl) ?_
                refine S_mv rfl ?_
                first | refine S_add rfl rfl (by omega) (by omega) ?_ | refine S_bin rfl rfl rfl ?_
                refine S_as rfl ?_
                refine S_nilk [0, 3, 5, 6] (by simp only [proj, lk, reduceIte, Nat.reduceEqDiff]; rfl) ?_
                rcases hmd with q | q
                · first | (exfalso; omega) | (rw [if_pos q.2] at hms; exact hK10 _ _ ⟨_, by omega, v + 1, by omega, by omega, rfl, (by rw [show v + 1 - 1 = v by omega, hms]; rfl), rfl⟩)
                · first | (exfalso; omega) | (rw [if_neg q.2, Nat.or_zero] at hms; exact hK10 _ _ ⟨_, by omega, v + 1, by omega, by omega, rfl, (by rw [show v + 1 - 1 = v by omega, hms]; rfl), rfl⟩)
              · skip
                refine V_skipk [0, 3, 5, 6] (by simp only [proj, lk, reduceIte, Nat.reduceEqDiff]; rfl) ?_
                refine hK13 _ _ ?_; clear hK13
                refine V_reg T.mix (by kernel_rfl) ?_
                refine S_mv rfl ?_
                first | refine S_add rfl rfl (by omega) (by omega) ?_ | refine S_bin rfl rfl rfl ?_
                refine S_as rfl ?_
                refine S_nilk [0, 3, 5, 6] (by simp only [proj, lk, reduceIte, Nat.reduceEqDiff]; rfl) ?_
                rcases hmd with q | q
                · first | (exfalso; omega) | (rw [if_pos q.2] at hms; exact hK10 _ _ ⟨_, by omega, v + 1, by omega, by omega, rfl, (by rw [show v + 1 - 1 = v by omega, hms]; rfl), rfl⟩)
                · first | (exfalso; omega) | (rw [if_neg q.2, Nat.or_zero] at hms; exact hK10 _ _ ⟨_, by omega, v + 1, by omega, by omega, rfl, (by rw [show v + 1 - 1 = v by omega, hms]; rfl), rfl⟩)
          · skip
            refine S_gf rfl ?_
            refine S_gf rfl ?_
            refine S_gf rfl ?_
            refine S_gf rfl ?_
            refine S_pf rfl rfl ?_
            refine S_nil (hK16 _ _ (V_keep [0, 3, 5, 6, 7, 41] (by simp only [proj, lk, reduceIte, Nat.reduceEqDiff]; rfl) ?_)); clear hK16
            refine V_condf rfl ?_
            refine V_skipk [0, 3, 5, 6, 7] (by simp only [proj, lk, reduceIte, Nat.reduceEqDiff]; rfl) ?_
            refine hK15 _ _ ?_; clear hK15
            refine V_sr T.mix (by kernel_rfl) (fun K19 hK19 => ?_)
            refine S_mv rfl ?_
            refine S_mv rfl ?_
            refine S_bin rfl rfl rfl ?_
            refine S_nil (hK19 _ _ (V_keep [0, 3, 5, 6, 44] (by simp only [proj, lk, reduceIte, Nat.reduceEqDiff]; rfl) ?_)); clear hK19
            refine V_condp rfl (fun c177a => ?_) (fun c177a => ?_)
            · skip
              refine V_reg T.mix (by kernel_rfl) ?_
              refine S_mv rfl ?_
              refine S_mv rfl ?_
              refine S_subN (v - 1) rfl rfl (by omega) (by omega) ?_
              first | refine S_cvn T.us3 T.in57 rfl rfl (by first | omega | (simp only [IntKind.bits]; omega)) ?_ | refine S_cvu T.us3 T.in57 rfl (by omega) (by omega) ?_ | refine S_cv T.us3 T.in57 rfl ?_
              refine S_nshl 1 (v - 1) (2 ^ (v - 1)) rfl rfl rfl rfl (Nat.one_mul _) (show v - 1 ≤ 64 by omega) (ti63 (p12 (by omega))) ?_
              refine S_nor (mskF s (v - 1)) (2 ^ (v - 1)) _ rfl rfl rfl rfl rfl (ti63 hmk) (ti63 (p12 (by omega))) ?_
              refine S_as rfl ?_
              refine S_nilk [0, 3, 5, 6] (by simp only [proj, lk, reduceIte, Nat.reduceEqDiff]; rfl) ?_
              refine hK13 _ _ ?_; clear hK13
              refine V_reg T.mix (by kernel_rfl) ?_
              refine S_mv rfl ?_
              first | refine S_add rfl rfl (by omega) (by omega) ?_ | refine S_bin rfl rfl rfl ?_
              refine S_as rfl ?_
              refine S_nilk [0, 3, 5, 6] (by simp only [proj, lk, reduceIte, Nat.reduceEqDiff]; rfl) ?_
              rcases hmd with q | q
              · first | (exfalso; omega) | (rw [if_pos q.2] at hms; exact hK10 _ _ ⟨_, by omega, v + 1, by omega, by omega, rfl, (by rw [show v + 1 - 1 = v by omega, hms]; rfl), rfl⟩)
              · first | (exfalso; omega) | (rw [if_neg q.2, Nat.or_zero] at hms; exact hK10 _ _ ⟨_, by omega, v + 1, by omega, by omega, rfl, (by rw [show v + 1 - 1 = v by omega, hms]; rfl), rfl⟩)
            · skip
              refine V_skipk [0, 3, 5, 6] (by simp only [proj, lk, reduceIte, Nat.reduceEqDiff]; rfl) ?_
              refine hK13 _ _ ?_; clear hK13
              refine V_reg T.mix (by kernel_rfl) ?_
              refine S_mv rfl ?_
              first | refine S_add rfl rfl (by omega) (by omega) ?_ | refine S_bin rfl rfl rfl ?_
              refine S_as rfl ?_
              refine S_nilk [0, 3, 5, 6] (by simp only [proj, lk, reduceIte, Nat.reduceEqDiff]; rfl) ?_
              rcases hmd with q | q
              · first | (exfalso; omega) | (rw [if_pos q.2] at hms; exact hK10 _ _ ⟨_, by omega, v + 1, by omega, by omega, rfl, (by rw [show v + 1 - 1 = v by omega, hms]; rfl), rfl⟩)
              · first | (exfalso; omega) | (rw [if_neg q.2, Nat.or_zero] at hms; exact hK10 _ _ ⟨_, by omega, v + 1, by omega, by omega, rfl, (by rw [show v + 1 - 1 = v by omega, hms]; rfl), rfl⟩)
        · skip
          refine V_exitk [0, 5] rfl (by simp only [proj, lk, reduceIte, Nat.reduceEqDiff]; rfl) ?_
          refine hK8 _ _ ?_; clear hK8
          refine V_sr T.mix (by kernel_rfl) (fun K20 hK20 => ?_)
          refine S_mv rfl ?_
          refine S_mv rfl ?_
          refine S_call T.hb79 rfl ?_
          rw [show v - 1 = 12 by omega]
          refine FC.mono (ChkW.allhold_spec h1 ca cc lo hi_ cs (hlv.ext hEh1 (fun _ _ _ f => f)) hcs (by omega) (mskF s 12) msk_lt) ?_
          rintro v' h' ⟨g, rfl, hg2, rfl⟩
          rw [hg2.2 hsat]
          refine S_as rfl ?_
          refine S_nil (hK20 _ _ (V_keep [4] (by simp only [proj, lk, reduceIte, Nat.reduceEqDiff]; rfl) ?_)); clear hK20
          refine V_ret ?_
          refine hR _ _ (ret1 rfl rfl ?_)
          first | (exfalso; omega) | (exfalso; simp_all; done) | exact ⟨rfl, hEh1⟩
set_option maxHeartbeats 1600000 in
theorem handed_spec (h : Heap) (P X C K : Nat) (W : WC) (cl : Nat → Option (List Int)) (s : TS) (p : Nat) (wx : WX h C X W cl s p) (ca : Option Addr) (cc lo hi_ : Nat) (cs : Sto) (hlv : ChkW.LV lo hi_ h ca cc cs) (hcs : ∀ c ∈ cs, Nrm c) (h40 : cs.length ≤ 40) (hpb : ∀ i, i < 40 → cl i = cs[i]?) (sb : Bool) (ma : Option Addr) (mn mc : Nat) (pf : ByteArray) (e q cf rs : Int) (hsb : sb = true → IL h ma 12 (mdF s) ∧ mn = 12 ∧ s.L.length = 12) :
    FC Tryz.prog 39 (#[.agg #[.pointer (some ⟨P, 0, none⟩), .pointer (some ⟨X, 0, none⟩), .pointer (some ⟨C, 0, none⟩), .pointer (some ⟨K, 0, none⟩)], .slice ca (List.length cs) cc, .agg #[.int .i64 e, .int .i64 q, .bool sb, .slice ma mn mc, .string pf, .int .i64 cf, .int .i64 rs]] : Array Value) h fun rv h' => rv = .bool true ∧ Ext (fun _ => False) h h' := by
  have hok := wx.t.ok
  have hcl := wx_nl wx
  have hml := md_len s
  obtain ⟨hcell, hat⟩ : True ∧ True := ⟨trivial, trivial⟩
  refine FC_of [(0, .agg #[.pointer (some ⟨P, 0, none⟩), .pointer (some ⟨X, 0, none⟩), .pointer (some ⟨C, 0, none⟩), .pointer (some ⟨K, 0, none⟩)]), (1, .slice ca (List.length cs) cc), (2, .agg #[.int .i64 e, .int .i64 q, .bool sb, .slice ma mn mc, .string pf, .int .i64 cf, .int .i64 rs])] Tryz.func39 rfl Tryz.ntmps39 (by simp) rfl (fun R hR => ?_)
  refine V_sr T.mix (by kernel_rfl) (fun K1 hK1 => ?_)
  refine S_boxA rfl ?_
  generalize hh : Array.push h _ = h1
  have hbh1 : B h1 h.size #[.pointer (some ⟨P, 0, none⟩), .pointer (some ⟨X, 0, none⟩), .pointer (some ⟨C, 0, none⟩), .pointer (some ⟨K, 0, none⟩)] 34 := by rw [← hh]; exact B.new _ _ _
  have hEh1 : Ext (fun _ => False) h h1 := by rw [← hh]; exact Ext.push _ _ _
  have hsh1 : h1.size = h.size + 1 := by rw [← hh]; simp
  clear hh
  have hs1 := hEh1.1
  refine S_boxA rfl ?_
  generalize hh : Array.push h1 _ = h2
  have hah2 : B h2 h1.size #[.int .i64 e, .int .i64 q, .bool sb, .slice ma mn mc, .string pf, .int .i64 cf, .int .i64 rs] 82 := by rw [← hh]; exact B.new _ _ _
  have hEh2 : Ext (fun _ => False) h1 h2 := by rw [← hh]; exact Ext.push _ _ _
  have hsh2 : h2.size = h1.size + 1 := by rw [← hh]; simp
  clear hh
  try clear b0 b1 b2 b3 b4
  obtain ⟨b0, b1, b2, b3, b4⟩ := bq4 (hbh1.ext hEh2 (fun f => f))
  obtain ⟨a0, a1, a2, a3, a4, a5, a6⟩ := aq7 (hah2)
  have hE12 := hEh1.trans hEh2
  have wx2 := wx.ext hE12 (fun f => f) (fun f => f)
  have hlv2 := hlv.ext hE12 (fun _ _ _ f => f)
  have hs2 := hEh2.1
  refine S_as rfl ?_
  refine S_nil (hK1 _ _ (V_keep [1, 3, 5] (by simp only [proj, lk, reduceIte, Nat.reduceEqDiff]; rfl) ?_)); clear hK1
  refine V_seq (fun K2 hK2 => ?_)
  refine V_sr T.mix (by kernel_rfl) (fun K3 hK3 => ?_)
  refine S_as rfl ?_
  refine S_nil (hK3 _ _ (V_keep [1, 3, 5, 7] (by simp only [proj, lk, reduceIte, Nat.reduceEqDiff]; rfl) ?_)); clear hK3
  refine V_block ?_
  refine V_loop (fun m l h' => ∃ (i : Nat) (hk : Heap), (i ≤ 40) ∧ (Ext (fun _ => False) h2 hk) ∧ m = 40 - i ∧ l = [(1, .slice ca (List.length cs) cc), (3, .pointer (some ⟨h.size, 0, none⟩)), (5, .pointer (some ⟨h1.size, 0, none⟩)), (7, .int .i64 (i : Int))] ∧ hk = h') _ ⟨0, h2, by omega, Ext.refl _ _, rfl, rfl, rfl⟩ ?_
  rintro m l h' ⟨i, hk, hi, hEk, rfl, rfl, rfl⟩ K4 hK4
  try clear a0 a1 a2 a3 a4 a5 a6
  try clear b0 b1 b2 b3 b4
  obtain ⟨b0, b1, b2, b3, b4⟩ := bq4 ((hbh1.ext hEh2 (fun f => f)).ext hEk (fun f => f))
  obtain ⟨a0, a1, a2, a3, a4, a5, a6⟩ := aq7 (hah2.ext hEk (fun f => f))
  have hsk := hEk.1
  have wxk := wx2.ext hEk (fun f => f) (fun f => f)
  have hlvk := hlv2.ext hEk (fun _ _ _ f => f)
  refine V_seq (fun K5 hK5 => ?_)
  refine V_sr T.mix (by kernel_rfl) (fun K6 hK6 => ?_)
  refine S_mv rfl ?_
  refine S_bin rfl rfl rfl ?_
  refine S_nil (hK6 _ _ (V_keep [1, 3, 5, 7, 15] (by simp only [proj, lk, reduceIte, Nat.reduceEqDiff]; rfl) ?_)); clear hK6
  refine V_condp rfl (fun c186 => ?_) (fun c186 => ?_)
  · skip
    refine V_skipk [1, 3, 5, 7] (by simp only [proj, lk, reduceIte, Nat.reduceEqDiff]; rfl) ?_
    refine hK5 _ _ ?_; clear hK5
    refine V_seq (fun K7 hK7 => ?_)
    refine V_block ?_
    refine V_sr T.mix (by kernel_rfl) (fun K8 hK8 => ?_)
    first | refine S_fa0 T.f34_2 rfl ?_ | refine S_fa T.f34_2 rfl ?_
    refine S_ldK T.ag31 rfl (fun K' hK' => ?_)
    simp (disch := omega) only [b0, b1, b2, b3, a0, a1, a2, a3, hcell, hat, oP_some, Nat.add_zero]
    refine hK' _ ?_; clear hK' K'
    refine S_mv rfl ?_
    refine S_call T.hb15 rfl ?_
    refine FC.mono (wclause_spec hk C X W cl s p wxk (i : Int)) ?_
    rintro v' h5 ⟨a9_, rfl, hI5, hn5, hb5, hE5⟩
    try clear a0 a1 a2 a3 a4 a5 a6
    try clear b0 b1 b2 b3 b4
    obtain ⟨b0, b1, b2, b3, b4⟩ := bq4 (((hbh1.ext hEh2 (fun f => f)).ext hEk (fun f => f)).ext hE5 (fun f => f))
    obtain ⟨a0, a1, a2, a3, a4, a5, a6⟩ := aq7 ((hah2.ext hEk (fun f => f)).ext hE5 (fun f => f))
    have hlv5 := hlvk.ext hE5 (fun _ _ _ f => f)
    have hlc : liveC cl (i : Int) = cl i := by unfold liveC; rw [if_pos (by omega), Int.toNat_natCast]
    have hpi := hpb i (by omega)
    refine S_mv rfl ?_
    refine S_ex rfl rfl ?_
    refine S_ex rfl rfl ?_
    refine S_as rfl ?_
    refine S_as rfl ?_
    refine S_nil (hK8 _ _ (V_keep [1, 3, 5, 7, 8, 9] (by simp only [proj, lk, reduceIte, Nat.reduceEqDiff]; rfl) ?_)); clear hK8
    refine V_sr T.mix (by kernel_rfl) (fun K9 hK9 => ?_)
    refine S_mv rfl ?_
    refine S_mv rfl ?_
    refine S_lenl T.el38 rfl ?_
    refine S_bin rfl rfl rfl ?_
    refine S_nil (hK9 _ _ (V_keep [1, 3, 5, 7, 8, 9, 28] (by simp only [proj, lk, reduceIte, Nat.reduceEqDiff]; rfl) ?_)); clear hK9
    refine V_condp rfl (fun c188 => ?_) (fun c188 => ?_)
    · skip
      have hil : i < List.length cs := by omega
      have hce : cl i = some (cs.getD i []) := by rw [hpi, List.getElem?_eq_getElem hil]; simp [hil]
      have hcf : clF cl (i : Int) = cs.getD i [] := by unfold clF; rw [hlc, hce]; rfl
      have hce0 : clE cl (i : Int) = 0 := by unfold clE; rw [hlc, hce]
      obtain ⟨bb, rfl, hbb1, hbb2, hgt⟩ := hlv5.get (by omega)
      obtain ⟨ai, ci, hcell, hIc, hbi⟩ := hgt i (by omega)
      refine V_seq (fun K10 hK10 => ?_)
      refine V_sr T.mix (by kernel_rfl) (fun K11 hK11 => ?_)
      refine S_mv rfl ?_
      refine S_bin rfl rfl rfl ?_
      refine S_nil (hK11 _ _ (V_keep [1, 3, 5, 7, 8, 30] (by simp only [proj, lk, reduceIte, Nat.reduceEqDiff]; rfl) ?_)); clear hK11
      refine V_condp rfl (fun c189 => ?_) (fun c189 => ?_)
      · skip
        exfalso; omega
      · skip
        refine V_skipk [1, 3, 5, 7, 8] (by simp only [proj, lk, reduceIte, Nat.reduceEqDiff]; rfl) ?_
        refine hK10 _ _ ?_; clear hK10
        refine V_sr T.mix (by kernel_rfl) (fun K12 hK12 => ?_)
        refine S_mv rfl ?_
        refine S_mv rfl ?_
        refine S_mv rfl ?_
        first | refine S_ixn T.el38 rfl rfl (by omega) ?_ | refine S_ix1 T.el38 rfl rfl (by omega) (by omega) ?_ | refine S_ix T.el38 rfl rfl (by omega) (by omega) ?_
        refine S_ldK T.ag49 rfl (fun K' hK' => ?_)
        simp (disch := omega) only [b0, b1, b2, b3, a0, a1, a2, a3, hcell, hat, oP_some, Nat.add_zero]
        refine hK' _ ?_; clear hK' K'
        refine S_call T.hb36 rfl ?_
        refine FC.mono (sameints_spec h5 a9_ ai _ ci (clF cl (i : Int)) (cs.getD i []) hI5 hIc (by have h9 := clF_len hcl i (by omega); omega) (by rw [← hcf]; have h9 := clF_len hcl i (by omega); omega)) ?_
        rintro v' h' ⟨rfl, rfl⟩
        rw [decide_eq_true hcf]
        refine S_as rfl ?_
        refine S_nil (hK12 _ _ (V_keep [1, 3, 5, 7, 10] (by simp only [proj, lk, reduceIte, Nat.reduceEqDiff]; rfl) ?_)); clear hK12
        refine V_sr T.mix (by kernel_rfl) (fun K13 hK13 => ?_)
        refine S_mv rfl ?_
        refine S_notb rfl ?_
        refine S_nil (hK13 _ _ (V_keep [1, 3, 5, 7, 38] (by simp only [proj, lk, reduceIte, Nat.reduceEqDiff]; rfl) ?_)); clear hK13
        refine V_condb rfl (fun c193 => ?_) (fun c193 => ?_)
        · skip
          exfalso; simp at c193
        · skip
          refine V_skipk [1, 3, 5, 7] (by simp only [proj, lk, reduceIte, Nat.reduceEqDiff]; rfl) ?_
          refine hK7 _ _ ?_; clear hK7
          refine V_reg T.mix (by kernel_rfl) ?_
          refine S_mv rfl ?_
          first | refine S_add rfl rfl (by omega) (by omega) ?_ | refine S_bin rfl rfl rfl ?_
          refine S_as rfl ?_
          refine S_nilk [1, 3, 5, 7] (by simp only [proj, lk, reduceIte, Nat.reduceEqDiff]; rfl) ?_
          exact hK4 _ _ ⟨_, by omega, i + 1, h5, by omega, hEk.trans hE5, rfl, rfl, rfl⟩
    · skip
      have hcn : cl i = none := by rw [hpi]; simp; omega
      have hce0 : clE cl (i : Int) = 13 := by unfold clE; rw [hlc, hcn]
      refine V_sr T.mix (by kernel_rfl) (fun K14 hK14 => ?_)
      refine S_mv rfl ?_
      refine S_bin rfl rfl rfl ?_
      refine S_nil (hK14 _ _ (V_keep [1, 3, 5, 7, 40] (by simp only [proj, lk, reduceIte, Nat.reduceEqDiff]; rfl) ?_)); clear hK14
      refine V_condp rfl (fun c196 => ?_) (fun c196 => ?_)
      · skip
        exfalso; omega
      · skip
        refine V_skipk [1, 3, 5, 7] (by simp only [proj, lk, reduceIte, Nat.reduceEqDiff]; rfl) ?_
        refine hK7 _ _ ?_; clear hK7
        refine V_reg T.mix (by kernel_rfl) ?_
        refine S_mv rfl ?_
        first | refine S_add rfl rfl (by omega) (by omega) ?_ | refine S_bin rfl rfl rfl ?_
        refine S_as rfl ?_
        refine S_nilk [1, 3, 5, 7] (by simp only [proj, lk, reduceIte, Nat.reduceEqDiff]; rfl) ?_
        exact hK4 _ _ ⟨_, by omega, i + 1, h5, by omega, hEk.trans hE5, rfl, rfl, rfl⟩
  · skip
    refine V_exitk [1, 3, 5] rfl (by simp only [proj, lk, reduceIte, Nat.reduceEqDiff]; rfl) ?_
    refine hK2 _ _ ?_; clear hK2
    refine V_sr T.mix (by kernel_rfl) (fun K15 hK15 => ?_)
    first | refine S_fa0 T.f34_2 rfl ?_ | refine S_fa T.f34_2 rfl ?_
    refine S_ldK T.ag31 rfl (fun K' hK' => ?_)
    simp (disch := omega) only [b0, b1, b2, b3, a0, a1, a2, a3, hcell, hat, oP_some, Nat.add_zero]
    refine hK' _ ?_; clear hK' K'
    refine S_call T.hb74 rfl ?_
    refine FC.mono (wids_spec hk C X W cl s p wxk) ?_
    rintro v' h6 ⟨a6_, rfl, hI6, _, _, hE6⟩
    have hE26 := hEk.trans hE6
    have wx6 := wx2.ext hE26 (fun f => f) (fun f => f)
    have hid := ids_le hpb
    try clear a0 a1 a2 a3 a4 a5 a6
    try clear b0 b1 b2 b3 b4
    obtain ⟨b0, b1, b2, b3, b4⟩ := bq4 ((hbh1.ext hEh2 (fun f => f)).ext hE26 (fun f => f))
    obtain ⟨a0, a1, a2, a3, a4, a5, a6⟩ := aq7 (hah2.ext hE26 (fun f => f))
    refine S_as rfl ?_
    refine S_nil (hK15 _ _ (V_keep [1, 3, 5, 11] (by simp only [proj, lk, reduceIte, Nat.reduceEqDiff]; rfl) ?_)); clear hK15
    refine V_seq (fun K16 hK16 => ?_)
    refine V_sr T.mix (by kernel_rfl) (fun K17 hK17 => ?_)
    refine S_mv rfl ?_
    refine S_lenl T.el49 rfl ?_
    refine S_mv rfl ?_
    refine S_lenl T.el38 rfl ?_
    first | refine S_add rfl rfl (by omega) (by omega) ?_ | refine S_bin rfl rfl rfl ?_
    refine S_bin rfl rfl rfl ?_
    refine S_nil (hK17 _ _ (V_keep [3, 5, 49] (by simp only [proj, lk, reduceIte, Nat.reduceEqDiff]; rfl) ?_)); clear hK17
    refine V_condp rfl (fun c201 => ?_) (fun c201 => ?_)
    · skip
      exfalso; omega
    · skip
      refine V_skipk [3, 5] (by simp only [proj, lk, reduceIte, Nat.reduceEqDiff]; rfl) ?_
      refine hK16 _ _ ?_; clear hK16
      refine V_seq (fun K18 hK18 => ?_)
      refine V_sr T.mix (by kernel_rfl) (fun K19 hK19 => ?_)
      refine S_as rfl ?_
      refine S_nil (hK19 _ _ (V_keep [3, 5, 12] (by simp only [proj, lk, reduceIte, Nat.reduceEqDiff]; rfl) ?_)); clear hK19
      refine V_block ?_
      refine V_loop (fun m l h' => ∃ (i : Nat), (sb = true → i ≤ 12) ∧ m = 13 - i ∧ l = [(3, .pointer (some ⟨h.size, 0, none⟩)), (5, .pointer (some ⟨h1.size, 0, none⟩)), (12, .int .i64 (i : Int))] ∧ h6 = h') _ ⟨0, fun _ => by omega, rfl, rfl, rfl⟩ ?_
      rintro m l h' ⟨i, hi, rfl, rfl, rfl⟩ K20 hK20
      refine V_seq (fun K21 hK21 => ?_)
      refine V_sr T.mix (by kernel_rfl) (fun K22 hK22 => ?_)
      first | refine S_fa0 T.f82_2 rfl ?_ | refine S_fa T.f82_2 rfl ?_
      refine S_ldK T.ag4 rfl (fun K' hK' => ?_)
      simp (disch := omega) only [b0, b1, b2, b3, a0, a1, a2, a3, hcell, hat, oP_some, Nat.add_zero]
      refine hK' _ ?_; clear hK' K'
      refine S_mv rfl ?_
      refine S_decb (fun g204 => ?_) (fun g204 => ?_)
      · skip
        refine S_gt rfl ?_
        refine S_mv rfl ?_
        refine S_gt rfl ?_
        first | refine S_fa0 T.f82_3 rfl ?_ | refine S_fa T.f82_3 rfl ?_
        refine S_gt rfl ?_
        refine S_ldK T.ag49 rfl (fun K' hK' => ?_)
        simp (disch := omega) only [b0, b1, b2, b3, a0, a1, a2, a3, hcell, hat, oP_some, Nat.add_zero]
        refine hK' _ ?_; clear hK' K'
        refine S_gt rfl ?_
        refine S_lenl T.el49 rfl ?_
        refine S_gt rfl ?_
        refine S_bin rfl rfl rfl ?_
        refine S_pt rfl rfl ?_
        refine S_nil (hK22 _ _ (V_keep [3, 5, 12, 58] (by simp only [proj, lk, reduceIte, Nat.reduceEqDiff]; rfl) ?_)); clear hK22
        refine V_condp rfl (fun c204 => ?_) (fun c204 => ?_)
        · skip
          obtain ⟨hmI, rfl, hfl⟩ := hsb (by first | exact g204 | simpa using g204 | (simp_all; done))
          have hi12 : i < 12 := by omega
          obtain ⟨bm, rfl, _, hg, _⟩ := (hmI.ext (hE12.trans hE26) (fun _ _ f => f)).get (by rw [hml]; omega)
          have hat : cellH h6 ⟨bm, i, none⟩ = some (.int .i64 (mdA s i)) := by rw [hg i (by rw [hml]; exact hi12), md_at s hi12]
          refine V_skipk [3, 5, 12] (by simp only [proj, lk, reduceIte, Nat.reduceEqDiff]; rfl) ?_
          refine hK21 _ _ ?_; clear hK21
          refine V_seq (fun K23 hK23 => ?_)
          refine V_block ?_
          refine V_sr T.mix (by kernel_rfl) (fun K24 hK24 => ?_)
          first | refine S_fa0 T.f34_1 rfl ?_ | refine S_fa T.f34_1 rfl ?_
          refine S_ldK T.ag30 rfl (fun K' hK' => ?_)
          simp (disch := omega) only [b0, b1, b2, b3, a0, a1, a2, a3, hcell, hat, oP_some, Nat.add_zero]
          refine hK' _ ?_; clear hK' K'
          first | refine S_fa0 T.f82_3 rfl ?_ | refine S_fa T.f82_3 rfl ?_
          refine S_ldK T.ag49 rfl (fun K' hK' => ?_)
          simp (disch := omega) only [b0, b1, b2, b3, a0, a1, a2, a3, hcell, hat, oP_some, Nat.add_zero]
          refine hK' _ ?_; clear hK' K'
          refine S_mv rfl ?_
          first | refine S_ixn T.el49 rfl rfl (by omega) ?_ | refine S_ix1 T.el49 rfl rfl (by omega) (by omega) ?_ | refine S_ix T.el49 rfl rfl (by omega) (by omega) ?_
          refine S_ldK T.ag3 rfl (fun K' hK' => ?_)
          simp (disch := omega) only [b0, b1, b2, b3, a0, a1, a2, a3, hcell, hat, oP_some, Nat.add_zero]
          refine hK' _ ?_; clear hK' K'
          refine S_call T.hb75 rfl ?_
          refine FC.mono (value_spec h6 X s p wx6.t (mdA s i)) ?_
          rintro v' h' ⟨rfl, rfl⟩
          rw [md_val hok hfl hi12]
          refine S_as rfl ?_
          refine S_nil (hK24 _ _ (V_keep [3, 5, 12, 13] (by simp only [proj, lk, reduceIte, Nat.reduceEqDiff]; rfl) ?_)); clear hK24
          refine V_sr T.mix (by kernel_rfl) (fun K25 hK25 => ?_)
          refine S_mv rfl ?_
          refine S_bin rfl rfl rfl ?_
          refine S_nil (hK25 _ _ (V_keep [3, 5, 12, 70] (by simp only [proj, lk, reduceIte, Nat.reduceEqDiff]; rfl) ?_)); clear hK25
          refine V_condp rfl (fun c206 => ?_) (fun c206 => ?_)
          · skip
            exfalso; exact c206 rfl
          · skip
            refine V_skipk [3, 5, 12] (by simp only [proj, lk, reduceIte, Nat.reduceEqDiff]; rfl) ?_
            refine hK23 _ _ ?_; clear hK23
            refine V_reg T.mix (by kernel_rfl) ?_
            refine S_mv rfl ?_
            first | refine S_add rfl rfl (by omega) (by omega) ?_ | refine S_bin rfl rfl rfl ?_
            refine S_as rfl ?_
            refine S_nilk [3, 5, 12] (by simp only [proj, lk, reduceIte, Nat.reduceEqDiff]; rfl) ?_
            exact hK20 _ _ ⟨_, by omega, i + 1, fun _ => by omega, rfl, rfl, rfl⟩
        · skip
          refine V_exitk [] rfl (by simp only [proj, lk, reduceIte, Nat.reduceEqDiff]; rfl) ?_
          refine hK18 _ _ ?_; clear hK18
          refine V_sr T.mix (by kernel_rfl) (fun K26 hK26 => ?_)
          refine S_as rfl ?_
          refine S_nil (hK26 _ _ (V_keep [6] (by simp only [proj, lk, reduceIte, Nat.reduceEqDiff]; rfl) ?_)); clear hK26
          refine V_ret ?_
          refine hR _ _ (ret1 rfl rfl ?_)
          exact ⟨rfl, hE12.trans hE26⟩
      · skip
        refine S_gf rfl ?_
        refine S_gf rfl ?_
        refine S_gf rfl ?_
        refine S_gf rfl ?_
        refine S_gf rfl ?_
        refine S_pf rfl rfl ?_
        refine S_nil (hK22 _ _ (V_keep [3, 5, 12, 58] (by simp only [proj, lk, reduceIte, Nat.reduceEqDiff]; rfl) ?_)); clear hK22
        refine V_condf rfl ?_
        refine V_exitk [] rfl (by simp only [proj, lk, reduceIte, Nat.reduceEqDiff]; rfl) ?_
        refine hK18 _ _ ?_; clear hK18
        refine V_sr T.mix (by kernel_rfl) (fun K27 hK27 => ?_)
        refine S_as rfl ?_
        refine S_nil (hK27 _ _ (V_keep [6] (by simp only [proj, lk, reduceIte, Nat.reduceEqDiff]; rfl) ?_)); clear hK27
        refine V_ret ?_
        refine hR _ _ (ret1 rfl rfl ?_)
        exact ⟨rfl, hE12.trans hE26⟩
end Go.Proofs.Qxb6500401aGreat
