import Derived.Test.Qxb6500404aGreatPc
set_option linter.unusedVariables false
set_option linter.unusedSimpArgs false
namespace Go.Proofs.Qxb6500404aGreat
open Go.Eng Go.Bits Go.Blk HufW

theorem stp_one (u : ByteArray) (s : TS) (i : Nat) : wr s ((u.size, 16) :: stp u 0 (i + 1)) = putS (wr s ((u.size, 16) :: stp u 0 i)) (bAt u i : Int) 8 := by
  rw [stp_snoc, Nat.zero_add]; exact wr_snoc s ((u.size, 16) :: stp u 0 i) (bAt u i, 8)
theorem ips_snoc (I : List (Nat × Nat × Nat)) (q : Nat × Nat × Nat) (s : TS) : wr s (ips (I ++ [q])) = putS (putS (wr s (ips I)) (q.1 : Int) 4) (q.2.1 : Int) (q.2.2 : Int) := by
  rw [ips_app, wr_app]; rfl
theorem IL.cold {h h' : Heap} {a : Option Addr} {cap : Nat} {xs : List Int} {M : Nat} {ta ta' oa oa' : Option Addr} (o : IL h a cap xs) (x : DX M h h' ta ta' oa oa') (hc : ∀ b, blkA a = some b → ¬ Hot M ta oa b) : IL h' a cap xs ∧ ∀ b, blkA a = some b → ¬ Hot M ta' oa' b :=
  ⟨o.ext x.e hc, fun b e => x.cold (o.lt e) (hc b e)⟩
theorem mt_one {h : Heap} {M : Nat} {ta : Option Addr} {tc : Nat} {s : TS} (m : BitW.MT h M ta tc s) : DW h M ta tc s none 0 [] := ⟨m, OB.nil _, by simp [blkA], fun b e => (by cases e), by simp⟩

theorem il_li {L : List Nat} (h : L.length = 273) : Huf.il 273 (fun j => L.getD j 0) = li L := Huf.list_ext (by rw [Huf.il_len, li_len, h]) fun j hj => by
  rw [Huf.il_len] at hj; rw [Huf.il_at hj, li_at]
theorem OLli {h : Heap} {b : Nat} {L : List Nat} (hL : L.length = 273) (hb : B h b (ia 273 fun j => L.getD j 0) 3) (cap : Nat) : OL h (some ⟨b, 0, none⟩) cap (li L) := by
  have := OLc hb 0 273 cap (by omega)
  simp only [Nat.zero_add] at this
  rw [il_li hL] at this; exact this
theorem lAB (L : List Nat) : lA L ++ lB L = li L := by unfold lA lB; rw [← li_app, List.take_append_drop]
theorem kd_bi (u : ByteArray) (T : List Lz.Tok) : chs (biF 0 u.size (cnT T) fixL) (biF 1 u.size (cnT T) fixL) (biF 2 u.size (cnT T) (dyL (cnT T))) = kdF u T := by
  have h0 : biF 0 u.size (cnT T) fixL = cS u := by unfold biF cS; rw [if_pos rfl]; omega
  have h1 : biF 1 u.size (cnT T) fixL = cF T := by unfold biF cF; rw [if_neg (by omega), if_neg (by omega), Nat.add_zero]
  have h2 : biF 2 u.size (cnT T) (dyL (cnT T)) = cD T := by unfold biF cD; rw [if_neg (by omega), if_pos rfl]
  rw [h0, h1, h2]; rfl
theorem fix10 : ∀ i, i < 273 → fixL.getD i 0 ≤ 10 := fun i hi => by have := fix_le9 hi; omega
theorem le_cn {l : List Nat} {T : List Lz.Tok} (hT : ∀ t, t ∈ T → Tk t) (h : ∀ i, i < 273 → 0 < cnT T i → 0 < l.getD i 0) : Us (Huf.cf (lA l)) (Huf.cf (lB l)) T := us_of hT h
set_option maxHeartbeats 6400000 in
theorem emit_spec (h : Heap) (kd : Nat) (hkd : kd ≤ 2) (u : ByteArray) (hu : u.size ≤ 256) (nb : Nat) (Q : List Lz.Tok) (hT : LzW.TokB h nb Q) (tk : ∀ t, t ∈ Q → Tk t) (hTl : Q.length ≤ 256) (L : List Nat) (hL : L.length = 273) (la : Option Addr) (lc : Nat) (ol : OL h la lc (li L)) (hlc : 273 ≤ lc) (hx : ∀ x, x ∈ L → x ≤ 10) (hco : coE L = 0) (us : Us (Huf.cf (lA L)) (Huf.cf (lB L)) Q) :
    FC Tryz.prog 75 (#[.int .i64 (kd : Int), .string u, .slice (some ⟨nb, 0, none⟩) Q.length Q.length, .slice la 273 lc] : Array Value) h fun rv h' => rv = .string (txt (wr ⟨0, 0, 0⟩ (emP kd u Q L)).N (wr ⟨0, 0, 0⟩ (emP kd u Q L)).n) ∧ Ext (fun _ => False) h h' := by
  obtain ⟨lb, lo, rfl, hlbl, hlat⟩ := ol.get (by rw [li_len]; omega)
  have hla : ∀ j, j < 273 → cellH h ⟨lb, lo + j, none⟩ = some (.int .i64 ((L.getD j 0 : Nat) : Int)) := fun j hj => by rw [hlat j (by rw [li_len]; omega), li_at]
  have ait : (0 : Nat) = 0 := rfl
  have t0 := ait
  have t1 := ait
  have t2 := ait
  obtain ⟨e1, e2, e3⟩ := coE_0 hco
  have hnl := B.lt hT
  obtain ⟨wA, wB, wE⟩ := co_lw hL hco
  refine FC_of [(0, .int .i64 (kd : Int)), (1, .string u), (2, .slice (some ⟨nb, 0, none⟩) Q.length Q.length), (3, .slice (some ⟨lb, lo, none⟩) 273 lc)] Tryz.func75 rfl Tryz.ntmps75 (by simp) rfl (fun R hR => ?_)
  refine V_sr T.mix (by kernel_rfl) (fun K1 hK1 => ?_)
  refine S_as rfl ?_
  refine S_nil (hK1 _ _ (V_keep [0, 1, 2, 3] (by simp only [proj, lk, reduceIte, Nat.reduceEqDiff]; rfl) ?_)); clear hK1
  refine V_sr T.mix (by kernel_rfl) (fun K2 hK2 => ?_)
  refine S_call T.hb83 rfl ?_
  refine FC.mono (BitW.mnew_spec h) ?_
  rintro v' g1 ⟨rfl, mt0, hE1⟩
  obtain ⟨M, hM⟩ : ∃ M, M = h.size := ⟨_, rfl⟩
  rw [← hM] at mt0 ⊢
  have dw0 := mt_one mt0
  have hge0 : ∀ b, Hot M none none b → h.size ≤ b := fun b e => by rcases e with e | e | e; (omega); (cases e); (cases e)
  have hz1 := hE1.1
  refine S_as rfl ?_
  refine S_nil (hK2 _ _ (V_keep [0, 1, 2, 3, 9] (by simp only [proj, lk, reduceIte, Nat.reduceEqDiff]; rfl) ?_)); clear hK2
  refine V_sr T.mix (by kernel_rfl) (fun K3 hK3 => ?_)
  refine S_mv rfl ?_
  refine S_call T.hb109 rfl ?_
  refine FC.mono (BitW.mput_spec g1 M _ _ ⟨0, 0, 0⟩ dw0.mt (1) (1)) ?_
  rintro v' g2 ⟨rfl, ta1, tc1, mt1, mx1⟩
  obtain ⟨s1, hs1, mt1⟩ := mt_var mt1
  obtain ⟨dw1, dx1⟩ := dw0.mex mt1 mx1
  obtain ⟨hE1, hg1⟩ := dx_new dx1 hz1 hge0 hE1
  have hz1 := hE1.1
  refine S_nil (hK3 _ _ (V_keep [0, 1, 2, 3, 9] (by simp only [proj, lk, reduceIte, Nat.reduceEqDiff]; rfl) ?_)); clear hK3
  refine V_sr T.mix (by kernel_rfl) (fun K4 hK4 => ?_)
  refine S_mv rfl ?_
  refine S_mv rfl ?_
  refine S_call T.hb109 rfl ?_
  refine FC.mono (BitW.mput_spec g2 M _ _ s1 dw1.mt ((kd : Int)) (2)) ?_
  rintro v' g3 ⟨rfl, ta2, tc2, mt2, mx2⟩
  obtain ⟨s2, hs2, mt2⟩ := mt_var mt2
  obtain ⟨dw2, dx2⟩ := dw1.mex mt2 mx2
  obtain ⟨hE2, hg2⟩ := dx_new dx2 hz1 hg1 hE1
  have hz2 := hE2.1
  have hs12 : s2 = putS (putS ⟨0, 0, 0⟩ 1 1) (kd : Int) 2 := by rw [hs2, hs1]
  refine S_nil (hK4 _ _ (V_keep [0, 1, 2, 3, 9] (by simp only [proj, lk, reduceIte, Nat.reduceEqDiff]; rfl) ?_)); clear hK4
  refine V_seq (fun K5 hK5 => ?_)
  refine V_sr T.mix (by kernel_rfl) (fun K6 hK6 => ?_)
  refine S_mv rfl ?_
  refine S_bin rfl rfl rfl ?_
  refine S_nil (hK6 _ _ (V_keep [0, 1, 2, 3, 9, 26] (by simp only [proj, lk, reduceIte, Nat.reduceEqDiff]; rfl) ?_)); clear hK6
  refine V_condp rfl (fun c101 => ?_) (fun c101 => ?_)
  · skip
    refine V_sr T.mix (by kernel_rfl) (fun K7 hK7 => ?_)
    refine S_mv rfl ?_
    refine S_call T.hb110 rfl ?_
    refine FC.mono (BitW.mpad_spec g3 M _ _ s2 dw2.mt) ?_
    rintro v' g4 ⟨rfl, ta3, tc3, mt3, mx3⟩
    obtain ⟨s3, hs3, mt3⟩ := mt_var mt3
    obtain ⟨dw3, dx3⟩ := dw2.mex mt3 mx3
    obtain ⟨hE3, hg3⟩ := dx_new dx3 hz2 hg2 hE2
    have hz3 := hE3.1
    refine S_nil (hK7 _ _ (V_keep [1, 9] (by simp only [proj, lk, reduceIte, Nat.reduceEqDiff]; rfl) ?_)); clear hK7
    refine V_sr T.mix (by kernel_rfl) (fun K8 hK8 => ?_)
    refine S_mv rfl ?_
    refine S_mv rfl ?_
    refine S_lens T.kd9 rfl ?_
    refine S_call T.hb109 rfl ?_
    refine FC.mono (BitW.mput_spec g4 M _ _ s3 dw3.mt ((u.size : Int)) (16)) ?_
    rintro v' g5 ⟨rfl, ta4, tc4, mt4, mx4⟩
    obtain ⟨s4, hs4, mt4⟩ := mt_var mt4
    obtain ⟨dw4, dx4⟩ := dw3.mex mt4 mx4
    obtain ⟨hE4, hg4⟩ := dx_new dx4 hz3 hg3 hE3
    have hz4 := hE4.1
    refine S_nil (hK8 _ _ (V_keep [1, 9] (by simp only [proj, lk, reduceIte, Nat.reduceEqDiff]; rfl) ?_)); clear hK8
    refine V_seq (fun K9 hK9 => ?_)
    refine V_sr T.mix (by kernel_rfl) (fun K10 hK10 => ?_)
    refine S_as rfl ?_
    refine S_nil (hK10 _ _ (V_keep [1, 9, 10] (by simp only [proj, lk, reduceIte, Nat.reduceEqDiff]; rfl) ?_)); clear hK10
    refine V_block ?_
    refine V_loop (fun m l h' => ∃ (i : Nat) (hk : Heap) (tak : Option Addr) (tck : Nat) (sk : TS), (i ≤ u.size) ∧ (sk = wr (padS s2) ((u.size, 16) :: stp u 0 i)) ∧ (DW hk M tak tck sk none 0 []) ∧ (∀ b, Hot M tak none b → h.size ≤ b) ∧ (Ext (fun _ => False) h hk) ∧ m = u.size - i ∧ l = [(1, .string u), (9, .pointer (some ⟨M, 0, none⟩)), (10, .int .i64 (i : Int))] ∧ hk = h') _ ⟨0, g5, ta4, tc4, s4, Nat.zero_le _, by rw [hs4, hs3]; rfl, dw4, hg4, hE4, rfl, rfl, rfl⟩ ?_
    rintro m l h' ⟨i, hk, tak, tck, sk, hi, hsk, dwk, hge, hEk, rfl, rfl, rfl⟩ K11 hK11
    have hzk := hEk.1
    refine V_seq (fun K12 hK12 => ?_)
    refine V_sr T.mix (by kernel_rfl) (fun K13 hK13 => ?_)
    refine S_mv rfl ?_
    refine S_mv rfl ?_
    refine S_lens T.kd9 rfl ?_
    refine S_bin rfl rfl rfl ?_
    refine S_nil (hK13 _ _ (V_keep [1, 9, 10, 36] (by simp only [proj, lk, reduceIte, Nat.reduceEqDiff]; rfl) ?_)); clear hK13
    refine V_condp rfl (fun c104 => ?_) (fun c104 => ?_)
    · skip
      refine V_skipk [1, 9, 10] (by simp only [proj, lk, reduceIte, Nat.reduceEqDiff]; rfl) ?_
      refine hK12 _ _ ?_; clear hK12
      refine V_seq (fun K14 hK14 => ?_)
      refine V_block ?_
      refine V_reg T.mix (by kernel_rfl) ?_
      refine S_mv rfl ?_
      refine S_mv rfl ?_
      refine S_mv rfl ?_
      refine S_siN i T.kd9 rfl rfl rfl (by omega) ?_
      have hbl := Lz.bAt_lt u i
      refine S_cvN (bAt u i) T.us5 T.in3 rfl rfl (BitW.top_i64 (by omega)) ?_
      refine S_call T.hb109 rfl ?_
      refine FC.mono (BitW.mput_spec hk M _ _ sk dwk.mt ((bAt u i : Int)) (8)) ?_
      rintro v' h6 ⟨rfl, ta6, tc6, mt6, mx6⟩
      obtain ⟨s6, hs6, mt6⟩ := mt_var mt6
      obtain ⟨dw6, dx6⟩ := dwk.mex mt6 mx6
      obtain ⟨hE6, hg6⟩ := dx_new dx6 hzk hge hEk
      have hz6 := hE6.1
      refine S_nilk [1, 9, 10] (by simp only [proj, lk, reduceIte, Nat.reduceEqDiff]; rfl) ?_
      refine hK14 _ _ ?_; clear hK14
      refine V_reg T.mix (by kernel_rfl) ?_
      refine S_mv rfl ?_
      first | refine S_add rfl rfl (by omega) (by omega) ?_ | refine S_bin rfl rfl rfl ?_
      refine S_as rfl ?_
      refine S_nilk [1, 9, 10] (by simp only [proj, lk, reduceIte, Nat.reduceEqDiff]; rfl) ?_
      exact hK11 _ _ ⟨_, by omega, i + 1, h6, ta6, tc6, s6, by omega, by rw [stp_one, ← hsk]; exact hs6, dw6, hg6, hE6, rfl, rfl, rfl⟩
    · skip
      refine V_exitk [9] rfl (by simp only [proj, lk, reduceIte, Nat.reduceEqDiff]; rfl) ?_
      refine hK9 _ _ ?_; clear hK9
      refine V_sr T.mix (by kernel_rfl) (fun K15 hK15 => ?_)
      refine S_mv rfl ?_
      refine S_call T.hb111 rfl ?_
      refine FC.mono (BitW.mtext_spec hk M _ _ sk dwk.mt) ?_
      rintro v' h9 ⟨rfl, hE9⟩
      refine S_as rfl ?_
      refine S_nil (hK15 _ _ (V_keep [8] (by simp only [proj, lk, reduceIte, Nat.reduceEqDiff]; rfl) ?_)); clear hK15
      refine V_ret ?_
      refine hR _ _ (ret1 rfl rfl ?_)
      have hk0 : kd = 0 := by omega
      have hi9 : i = u.size := by omega
      rw [hi9] at hsk
      have hem : (wr ⟨0, 0, 0⟩ (emP kd u Q L)) = sk := by rw [hk0, em_sto, hsk, hs12, hk0]
      rw [hem]
      exact ⟨rfl, hEk.trans hE9⟩
  · skip
    refine V_skipk [0, 2, 3, 9] (by simp only [proj, lk, reduceIte, Nat.reduceEqDiff]; rfl) ?_
    refine hK5 _ _ ?_; clear hK5
    refine V_seqJ (fun l h' => ∃ (h4 : Heap) (ta4 : Option Addr) (tc4 : Nat) (s4 : TS), (s4 = if kd = 2 then wr s2 (ips (itG none L)) else s2) ∧ (DW h4 M ta4 tc4 s4 none 0 []) ∧ (∀ b, Hot M ta4 none b → h.size ≤ b) ∧ (Ext (fun _ => False) h h4) ∧ l = [(2, .slice (some ⟨nb, 0, none⟩) Q.length Q.length), (3, .slice (some ⟨lb, lo, none⟩) 273 lc), (9, .pointer (some ⟨M, 0, none⟩))] ∧ h4 = h') ?_ ?_
    · skip
      refine V_sr T.mix (by kernel_rfl) (fun K17 hK17 => ?_)
      refine S_mv rfl ?_
      refine S_bin rfl rfl rfl ?_
      refine S_nil (hK17 _ _ (V_keep [2, 3, 9, 48] (by simp only [proj, lk, reduceIte, Nat.reduceEqDiff]; rfl) ?_)); clear hK17
      refine V_condp rfl (fun c109 => ?_) (fun c109 => ?_)
      · skip
        refine V_sr T.mix (by kernel_rfl) (fun K18 hK18 => ?_)
        refine S_mv rfl ?_
        refine S_call T.hb107 rfl ?_
        refine FC.mono (items_spec g3 L hL _ lc (ol.ext hE2 (fun _ _ f => f))) ?_
        obtain ⟨I, hI⟩ : ∃ I, I = itG none L := ⟨_, rfl⟩
        rw [← hI]
        rintro v' g4 ⟨ia_, ic, rfl, hIl, hfr, hE3⟩
        have hl3 := fl3_len I
        have hl4 := ib_len I
        have hib := (itG_ok _ L none (Nat.le_refl _) hx).2
        rw [← hI] at hib
        have dw3 := dw2.new hE3 (fun _ _ f => f)
        have hIc0 : ∀ b, blkA ia_ = some b → ¬ Hot M ta2 none b := fun b e z => by have h9 := hfr b e; have h8 := dw2.lt z; omega
        refine S_as rfl ?_
        refine S_nil (hK18 _ _ (V_keep [2, 3, 9, 11] (by simp only [proj, lk, reduceIte, Nat.reduceEqDiff]; rfl) ?_)); clear hK18
        refine V_sr T.mix (by kernel_rfl) (fun K19 hK19 => ?_)
        refine S_as rfl ?_
        refine S_nil (hK19 _ _ (V_keep [2, 3, 9, 11, 12] (by simp only [proj, lk, reduceIte, Nat.reduceEqDiff]; rfl) ?_)); clear hK19
        refine V_block ?_
        refine V_loop (fun m l h' => ∃ (j : Nat) (hk : Heap) (tak : Option Addr) (tck : Nat) (sk : TS), (j ≤ I.length) ∧ (sk = wr s2 (ips (I.take j))) ∧ (IL hk ia_ ic (fl3 I)) ∧ (∀ b, blkA ia_ = some b → ¬ Hot M tak none b) ∧ (DW hk M tak tck sk none 0 []) ∧ (∀ b, Hot M tak none b → h.size ≤ b) ∧ (Ext (fun _ => False) h hk) ∧ m = I.length - j ∧ l = [(2, .slice (some ⟨nb, 0, none⟩) Q.length Q.length), (3, .slice (some ⟨lb, lo, none⟩) 273 lc), (9, .pointer (some ⟨M, 0, none⟩)), (11, .slice ia_ (fl3 I).length ic), (12, .int .i64 ((3 * j : Nat) : Int))] ∧ hk = h') _ ⟨0, g4, ta2, tc2, s2, Nat.zero_le _, rfl, hIl, hIc0, dw3, hg2, hE2.trans hE3, rfl, rfl, rfl⟩ ?_
        rintro m l h' ⟨j, hk, tak, tck, sk, hj, hsk, hIk, hIc, dwk, hge, hEk, rfl, rfl, rfl⟩ K20 hK20
        have hzk := hEk.1
        try clear ait
        refine V_seq (fun K21 hK21 => ?_)
        refine V_sr T.mix (by kernel_rfl) (fun K22 hK22 => ?_)
        refine S_mv rfl ?_
        refine S_mv rfl ?_
        refine S_lenl T.el56 rfl ?_
        refine S_bin rfl rfl rfl ?_
        refine S_nil (hK22 _ _ (V_keep [2, 3, 9, 11, 12, 54] (by simp only [proj, lk, reduceIte, Nat.reduceEqDiff]; rfl) ?_)); clear hK22
        refine V_condp rfl (fun c111 => ?_) (fun c111 => ?_)
        · skip
          obtain ⟨ibk, rfl, _, ait, _⟩ := hIk.get (by omega)
          obtain ⟨q, qm, qt, q0, q1, q2⟩ := fl3_at I j (by omega)
          refine V_skipk [2, 3, 9, 11, 12] (by simp only [proj, lk, reduceIte, Nat.reduceEqDiff]; rfl) ?_
          refine hK21 _ _ ?_; clear hK21
          refine V_seq (fun K23 hK23 => ?_)
          refine V_block ?_
          refine V_sr T.mix (by kernel_rfl) (fun K24 hK24 => ?_)
          refine S_mv rfl ?_
          refine S_mv rfl ?_
          refine S_mv rfl ?_
          first | refine S_ixn T.el56 rfl rfl (by omega) ?_ | refine S_ix1 T.el56 rfl rfl (by omega) (by omega) ?_ | refine S_ix T.el56 rfl rfl (by omega) (by omega) ?_
          refine S_ldK T.ag3 rfl (fun K' hK' => ?_)
          simp (disch := omega) only [ait, t0, t1, t2, oP_some, Nat.add_zero]
          refine hK' _ ?_; clear hK' K'
          refine S_call T.hb109 rfl ?_
          rw [q0]
          refine FC.mono (BitW.mput_spec hk M _ _ sk dwk.mt ((q.1 : Int)) (4)) ?_
          rintro v' h6 ⟨rfl, ta6, tc6, mt6, mx6⟩
          obtain ⟨s6, hs6, mt6⟩ := mt_var mt6
          obtain ⟨dw6, dx6⟩ := dwk.mex mt6 mx6
          obtain ⟨hE6, hg6⟩ := dx_new dx6 hzk hge hEk
          have hz6 := hE6.1
          obtain ⟨hI6, hc6⟩ := IL.cold hIk dx6 hIc
          have ait := (hI6.get (by omega))
          obtain ⟨ibk6, e6, _, ait, _⟩ := ait
          cases e6
          refine S_nil (hK24 _ _ (V_keep [2, 3, 9, 11, 12] (by simp only [proj, lk, reduceIte, Nat.reduceEqDiff]; rfl) ?_)); clear hK24
          refine V_reg T.mix (by kernel_rfl) ?_
          refine S_mv rfl ?_
          refine S_mv rfl ?_
          refine S_mv rfl ?_
          refine S_addN (3 * j + 1) rfl rfl (by omega) (by omega) ?_
          first | refine S_ixn T.el56 rfl rfl (by omega) ?_ | refine S_ix1 T.el56 rfl rfl (by omega) (by omega) ?_ | refine S_ix T.el56 rfl rfl (by omega) (by omega) ?_
          refine S_ldK T.ag3 rfl (fun K' hK' => ?_)
          simp (disch := omega) only [ait, t0, t1, t2, oP_some, Nat.add_zero]
          refine hK' _ ?_; clear hK' K'
          refine S_mv rfl ?_
          refine S_mv rfl ?_
          refine S_addN (3 * j + 2) rfl rfl (by omega) (by omega) ?_
          first | refine S_ixn T.el56 rfl rfl (by omega) ?_ | refine S_ix1 T.el56 rfl rfl (by omega) (by omega) ?_ | refine S_ix T.el56 rfl rfl (by omega) (by omega) ?_
          refine S_ldK T.ag3 rfl (fun K' hK' => ?_)
          simp (disch := omega) only [ait, t0, t1, t2, oP_some, Nat.add_zero]
          refine hK' _ ?_; clear hK' K'
          refine S_call T.hb109 rfl ?_
          rw [q1, q2]
          refine FC.mono (BitW.mput_spec h6 M _ _ s6 dw6.mt ((q.2.1 : Int)) ((q.2.2 : Int))) ?_
          rintro v' h7 ⟨rfl, ta7, tc7, mt7, mx7⟩
          obtain ⟨s7, hs7, mt7⟩ := mt_var mt7
          obtain ⟨dw7, dx7⟩ := dw6.mex mt7 mx7
          obtain ⟨hE7, hg7⟩ := dx_new dx7 hz6 hg6 hE6
          have hz7 := hE7.1
          obtain ⟨hI7, hc7⟩ := IL.cold hI6 dx7 hc6
          refine S_nilk [2, 3, 9, 11, 12] (by simp only [proj, lk, reduceIte, Nat.reduceEqDiff]; rfl) ?_
          refine hK23 _ _ ?_; clear hK23
          refine V_reg T.mix (by kernel_rfl) ?_
          refine S_mv rfl ?_
          refine S_addN (3 * (j + 1)) rfl rfl (by omega) (by omega) ?_
          refine S_as rfl ?_
          refine S_nilk [2, 3, 9, 11, 12] (by simp only [proj, lk, reduceIte, Nat.reduceEqDiff]; rfl) ?_
          exact hK20 _ _ ⟨_, by omega, j + 1, h7, ta7, tc7, s7, by omega, by rw [qt, ips_snoc, ← hsk, ← hs6]; exact hs7, hI7, hc7, dw7, hg7, hE7, rfl, rfl, rfl⟩
        · skip
          refine V_exitk [2, 3, 9] rfl (by simp only [proj, lk, reduceIte, Nat.reduceEqDiff]; rfl) ?_
          have hj9 : j = I.length := by omega
          rw [hj9, List.take_length, hI] at hsk
          exact ⟨hk, tak, tck, sk, by rw [if_pos (by omega)]; exact hsk, dwk, hge, hEk, rfl, rfl⟩
      · skip
        refine V_skipk [2, 3, 9] (by simp only [proj, lk, reduceIte, Nat.reduceEqDiff]; rfl) ?_
        exact ⟨g3, ta2, tc2, s2, by rw [if_neg (by omega)], dw2, hg2, hE2, rfl, rfl⟩
    rintro l h' ⟨h4, ta4, tc4, s4, hs4, dw4, hg4, hE4, rfl, rfl⟩
    have hz4 := hE4.1
    refine V_sr T.mix (by kernel_rfl) (fun K25 hK25 => ?_)
    refine S_call T.hb26 rfl ?_
    refine FC.mono (hmnew_spec h4) ?_
    rintro v' h5 ⟨rfl, kA5, hE5⟩
    have hz5 := kA5.t.lt
    refine S_as rfl ?_
    refine S_nil (hK25 _ _ (V_keep [2, 3, 9, 13] (by simp only [proj, lk, reduceIte, Nat.reduceEqDiff]; rfl) ?_)); clear hK25
    refine V_sr T.mix (by kernel_rfl) (fun K26 hK26 => ?_)
    refine S_call T.hb26 rfl ?_
    refine FC.mono (hmnew_spec h5) ?_
    rintro v' h6 ⟨rfl, kB6, hE6⟩
    have hE46 := hE5.trans hE6
    have kA6 := kA5.new hE6
    have ol6 := (ol.ext (hE4.trans hE46) (fun _ _ f => f))
    have hz6 := kB6.t.lt
    refine S_as rfl ?_
    refine S_nil (hK26 _ _ (V_keep [2, 3, 9, 13, 14] (by simp only [proj, lk, reduceIte, Nat.reduceEqDiff]; rfl) ?_)); clear hK26
    refine V_sr T.mix (by kernel_rfl) (fun K27 hK27 => ?_)
    refine S_mv rfl ?_
    refine S_mv rfl ?_
    refine S_sl rfl rfl rfl (sliceV_hi T.el56 (by omega) (by omega)) ?_
    rw [show Int.toNat 265 = 265 from rfl]
    refine S_call T.hb112 rfl ?_
    have hbc := mbuild_spec h6 h4.size none none (fun _ => 0) 0 kA6 (some ⟨lb, lo, none⟩) lc (lA L) (OL.A ol6 hL lc) (fun z e => by cases e; show lb ≠ _; omega)
    rw [lA_len hL] at hbc
    refine FC.mono hbc ?_
    rintro v' h7 ⟨rfl, _, hyes7, hE7⟩
    obtain ⟨la1, cb1, kA7, hA1, hA2⟩ := hyes7 e1
    have hz7 := hE7.1
    have kB7 := kB6.ext hE7 (show ¬ (h5.size = h4.size) by omega) (fun _ e => by cases e) (fun _ e => by cases e)
    have ol7 := ol6.ext hE7 (fun z e => by cases e; show ¬ (lb = _); omega)
    refine S_nil (hK27 _ _ (V_keep [2, 3, 9, 13, 14] (by simp only [proj, lk, reduceIte, Nat.reduceEqDiff]; rfl) ?_)); clear hK27
    refine V_sr T.mix (by kernel_rfl) (fun K28 hK28 => ?_)
    refine S_mv rfl ?_
    refine S_mv rfl ?_
    refine S_sl rfl rfl rfl (sliceV_lo (p := 265) T.el56 (by omega) (by omega) (by omega)) ?_
    simp only [Nat.reduceMul, Nat.reduceSub]
    refine S_call T.hb112 rfl ?_
    have hbc := mbuild_spec h7 h5.size none none (fun _ => 0) 0 kB7 (some ⟨lb, lo + 265, none⟩) (lc - 265) (lB L) (OL.B ol7 hL _) (fun z e => by cases e; show lb ≠ _; omega)
    rw [lB_len hL] at hbc
    refine FC.mono hbc ?_
    rintro v' h8 ⟨rfl, _, hyes8, hE8⟩
    obtain ⟨lb1, kb1, kB8, hB1, hB2⟩ := hyes8 e2
    have kA8 := kA7.ext hE8 (show ¬ (h4.size = h5.size) by omega) (fun b e z => by have h9 := hA1 b e; omega) (fun b e z => by have h9 := hA2 b e; omega)
    have hx8 : Ext (fun b => h4.size ≤ b) h4 h8 := ((hE46.mono fun _ f => f.elim).trans (hE7.mono fun b e => by omega)).trans (hE8.mono fun b e => by omega)
    have dw8 := dw4.new hx8 (fun b e z => by have h9 := dw4.lt e; omega)
    have hE08 : Ext (fun _ => False) h h8 := hE4.step hx8 (fun b hb e => by have h9 := hE4.1; omega)
    have kk8 : KK2 h8 h.size h4.size h5.size M ta4 none (Huf.cf (lA L)) (Huf.cf (lB L)) := by
      have hz4 := hE4.1
      refine ⟨la1, cb1, lb1, kb1, kA8, kB8, fun b e => ?_, fun b e => ?_⟩
      · have hq : h4.size ≤ b := by rcases e with e | e | e; (omega); (have h9 := hA1 b e; omega); (have h9 := hA2 b e; omega)
        exact ⟨fun z => by have h9 := dw4.lt z; omega, by omega⟩
      · have hq : h4.size ≤ b := by rcases e with e | e | e; (omega); (have h9 := hB1 b e; omega); (have h9 := hB2 b e; omega)
        exact ⟨fun z => by have h9 := dw4.lt z; omega, by omega⟩
    refine S_nil (hK28 _ _ (V_keep [2, 9, 13, 14] (by simp only [proj, lk, reduceIte, Nat.reduceEqDiff]; rfl) ?_)); clear hK28
    refine V_seq (fun K29 hK29 => ?_)
    refine V_sr T.mix (by kernel_rfl) (fun K30 hK30 => ?_)
    refine S_as rfl ?_
    refine S_nil (hK30 _ _ (V_keep [2, 9, 13, 14, 15] (by simp only [proj, lk, reduceIte, Nat.reduceEqDiff]; rfl) ?_)); clear hK30
    refine V_block ?_
    refine V_loop (fun m l h' => ∃ (k : Nat) (hk : Heap) (tak : Option Addr) (tck : Nat) (sk : TS), (k ≤ Q.length) ∧ (sk = wr s4 (tps (Huf.cf (lA L)) (Huf.cf (lB L)) (Q.take k))) ∧ (KK2 hk h.size h4.size h5.size M tak none (Huf.cf (lA L)) (Huf.cf (lB L))) ∧ (DW hk M tak tck sk none 0 []) ∧ (∀ b, Hot M tak none b → h.size ≤ b) ∧ (Ext (fun _ => False) h hk) ∧ m = Q.length - k ∧ l = [(2, .slice (some ⟨nb, 0, none⟩) Q.length Q.length), (9, .pointer (some ⟨M, 0, none⟩)), (13, .pointer (some ⟨h4.size, 0, none⟩)), (14, .pointer (some ⟨h5.size, 0, none⟩)), (15, .int .i64 (k : Int))] ∧ hk = h') _ ⟨0, h8, ta4, tc4, s4, Nat.zero_le _, rfl, kk8, dw8, hg4, hE08, rfl, rfl, rfl⟩ ?_
    rintro m l h' ⟨k, hk, tak, tck, sk, hk_, hsk, kkk, dwk, hge, hEk, rfl, rfl, rfl⟩ K31 hK31
    have hzk := hEk.1
    refine V_seq (fun K32 hK32 => ?_)
    refine V_sr T.mix (by kernel_rfl) (fun K33 hK33 => ?_)
    refine S_mv rfl ?_
    refine S_mv rfl ?_
    refine S_lenl T.el71 rfl ?_
    refine S_bin rfl rfl rfl ?_
    refine S_nil (hK33 _ _ (V_keep [2, 9, 13, 14, 15, 88] (by simp only [proj, lk, reduceIte, Nat.reduceEqDiff]; rfl) ?_)); clear hK33
    refine V_condp rfl (fun c120 => ?_) (fun c120 => ?_)
    · skip
      clear t0 t1 t2
      have hTk : LzW.TokB hk nb Q := B.ext hT hEk (fun f => f)
      obtain ⟨t, tm, tks, t0, t1, t2⟩ := tok_at hTk (k := k) (by omega)
      have htk := tk t tm
      have htu := us t tm
      refine V_skipk [2, 9, 13, 14, 15] (by simp only [proj, lk, reduceIte, Nat.reduceEqDiff]; rfl) ?_
      refine hK32 _ _ ?_; clear hK32
      refine V_seq (fun K34 hK34 => ?_)
      refine V_block ?_
      refine V_sr T.mix (by kernel_rfl) (fun K35 hK35 => ?_)
      refine S_mv rfl ?_
      refine S_mv rfl ?_
      first | refine S_ixmn T.el71 rfl rfl (by omega) ?_ | refine S_ixm T.el71 rfl rfl (by omega) (by omega) ?_ | refine S_ix T.el71 rfl rfl (by omega) (by omega) ?_
      first | refine S_fa0 T.f174_0 rfl ?_ | refine S_fa T.f174_0 rfl ?_
      refine S_ldK T.ag3 rfl (fun K' hK' => ?_)
      simp (disch := omega) only [ait, t0, t1, t2, oP_some, Nat.add_zero]
      refine hK' _ ?_; clear hK' K'
      refine S_bin rfl rfl rfl ?_
      refine S_nil (hK35 _ _ (V_keep [2, 9, 13, 14, 15, 96] (by simp only [proj, lk, reduceIte, Nat.reduceEqDiff]; rfl) ?_)); clear hK35
      refine V_condp rfl (fun c121 => ?_) (fun c121 => ?_)
      · skip
        obtain ⟨b, hb, rfl⟩ : ∃ b : Nat, b < 256 ∧ t = ⟨0, 0, (b : Int)⟩ := by rcases htk with q | ⟨n, d, h1, h2, h3, h4, e⟩; (exact q); (rw [e] at c121; simp only [] at c121; omega)
        refine V_reg T.mix (by kernel_rfl) ?_
        refine S_mv rfl ?_
        refine S_mv rfl ?_
        refine S_mv rfl ?_
        refine S_mv rfl ?_
        first | refine S_ixmn T.el71 rfl rfl (by omega) ?_ | refine S_ixm T.el71 rfl rfl (by omega) (by omega) ?_ | refine S_ix T.el71 rfl rfl (by omega) (by omega) ?_
        first | refine S_fa0 T.f174_2 rfl ?_ | refine S_fa T.f174_2 rfl ?_
        refine S_ldK T.ag3 rfl (fun K' hK' => ?_)
        simp (disch := omega) only [ait, t0, t1, t2, oP_some, Nat.add_zero]
        refine hK' _ ?_; clear hK' K'
        refine S_call T.hb113 rfl ?_
        have kcp := kkk
        obtain ⟨la1, cb1, lb1, kb1, k1, k2, k3, k4⟩ := kcp
        refine FC.mono (mputs_spec hk M _ _ sk dwk.mt h4.size la1 cb1 (Huf.cf (lA L)) 265 k1 (b) (by omega) (by have h9 := htu.1 rfl; rw [Int.toNat_natCast] at h9; exact h9)) ?_
        rintro v' h9 ⟨rfl, ta9, tc9, mt9, mx9⟩
        obtain ⟨s9, hs9, mt9⟩ := mt_var mt9
        obtain ⟨dw9, dx9⟩ := dwk.mex mt9 mx9
        obtain ⟨hE9, hg9⟩ := dx_new dx9 hzk hge hEk
        have hz9 := hE9.1
        have kk9 := kkk.dx dx9
        refine S_nilk [2, 9, 13, 14, 15] (by simp only [proj, lk, reduceIte, Nat.reduceEqDiff]; rfl) ?_
        refine hK34 _ _ ?_; clear hK34
        refine V_reg T.mix (by kernel_rfl) ?_
        refine S_mv rfl ?_
        first | refine S_add rfl rfl (by omega) (by omega) ?_ | refine S_bin rfl rfl rfl ?_
        refine S_as rfl ?_
        refine S_nilk [2, 9, 13, 14, 15] (by simp only [proj, lk, reduceIte, Nat.reduceEqDiff]; rfl) ?_
        exact hK31 _ _ ⟨_, by omega, k + 1, h9, ta9, tc9, s9, by omega, by rw [tks, tps_snoc, tp_lit, wr_snoc, ← hsk]; exact hs9, kk9, dw9, hg9, hE9, rfl, rfl, rfl⟩
      · skip
        obtain ⟨n, d, hn1, hn2, hd1, hd2, rfl⟩ : ∃ n d : Nat, 3 ≤ n ∧ n ≤ 10 ∧ 1 ≤ d ∧ d ≤ 16 ∧ t = ⟨(n : Int), (d : Int), 0⟩ := by rcases htk with ⟨b, hb, e⟩ | q; (exfalso; exact c121 (by rw [e])); (exact q)
        refine V_sr T.mix (by kernel_rfl) (fun K36 hK36 => ?_)
        refine S_mv rfl ?_
        refine S_mv rfl ?_
        refine S_mv rfl ?_
        refine S_mv rfl ?_
        first | refine S_ixmn T.el71 rfl rfl (by omega) ?_ | refine S_ixm T.el71 rfl rfl (by omega) (by omega) ?_ | refine S_ix T.el71 rfl rfl (by omega) (by omega) ?_
        first | refine S_fa0 T.f174_0 rfl ?_ | refine S_fa T.f174_0 rfl ?_
        refine S_ldK T.ag3 rfl (fun K' hK' => ?_)
        simp (disch := omega) only [ait, t0, t1, t2, oP_some, Nat.add_zero]
        refine hK' _ ?_; clear hK' K'
        refine S_addN (257 + n) rfl rfl (by omega) (by omega) ?_
        refine S_subN (n + 254) rfl rfl (by omega) (by omega) ?_
        refine S_call T.hb113 rfl ?_
        have kcp := kkk
        obtain ⟨la1, cb1, lb1, kb1, k1, k2, k3, k4⟩ := kcp
        refine FC.mono (mputs_spec hk M _ _ sk dwk.mt h4.size la1 cb1 (Huf.cf (lA L)) 265 k1 (n + 254) (by omega) (by have h9 := (htu.2 (by simp only []; omega)).1; rw [Int.toNat_natCast] at h9; exact h9)) ?_
        rintro v' h7 ⟨rfl, ta7, tc7, mt7, mx7⟩
        obtain ⟨s7, hs7, mt7⟩ := mt_var mt7
        obtain ⟨dw7, dx7⟩ := dwk.mex mt7 mx7
        obtain ⟨hE7, hg7⟩ := dx_new dx7 hzk hge hEk
        have hz7 := hE7.1
        have kk7 := kkk.dx dx7
        rw [← cell_ext dx7.e (show nb < hk.size by omega) (fun e => by have h9 := hge _ e; omega)] at t1
        refine S_nil (hK36 _ _ (V_keep [2, 9, 13, 14, 15] (by simp only [proj, lk, reduceIte, Nat.reduceEqDiff]; rfl) ?_)); clear hK36
        refine V_sr T.mix (by kernel_rfl) (fun K37 hK37 => ?_)
        refine S_mv rfl ?_
        refine S_mv rfl ?_
        first | refine S_ixmn T.el71 rfl rfl (by omega) ?_ | refine S_ixm T.el71 rfl rfl (by omega) (by omega) ?_ | refine S_ix T.el71 rfl rfl (by omega) (by omega) ?_
        first | refine S_fa0 T.f174_1 rfl ?_ | refine S_fa T.f174_1 rfl ?_
        refine S_ldK T.ag3 rfl (fun K' hK' => ?_)
        simp (disch := omega) only [ait, t0, t1, t2, oP_some, Nat.add_zero]
        refine hK' _ ?_; clear hK' K'
        refine S_call T.hb101 rfl ?_
        refine FC.mono (distcode_spec h7 d (by omega) (by omega)) ?_
        rintro v' h' ⟨rfl, rfl⟩
        obtain ⟨dc1, dc2, dc3, dc4⟩ := dC_is (d := d) (by omega) (by omega)
        refine S_as rfl ?_
        refine S_nil (hK37 _ _ (V_keep [2, 9, 13, 14, 15, 16] (by simp only [proj, lk, reduceIte, Nat.reduceEqDiff]; rfl) ?_)); clear hK37
        refine V_sr T.mix (by kernel_rfl) (fun K38 hK38 => ?_)
        refine S_mv rfl ?_
        refine S_mv rfl ?_
        refine S_mv rfl ?_
        refine S_call T.hb113 rfl ?_
        have kcp := kk7
        obtain ⟨la1, cb1, lb1, kb1, k1, k2, k3, k4⟩ := kcp
        refine FC.mono (mputs_spec h7 M _ _ s7 dw7.mt h5.size lb1 kb1 (Huf.cf (lB L)) 8 k2 (dC d) (dc1) (by have h9 := (htu.2 (by simp only []; omega)).2; rw [Int.toNat_natCast] at h9; exact h9)) ?_
        rintro v' h8 ⟨rfl, ta8, tc8, mt8, mx8⟩
        obtain ⟨s8, hs8, mt8⟩ := mt_var mt8
        obtain ⟨dw8, dx8⟩ := dw7.mex mt8 mx8
        obtain ⟨hE8, hg8⟩ := dx_new dx8 hz7 hg7 hE7
        have hz8 := hE8.1
        have kk8 := kk7.dx dx8
        rw [← cell_ext dx8.e (show nb < h7.size by omega) (fun e => by have h9 := hg7 _ e; omega)] at t1
        refine S_nil (hK38 _ _ (V_keep [2, 9, 13, 14, 15, 16] (by simp only [proj, lk, reduceIte, Nat.reduceEqDiff]; rfl) ?_)); clear hK38
        refine V_sr T.mix (by kernel_rfl) (fun K39 hK39 => ?_)
        refine S_mv rfl ?_
        refine S_call T.hb108 rfl ?_
        refine FC.mono (distbase_spec h8 (dC d) dc1) ?_
        rintro v' h' ⟨rfl, rfl⟩
        refine S_mv rfl ?_
        refine S_ex rfl rfl ?_
        refine S_ex rfl rfl ?_
        refine S_as rfl ?_
        refine S_as rfl ?_
        refine S_nil (hK39 _ _ (V_keep [2, 9, 13, 14, 15, 17, 18] (by simp only [proj, lk, reduceIte, Nat.reduceEqDiff]; rfl) ?_)); clear hK39
        refine V_reg T.mix (by kernel_rfl) ?_
        refine S_mv rfl ?_
        refine S_mv rfl ?_
        refine S_mv rfl ?_
        first | refine S_ixmn T.el71 rfl rfl (by omega) ?_ | refine S_ixm T.el71 rfl rfl (by omega) (by omega) ?_ | refine S_ix T.el71 rfl rfl (by omega) (by omega) ?_
        first | refine S_fa0 T.f174_1 rfl ?_ | refine S_fa T.f174_1 rfl ?_
        refine S_ldK T.ag3 rfl (fun K' hK' => ?_)
        simp (disch := omega) only [ait, t0, t1, t2, oP_some, Nat.add_zero]
        refine hK' _ ?_; clear hK' K'
        refine S_mv rfl ?_
        refine S_subN (d - dB (dC d)) rfl rfl (by omega) (by omega) ?_
        refine S_mv rfl ?_
        refine S_call T.hb109 rfl ?_
        refine FC.mono (BitW.mput_spec h8 M _ _ s8 dw8.mt (((d - dB (dC d) : Nat) : Int)) ((dM (dC d) : Int))) ?_
        rintro v' h9 ⟨rfl, ta9, tc9, mt9, mx9⟩
        obtain ⟨s9, hs9, mt9⟩ := mt_var mt9
        obtain ⟨dw9, dx9⟩ := dw8.mex mt9 mx9
        obtain ⟨hE9, hg9⟩ := dx_new dx9 hz8 hg8 hE8
        have hz9 := hE9.1
        refine S_nilk [2, 9, 13, 14, 15] (by simp only [proj, lk, reduceIte, Nat.reduceEqDiff]; rfl) ?_
        refine hK34 _ _ ?_; clear hK34
        refine V_reg T.mix (by kernel_rfl) ?_
        refine S_mv rfl ?_
        first | refine S_add rfl rfl (by omega) (by omega) ?_ | refine S_bin rfl rfl rfl ?_
        refine S_as rfl ?_
        refine S_nilk [2, 9, 13, 14, 15] (by simp only [proj, lk, reduceIte, Nat.reduceEqDiff]; rfl) ?_
        exact hK31 _ _ ⟨_, by omega, k + 1, h9, ta9, tc9, s9, by omega, by rw [tks, tps_snoc, tp_dup _ _ _ (by omega), wr_app, ← hsk, hs9, hs8, hs7]; rfl, kk8.dx dx9, dw9, hg9, hE9, rfl, rfl, rfl⟩
    · skip
      refine V_exitk [9, 13] rfl (by simp only [proj, lk, reduceIte, Nat.reduceEqDiff]; rfl) ?_
      refine hK29 _ _ ?_; clear hK29
      refine V_sr T.mix (by kernel_rfl) (fun K40 hK40 => ?_)
      refine S_mv rfl ?_
      refine S_mv rfl ?_
      refine S_call T.hb113 rfl ?_
      have kcp := kkk
      obtain ⟨la1, cb1, lb1, kb1, k1, k2, k3, k4⟩ := kcp
      refine FC.mono (mputs_spec hk M _ _ sk dwk.mt h4.size la1 cb1 (Huf.cf (lA L)) 265 k1 (256) (by omega) (wE)) ?_
      rintro v' h9 ⟨rfl, ta9, tc9, mt9, mx9⟩
      obtain ⟨s9, hs9, mt9⟩ := mt_var mt9
      obtain ⟨dw9, dx9⟩ := dwk.mex mt9 mx9
      obtain ⟨hE9, hg9⟩ := dx_new dx9 hzk hge hEk
      have hz9 := hE9.1
      refine S_nil (hK40 _ _ (V_keep [9] (by simp only [proj, lk, reduceIte, Nat.reduceEqDiff]; rfl) ?_)); clear hK40
      refine V_sr T.mix (by kernel_rfl) (fun K41 hK41 => ?_)
      refine S_mv rfl ?_
      refine S_call T.hb111 rfl ?_
      refine FC.mono (BitW.mtext_spec h9 M _ _ s9 dw9.mt) ?_
      rintro v' h10 ⟨rfl, hE10⟩
      refine S_as rfl ?_
      refine S_nil (hK41 _ _ (V_keep [8] (by simp only [proj, lk, reduceIte, Nat.reduceEqDiff]; rfl) ?_)); clear hK41
      refine V_ret ?_
      refine hR _ _ (ret1 rfl rfl ?_)
      have hk9 : k = Q.length := by omega
      rw [hk9, List.take_length] at hsk
      have hem : (wr ⟨0, 0, 0⟩ (emP kd u Q L)) = s9 := by rw [em_cod (by omega), ← hs12, wr_app, wr_if2, ← hs4, bp_tps, wr_snoc, ← hsk]; exact hs9.symm
      rw [hem]
      exact ⟨rfl, hE9.trans hE10⟩
set_option maxHeartbeats 400000 in
theorem mbnew_spec (h : Heap) :
    FC Tryz.prog 18 (#[] : Array Value) h fun rv h' => rv = .pointer (some ⟨h.size, 0, none⟩) ∧ (∃ zz kk, B h' h.size #[.pointer (some ⟨zz, 0, none⟩), .pointer (some ⟨kk, 0, none⟩)] 81) ∧ Ext (fun _ => False) h h' := by
  have hok : (0 : Nat) = 0 := rfl
  refine FC_of [] Tryz.func18 rfl Tryz.ntmps18 (by simp) rfl (fun R hR => ?_)
  refine V_sr T.mix (by kernel_rfl) (fun K1 hK1 => ?_)
  refine S_as rfl ?_
  refine S_nil (hK1 _ _ (V_keep [] (by simp only [proj, lk, reduceIte, Nat.reduceEqDiff]; rfl) ?_)); clear hK1
  refine V_sr T.mix (by kernel_rfl) (fun K2 hK2 => ?_)
  refine S_bld rfl (T.bld81) ?_
  refine S_boxA rfl ?_
  generalize hh : Array.push h _ = g1
  have b0 : B g1 h.size #[.pointer none, .pointer none] 81 := by rw [← hh]; exact B.new _ _ _
  have hEg1 : Ext (fun _ => False) h g1 := by rw [← hh]; exact Ext.push _ _ _
  clear hh
  refine S_as rfl ?_
  refine S_nil (hK2 _ _ (V_keep [1] (by simp only [proj, lk, reduceIte, Nat.reduceEqDiff]; rfl) ?_)); clear hK2
  refine V_sr T.mix (by kernel_rfl) (fun K3 hK3 => ?_)
  refine S_mv rfl ?_
  refine S_call T.hb25 rfl ?_
  refine FC.mono (LzW.mnew_spec g1) ?_
  rintro v' g2 ⟨rfl, hE2, hz2⟩
  have b2 := b0.ext hE2 (fun f => f)
  clear hok
  have hok : ∀ j, j < 2 → okPut g2 ⟨h.size, j, none⟩ = true := fun j hj => b2.ok (by simpa using hj)
  refine S_nc rfl ?_
  first | refine S_fa0 T.f81_0 rfl ?_ | refine S_fa T.f81_0 rfl ?_
  refine S_st T.sz78 rfl rfl rfl rfl (by simp (disch := omega) only [hok]) ?_
  generalize hh : putH _ _ _ = g3
  have b3 : B g3 h.size #[.pointer (some ⟨g1.size, 0, none⟩), .pointer none] 81 := by rw [← hh]; exact b2.put 0 _
  have hE3 : Ext (fun b => b = h.size) g2 g3 := by rw [← hh]; exact Ext.put _ _ rfl
  clear hh
  refine S_nil (hK3 _ _ (V_keep [1] (by simp only [proj, lk, reduceIte, Nat.reduceEqDiff]; rfl) ?_)); clear hK3
  refine V_sr T.mix (by kernel_rfl) (fun K4 hK4 => ?_)
  refine S_mv rfl ?_
  refine S_call T.hb26 rfl ?_
  refine FC.mono (hmnew_spec g3) ?_
  rintro v' g4 ⟨rfl, _, hE4⟩
  have b4 := b3.ext hE4 (fun f => f)
  clear hok
  have hok : ∀ j, j < 2 → okPut g4 ⟨h.size, j, none⟩ = true := fun j hj => b4.ok (by simpa using hj)
  refine S_nc rfl ?_
  first | refine S_fa0 T.f81_1 rfl ?_ | refine S_fa T.f81_1 rfl ?_
  refine S_st T.sz79 rfl rfl rfl rfl (by simp (disch := omega) only [hok]) ?_
  generalize hh : putH _ _ _ = g5
  have b5 : B g5 h.size #[.pointer (some ⟨g1.size, 0, none⟩), .pointer (some ⟨g3.size, 0, none⟩)] 81 := by rw [← hh]; exact b4.put 1 _
  have hE5 : Ext (fun b => b = h.size) g4 g5 := by rw [← hh]; exact Ext.put _ _ rfl
  clear hh
  refine S_nil (hK4 _ _ (V_keep [1] (by simp only [proj, lk, reduceIte, Nat.reduceEqDiff]; rfl) ?_)); clear hK4
  refine V_sr T.mix (by kernel_rfl) (fun K5 hK5 => ?_)
  refine S_mv rfl ?_
  refine S_as rfl ?_
  refine S_nil (hK5 _ _ (V_keep [0] (by simp only [proj, lk, reduceIte, Nat.reduceEqDiff]; rfl) ?_)); clear hK5
  refine V_ret ?_
  refine hR _ _ (ret1 rfl rfl ?_)
  exact ⟨rfl, ⟨_, _, b5⟩, (((hEg1.trans hE2).step hE3 (fun b hb e => by omega)).trans hE4).step hE5 (fun b hb e => by omega)⟩
set_option maxHeartbeats 3200000 in
theorem mpack_spec (h : Heap) (P zz kk : Nat) (bp : B h P #[.pointer (some ⟨zz, 0, none⟩), .pointer (some ⟨kk, 0, none⟩)] 81) (u : ByteArray) (level : Int) :
    FC Tryz.prog 54 (#[.pointer (some ⟨P, 0, none⟩), .string u, .int .i64 level] : Array Value) h fun rv h' => rv = .tuple #[.string (pkT u level), .int .i64 ((pkE u level : Nat) : Int)] ∧ Ext (fun _ => False) h h' := by
  have bp0 : cellH h ⟨P, 0, none⟩ = some (.pointer (some ⟨zz, 0, none⟩)) := bp.cell 0
  have bp1 : cellH h ⟨P, 1, none⟩ = some (.pointer (some ⟨kk, 0, none⟩)) := bp.cell 1
  refine FC_of [(0, .pointer (some ⟨P, 0, none⟩)), (1, .string u), (2, .int .i64 level)] Tryz.func54 rfl Tryz.ntmps54 (by simp) rfl (fun R hR => ?_)
  refine V_sr T.mix (by kernel_rfl) (fun K1 hK1 => ?_)
  refine S_as rfl ?_
  refine S_as rfl ?_
  refine S_nil (hK1 _ _ (V_keep [0, 1, 2] (by simp only [proj, lk, reduceIte, Nat.reduceEqDiff]; rfl) ?_)); clear hK1
  refine V_seq (fun K2 hK2 => ?_)
  refine V_sr T.mix (by kernel_rfl) (fun K3 hK3 => ?_)
  refine S_mv rfl ?_
  refine S_lens T.kd9 rfl ?_
  refine S_bin rfl rfl rfl ?_
  refine S_nil (hK3 _ _ (V_keep [0, 1, 2, 23] (by simp only [proj, lk, reduceIte, Nat.reduceEqDiff]; rfl) ?_)); clear hK3
  refine V_condp rfl (fun c136 => ?_) (fun c136 => ?_)
  · skip
    refine V_sr T.mix (by kernel_rfl) (fun K4 hK4 => ?_)
    refine S_as rfl ?_
    refine S_as rfl ?_
    refine S_nil (hK4 _ _ (V_keep [6, 7] (by simp only [proj, lk, reduceIte, Nat.reduceEqDiff]; rfl) ?_)); clear hK4
    refine V_ret ?_
    refine hR _ _ (ret2 rfl rfl rfl ?_)
    have he : pkE u level = 1 := by unfold pkE; rw [if_pos (by omega)]
    have ht : pkT u level = ⟨#[]⟩ := by unfold pkT; rw [if_neg (by omega)]
    rw [he, ht]
    exact ⟨rfl, Ext.refl _ _⟩
  · skip
    refine V_skipk [0, 1, 2] (by simp only [proj, lk, reduceIte, Nat.reduceEqDiff]; rfl) ?_
    refine hK2 _ _ ?_; clear hK2
    refine V_seq (fun K5 hK5 => ?_)
    refine V_sr T.mix (by kernel_rfl) (fun K6 hK6 => ?_)
    refine S_cut (K' := fun l h' => ∃ b : Bool, (b = true ↔ (level < 0 ∨ 2 < level)) ∧ l = [(0, .pointer (some ⟨P, 0, none⟩)), (1, .string u), (2, .int .i64 level), (29, .bool b)] ∧ h = h') ?_ ?_
    · skip
      refine S_mv rfl ?_
      refine S_bin rfl rfl rfl ?_
      refine S_mv rfl ?_
      refine S_dec (fun g139 => ?_) (fun g139 => ?_)
      · skip
        refine S_gf rfl ?_
        refine S_gf rfl ?_
        refine S_pt rfl rfl ?_
        exact S_nilk [0, 1, 2, 29] (by simp only [proj, lk, reduceIte, Nat.reduceEqDiff]; rfl) ⟨_, (by first | (simp [*]; done) | (simp; omega)), rfl, rfl⟩
      · skip
        refine S_gt rfl ?_
        refine S_mv rfl ?_
        refine S_gt rfl ?_
        refine S_bin rfl rfl rfl ?_
        refine S_pf rfl rfl ?_
        exact S_nilk [0, 1, 2, 29] (by simp only [proj, lk, reduceIte, Nat.reduceEqDiff]; rfl) ⟨_, (by first | (simp [*]; done) | (simp; omega)), rfl, rfl⟩
    rintro l h' ⟨b, hb139, rfl, rfl⟩
    refine hK6 _ _ ?_; clear hK6
    refine V_condb rfl (fun c139 => ?_) (fun c139 => ?_)
    · replace c139 := hb139.1 c139
      refine V_sr T.mix (by kernel_rfl) (fun K8 hK8 => ?_)
      refine S_as rfl ?_
      refine S_as rfl ?_
      refine S_nil (hK8 _ _ (V_keep [6, 7] (by simp only [proj, lk, reduceIte, Nat.reduceEqDiff]; rfl) ?_)); clear hK8
      refine V_ret ?_
      refine hR _ _ (ret2 rfl rfl rfl ?_)
      have he : pkE u level = 13 := by unfold pkE; rw [if_neg (by omega), if_pos (by assumption)]
      have ht : pkT u level = ⟨#[]⟩ := by unfold pkT; rw [if_neg (by omega)]
      rw [he, ht]
      exact ⟨rfl, Ext.refl _ _⟩
    · replace c139 : ¬ _ := fun hp => Bool.false_ne_true (c139.symm.trans (hb139.2 hp))
      refine V_skipk [0, 1, 2] (by simp only [proj, lk, reduceIte, Nat.reduceEqDiff]; rfl) ?_
      refine hK5 _ _ ?_; clear hK5
      refine V_sr T.mix (by kernel_rfl) (fun K9 hK9 => ?_)
      refine S_mv rfl ?_
      refine S_nc rfl ?_
      first | refine S_fa0 T.f81_0 rfl ?_ | refine S_fa T.f81_0 rfl ?_
      refine S_ldK T.ag78 rfl (fun K' hK' => ?_)
      simp (disch := omega) only [bp0, bp1, oP_some, Nat.add_zero]
      refine hK' _ ?_; clear hK' K'
      refine S_mv rfl ?_
      refine S_mv rfl ?_
      refine S_call T.hb69 rfl ?_
      refine FC.mono (LzW.mparse_spec (.pointer (some ⟨zz, 0, none⟩)) u level h) ?_
      rintro v' h1 ⟨hE1, hcase⟩
      obtain ⟨nb, Q, hQ, rfl, hnb, hTok⟩ : ∃ nb Q, Q = Lz.toks u level ∧ v' = .tuple #[.slice (some ⟨nb, 0, none⟩) Q.length Q.length, .int .i64 0] ∧ h.size ≤ nb ∧ LzW.TokB h1 nb Q := by rcases hcase with ⟨q, _⟩ | ⟨_, q, _⟩ | ⟨_, _, _, nb, q1, q2, q3⟩; (omega); (omega); (exact ⟨nb, _, rfl, q1, q2, q3⟩)
      clear hcase
      have hTl : Q.length ≤ 256 := by rw [hQ]; exact Nat.le_trans (Lz.toks_len u level) (by omega)
      have tk : ∀ t, t ∈ Q → Tk t := by rw [hQ]; exact toks_tk u level
      refine S_mv rfl ?_
      refine S_ex rfl rfl ?_
      refine S_ex rfl rfl ?_
      refine S_as rfl ?_
      refine S_as rfl ?_
      refine S_nil (hK9 _ _ (V_keep [0, 1, 8, 9] (by simp only [proj, lk, reduceIte, Nat.reduceEqDiff]; rfl) ?_)); clear hK9
      refine V_seq (fun K10 hK10 => ?_)
      refine V_sr T.mix (by kernel_rfl) (fun K11 hK11 => ?_)
      refine S_mv rfl ?_
      refine S_bin rfl rfl rfl ?_
      refine S_nil (hK11 _ _ (V_keep [0, 1, 8, 9, 41] (by simp only [proj, lk, reduceIte, Nat.reduceEqDiff]; rfl) ?_)); clear hK11
      refine V_condp rfl (fun c143 => ?_) (fun c143 => ?_)
      · skip
        exfalso; exact c143 rfl
      · skip
        refine V_skipk [0, 1, 8] (by simp only [proj, lk, reduceIte, Nat.reduceEqDiff]; rfl) ?_
        refine hK10 _ _ ?_; clear hK10
        refine V_sr T.mix (by kernel_rfl) (fun K12 hK12 => ?_)
        refine S_mv rfl ?_
        refine S_call T.hb70 rfl ?_
        refine FC.mono (counts_spec h1 nb Q hTok tk hTl) ?_
        rintro v' h2 ⟨rfl, bc2, hE2⟩
        have hco := cnT_co hTl
        obtain ⟨c0, hc0⟩ : ∃ c0, c0 = cnT Q := ⟨_, rfl⟩
        rw [← hc0] at bc2 hco
        have hc600 : ∀ i, c0 i ≤ 600 := fun i => by have h9 := cnT_le Q i; rw [hc0]; omega
        have hlA : (Huf.planR (cA c0) 10).length = 265 := by rw [hco.rA]; exact lA_len (dy_len _)
        have hlB : (Huf.planR (cB c0) 10).length = 8 := by rw [hco.rB]; exact lB_len (dy_len _)
        obtain ⟨dL, hdL⟩ : ∃ dL, dL = dyL c0 := ⟨_, rfl⟩
        have hd3 : dL.length = 273 := by rw [hdL]; exact dy_len _
        have hd10 : ∀ i, i < 273 → dL.getD i 0 ≤ 10 := fun i hi => by rw [hdL]; exact (hco.at hi).1
        have hE02 := hE1.trans hE2
        clear bp1
        have bp1 : cellH h2 ⟨P, 1, none⟩ = some (.pointer (some ⟨kk, 0, none⟩)) := (bp.ext hE02 (fun f => f)).cell 1
        refine S_as rfl ?_
        refine S_nil (hK12 _ _ (V_keep [0, 1, 8, 10] (by simp only [proj, lk, reduceIte, Nat.reduceEqDiff]; rfl) ?_)); clear hK12
        refine V_sr T.mix (by kernel_rfl) (fun K13 hK13 => ?_)
        refine S_mv rfl ?_
        refine S_nc rfl ?_
        first | refine S_fa0 T.f81_1 rfl ?_ | refine S_fa T.f81_1 rfl ?_
        refine S_ldK T.ag79 rfl (fun K' hK' => ?_)
        simp (disch := omega) only [bp0, bp1, oP_some, Nat.add_zero]
        refine hK' _ ?_; clear hK' K'
        refine S_mv rfl ?_
        refine S_sl rfl rfl rfl (sliceV_hi T.el56 (by omega) (by omega)) ?_
        rw [show Int.toNat 265 = 265 from rfl]
        refine S_call T.hb71 rfl ?_
        have hpc := mplan_spec h2 kk (some ⟨h1.size, 0, none⟩) 273 (cA c0) (OLcA bc2 273) 10
        rw [show (cA c0).length = 265 from Huf.il_len _ _] at hpc
        refine FC.mono hpc ?_
        rintro v' h3 ⟨xa, rfl, hx3, hxb, hE3⟩
        rw [hlA] at hx3 ⊢
        have hE03 := hE02.trans hE3
        clear bp1
        have bp1 : cellH h3 ⟨P, 1, none⟩ = some (.pointer (some ⟨kk, 0, none⟩)) := (bp.ext hE03 (fun f => f)).cell 1
        have bc3 := bc2.ext hE3 (fun f => f)
        refine S_mv rfl ?_
        refine S_ex rfl rfl ?_
        refine S_ex rfl rfl ?_
        refine S_as rfl ?_
        refine S_as rfl ?_
        refine S_nil (hK13 _ _ (V_keep [0, 1, 8, 10, 11] (by simp only [proj, lk, reduceIte, Nat.reduceEqDiff]; rfl) ?_)); clear hK13
        refine V_sr T.mix (by kernel_rfl) (fun K14 hK14 => ?_)
        refine S_mv rfl ?_
        refine S_nc rfl ?_
        first | refine S_fa0 T.f81_1 rfl ?_ | refine S_fa T.f81_1 rfl ?_
        refine S_ldK T.ag79 rfl (fun K' hK' => ?_)
        simp (disch := omega) only [bp0, bp1, oP_some, Nat.add_zero]
        refine hK' _ ?_; clear hK' K'
        refine S_mv rfl ?_
        refine S_sl rfl rfl rfl (sliceV_lo (p := 265) T.el56 (by omega) (by omega) (by omega)) ?_
        simp only [Nat.zero_add, Nat.reduceMul, Nat.reduceSub]
        refine S_call T.hb71 rfl ?_
        have hpc := mplan_spec h3 kk (some ⟨h1.size, 265, none⟩) 8 (cB c0) (OLcB bc3 8) 10
        rw [show (cB c0).length = 8 from Huf.il_len _ _] at hpc
        refine FC.mono hpc ?_
        rintro v' h4 ⟨xb, rfl, hy4, hyb, hE4⟩
        rw [hlB] at hy4 ⊢
        have hE04 := hE03.trans hE4
        have hx4 := hx3.ext hE4 (fun _ _ f => f)
        unfold IL at hx4 hy4
        rw [hlA] at hx4
        rw [hlB] at hy4
        refine S_mv rfl ?_
        refine S_ex rfl rfl ?_
        refine S_ex rfl rfl ?_
        refine S_as rfl ?_
        refine S_as rfl ?_
        refine S_nil (hK14 _ _ (V_keep [1, 8, 10, 11, 13] (by simp only [proj, lk, reduceIte, Nat.reduceEqDiff]; rfl) ?_)); clear hK14
        refine V_sr T.mix (by kernel_rfl) (fun K15 hK15 => ?_)
        refine S_mv rfl ?_
        refine S_mv rfl ?_
        refine S_appx (lo := 0) T.ei56 T.ni56 T.us56 rfl rfl rfl hx4 (Nat.zero_le _) (OwnR.cells hy4) (by rw [ints_len, hlB]) (by omega) (by decide) (by decide) (List.all_eq_true.2 (ints_one _)) (fun ad5 cp5 h5 ho5 hE5 hb5 => ?_)
        simp only [Nat.reduceAdd]
        have hd5 : IL h5 ad5 cp5 (li dL) := by
          unfold IL; rw [hdL, ← lAB, ← hco.rA, ← hco.rB, ints_app, List.length_append, hlA, hlB]; exact ho5
        have hcp5 : 273 ≤ cp5 := by have h9 := hd5.cap; rw [li_len] at h9; omega
        refine S_as rfl ?_
        refine S_nil (hK15 _ _ (V_keep [1, 8, 10, 15] (by simp only [proj, lk, reduceIte, Nat.reduceEqDiff]; rfl) ?_)); clear hK15
        refine V_sr T.mix (by kernel_rfl) (fun K16 hK16 => ?_)
        refine S_call T.hb72 rfl ?_
        refine FC.mono (fixedlens_spec h5) ?_
        rintro v' h6 ⟨rfl, bl6, hE6⟩
        have of6 := OLli fix_len bl6 273
        have bc6 := ((bc3.ext hE4 (fun f => f)).ext hE5 (fun e => by have h9 := hxb _ e; have h8 := bc2.lt; omega)).ext hE6 (fun f => f)
        have od6 := (IL.OL hd5 cp5).ext hE6 (fun _ _ f => f)
        have hE05 : Ext (fun _ => False) h h5 := hE04.step hE5 (fun b hb e => by have h9 := hxb _ e; have h8 := hE02.1; omega)
        have hE06 := hE05.trans hE6
        refine S_as rfl ?_
        refine S_nil (hK16 _ _ (V_keep [1, 8, 10, 15, 16] (by simp only [proj, lk, reduceIte, Nat.reduceEqDiff]; rfl) ?_)); clear hK16
        refine V_sr T.mix (by kernel_rfl) (fun K17 hK17 => ?_)
        refine S_mv rfl ?_
        refine S_lens T.kd9 rfl ?_
        refine S_mv rfl ?_
        refine S_mv rfl ?_
        refine S_call T.hb73 rfl ?_
        refine FC.mono (bits_spec h6 0 u.size (by omega) h1.size c0 bc6 hc600 fixL fix_len (some ⟨h5.size, 0, none⟩) 273 of6 fix10) ?_
        obtain ⟨x7, hx7⟩ : ∃ x, x = biF 0 u.size c0 fixL := ⟨_, rfl⟩
        rw [← hx7]
        rintro v' h7 ⟨rfl, hE7⟩
        refine S_as rfl ?_
        refine S_nil (hK17 _ _ (V_keep [1, 8, 10, 15, 16, 17] (by simp only [proj, lk, reduceIte, Nat.reduceEqDiff]; rfl) ?_)); clear hK17
        refine V_sr T.mix (by kernel_rfl) (fun K18 hK18 => ?_)
        refine S_mv rfl ?_
        refine S_lens T.kd9 rfl ?_
        refine S_mv rfl ?_
        refine S_mv rfl ?_
        refine S_call T.hb73 rfl ?_
        refine FC.mono (bits_spec h7 1 u.size (by omega) h1.size c0 (bc6.ext hE7 (fun f => f)) hc600 fixL fix_len (some ⟨h5.size, 0, none⟩) 273 (of6.ext hE7 (fun _ _ f => f)) fix10) ?_
        obtain ⟨x8, hx8⟩ : ∃ x, x = biF 1 u.size c0 fixL := ⟨_, rfl⟩
        rw [← hx8]
        rintro v' h8 ⟨rfl, hE8⟩
        refine S_as rfl ?_
        refine S_nil (hK18 _ _ (V_keep [1, 8, 10, 15, 16, 17, 18] (by simp only [proj, lk, reduceIte, Nat.reduceEqDiff]; rfl) ?_)); clear hK18
        refine V_sr T.mix (by kernel_rfl) (fun K19 hK19 => ?_)
        refine S_mv rfl ?_
        refine S_lens T.kd9 rfl ?_
        refine S_mv rfl ?_
        refine S_mv rfl ?_
        refine S_call T.hb73 rfl ?_
        refine FC.mono (bits_spec h8 2 u.size (by omega) h1.size c0 ((bc6.ext hE7 (fun f => f)).ext hE8 (fun f => f)) hc600 dL hd3 ad5 cp5 ((od6.ext hE7 (fun _ _ f => f)).ext hE8 (fun _ _ f => f)) hd10) ?_
        obtain ⟨x9, hx9⟩ : ∃ x, x = biF 2 u.size c0 dL := ⟨_, rfl⟩
        rw [← hx9]
        rintro v' h9 ⟨rfl, hE9⟩
        refine S_as rfl ?_
        refine S_nil (hK19 _ _ (V_keep [1, 8, 15, 16, 17, 18, 19] (by simp only [proj, lk, reduceIte, Nat.reduceEqDiff]; rfl) ?_)); clear hK19
        refine V_sr T.mix (by kernel_rfl) (fun K20 hK20 => ?_)
        refine S_mv rfl ?_
        refine S_mv rfl ?_
        refine S_mv rfl ?_
        refine S_call T.hb74 rfl ?_
        refine FC.mono (mchoose_spec h9 x7 x8 x9) ?_
        obtain ⟨kd, hkd⟩ : ∃ kd, kd = kdF u Q := ⟨_, rfl⟩
        rw [show chs x7 x8 x9 = kd by rw [hx7, hx8, hx9, hc0, hdL, hc0, hkd]; exact kd_bi u Q]
        rintro v' h' ⟨rfl, rfl⟩
        have hk2 : kd ≤ 2 := by rw [hkd]; exact kd_le u Q
        have hE69 := (hE7.trans hE8).trans hE9
        have hE09 := hE06.trans hE69
        have hTz : LzW.TokB h9 nb Q := B.ext (B.ext hTok ((hE2.trans hE3).trans hE4) (fun f => f)) ((hE5.mono fun b e => hxb b e).trans ((hE6.trans hE69).mono fun _ f => f.elim)) (fun e => by have h9 := B.lt hTok; have h8 := hE2.1; omega)
        have hps := ps_is (u := u) (level := level) (by omega)
        rw [← hQ] at hps
        have hln := ln_ps (u := u) tk
        refine S_as rfl ?_
        refine S_nil (hK20 _ _ (V_keep [1, 8, 15, 16, 20] (by simp only [proj, lk, reduceIte, Nat.reduceEqDiff]; rfl) ?_)); clear hK20
        refine V_seq (fun K21 hK21 => ?_)
        refine V_sr T.mix (by kernel_rfl) (fun K22 hK22 => ?_)
        refine S_mv rfl ?_
        refine S_bin rfl rfl rfl ?_
        refine S_nil (hK22 _ _ (V_keep [1, 8, 15, 16, 20, 89] (by simp only [proj, lk, reduceIte, Nat.reduceEqDiff]; rfl) ?_)); clear hK22
        refine V_condp rfl (fun c155 => ?_) (fun c155 => ?_)
        · skip
          refine V_sr T.mix (by kernel_rfl) (fun K23 hK23 => ?_)
          refine S_mv rfl ?_
          refine S_mv rfl ?_
          refine S_mv rfl ?_
          refine S_mv rfl ?_
          refine S_call T.hb75 rfl ?_
          refine FC.mono (emit_spec h9 kd hk2 u (by omega) nb Q hTz tk hTl dL hd3 ad5 cp5 (od6.ext hE69 (fun _ _ f => f)) (hcp5) (by rw [hdL]; exact hco.mem) (by rw [hdL]; exact hco.coE) (us_of tk (fun i hi hp => by have h9 := (hco.at hi).2; rw [hdL]; rw [hc0] at h9 ⊢; omega))) ?_
          rintro v' h10 ⟨rfl, hEz⟩
          refine S_as rfl ?_
          refine S_as rfl ?_
          refine S_nil (hK23 _ _ (V_keep [6, 7] (by simp only [proj, lk, reduceIte, Nat.reduceEqDiff]; rfl) ?_)); clear hK23
          refine V_ret ?_
          refine hR _ _ (ret2 rfl rfl rfl ?_)
          have he : pkE u level = 0 := by unfold pkE; rw [if_neg (by omega), if_neg (by assumption)]
          have hle : leF u Q = dL := by unfold leF; rw [← hkd, if_pos (by omega)]; rw [hdL, hc0]
          have hem : wr ⟨0, 0, 0⟩ (emP kd u Q dL) = ⟨nm (psF u Q), ctF u Q, 0⟩ := by rw [← hps, ← hle, hkd]; rfl
          have ht : pkT u level = txt (nm (psF u Q)) (ctF u Q) := by unfold pkT; rw [if_pos he]; unfold pkF; rw [← hQ, hln]
          rw [he, ht, hem]
          exact ⟨rfl, hE09.trans hEz⟩
        · skip
          refine V_skipk [1, 8, 16, 20] (by simp only [proj, lk, reduceIte, Nat.reduceEqDiff]; rfl) ?_
          refine hK21 _ _ ?_; clear hK21
          refine V_sr T.mix (by kernel_rfl) (fun K24 hK24 => ?_)
          refine S_mv rfl ?_
          refine S_mv rfl ?_
          refine S_mv rfl ?_
          refine S_mv rfl ?_
          refine S_call T.hb75 rfl ?_
          refine FC.mono (emit_spec h9 kd hk2 u (by omega) nb Q hTz tk hTl fixL fix_len (some ⟨h5.size, 0, none⟩) 273 (of6.ext hE69 (fun _ _ f => f)) (by omega) (fix_le) (fix_e) (us_of tk (fun i hi hp => by rw [fix_at hi]; (repeat' split) <;> omega))) ?_
          rintro v' h10 ⟨rfl, hEz⟩
          refine S_as rfl ?_
          refine S_as rfl ?_
          refine S_nil (hK24 _ _ (V_keep [6, 7] (by simp only [proj, lk, reduceIte, Nat.reduceEqDiff]; rfl) ?_)); clear hK24
          refine V_ret ?_
          refine hR _ _ (ret2 rfl rfl rfl ?_)
          have he : pkE u level = 0 := by unfold pkE; rw [if_neg (by omega), if_neg (by assumption)]
          have hle : leF u Q = fixL := by unfold leF; rw [← hkd, if_neg (by omega)]
          have hem : wr ⟨0, 0, 0⟩ (emP kd u Q fixL) = ⟨nm (psF u Q), ctF u Q, 0⟩ := by rw [← hps, ← hle, hkd]; rfl
          have ht : pkT u level = txt (nm (psF u Q)) (ctF u Q) := by unfold pkT; rw [if_pos he]; unfold pkF; rw [← hQ, hln]
          rw [he, ht, hem]
          exact ⟨rfl, hE09.trans hEz⟩
end Go.Proofs.Qxb6500404aGreat
