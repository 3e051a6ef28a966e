import Derived.Test.Qxb6500404aGreatPa
set_option linter.unusedVariables false
set_option linter.unusedSimpArgs false
namespace Go.Proofs.Qxb6500404aGreat
open Go.Eng Go.Bits Go.Blk HufW

theorem hot_of {M : Nat} {ta oa : Option Addr} {b : Nat} (h : b = M ∨ blkA ta = some b) : Hot M ta oa b := by rcases h with h | h; (exact .inl h); (exact .inr (.inl h))
theorem dB_le {c : Nat} (h : c < 8) : 1 ≤ dB c ∧ dB c ≤ 13 := by unfold dB; split; (omega); (split <;> omega)
theorem take4 {s : TS} {c : Nat} : takeV s (dM c : Int) < 4 := by
  have h1 := take_lt (s := s) (k := dM c) (by have := dM_le c; omega)
  have h2 : 2 ^ dM c ≤ 2 ^ 2 := Nat.pow_le_pow_right (by omega) (dM_le c)
  omega

theorem hb_eq (b : Bool) : b = decide (b = true) := by cases b <;> rfl
theorem cdF_go {la lb : Nat → Nat} {f : Nat} {s : TS} {out : List Int} {t : KO} (ht : t = tkF s la lb out) : cdF la lb (f + 1) s out = if t.dn = true then ⟨t.out, t.e, s.p, t.s⟩ else cdF la lb f t.s t.out := by rw [cdF, ← ht]
/-- the two coders of a block, away from what turns -/
def KK2 (h : Heap) (lo : Nat) (A Bc : Nat) (M : Nat) (ta oa : Option Addr) (fA fB : Nat → Nat) : Prop := ∃ la cb lb kb, MK h A la cb fA 265 ∧ MK h Bc lb kb fB 8 ∧ (∀ b, KOb A la cb b → ¬ Hot M ta oa b ∧ lo ≤ b) ∧ ∀ b, KOb Bc lb kb b → ¬ Hot M ta oa b ∧ lo ≤ b
theorem KK2.dx {h h' : Heap} {lo A Bc M : Nat} {ta ta' oa oa' : Option Addr} {fA fB : Nat → Nat} (k : KK2 h lo A Bc M ta oa fA fB) (x : DX M h h' ta ta' oa oa') : KK2 h' lo A Bc M ta' oa' fA fB := by
  obtain ⟨la, cb, lb, kb, k1, k2, k3, k4⟩ := k
  exact ⟨la, cb, lb, kb, MK.ext' k1 x.e (fun b e => (k3 b e).1), MK.ext' k2 x.e (fun b e => (k4 b e).1), fun b e => ⟨x.cold (MK.lt' k1 e) (k3 b e).1, (k3 b e).2⟩, fun b e => ⟨x.cold (MK.lt' k2 e) (k4 b e).1, (k4 b e).2⟩⟩

theorem dx_new {M : Nat} {h0 h h' : Heap} {ta ta' oa oa' : Option Addr} (x : DX M h h' ta ta' oa oa') (hz : h0.size ≤ h.size) (hg : ∀ b, Hot M ta oa b → h0.size ≤ b) (he : Ext (fun _ => False) h0 h) : Ext (fun _ => False) h0 h' ∧ ∀ b, Hot M ta' oa' b → h0.size ≤ b := by
  refine ⟨he.step x.e (fun b hb e => by have := hg b e; omega), fun b e => ?_⟩
  rcases e with e | e | e
  · exact hg b (.inl e)
  · rcases x.t b e with q | q
    · exact hg b (.inr (.inl q))
    · omega
  · rcases x.o b e with q | q
    · exact hg b (.inr (.inr q))
    · omega
theorem blF_0 (pl : Nat) (s : TS) (out : List Int) : blF 0 pl s out = stoF s out := by unfold blF; rw [if_pos rfl]
theorem blF_1 (pl : Nat) (s : TS) (out : List Int) : blF 1 pl s out = coF s fixL s.p out := by unfold blF; rw [if_neg (by omega), if_pos rfl]
theorem blF_2 (pl : Nat) (s : TS) (out : List Int) : blF 2 pl s out = dyF s out := by unfold blF; rw [if_neg (by omega), if_neg (by omega), if_pos rfl]
theorem dyF_go {s : TS} {out : List Int} {F : LO} (h : F = lnF 273 s []) (h0 : F.e = 0) : dyF s out = coF F.s F.l s.p out := by unfold dyF; rw [← h, if_neg (by omega)]
theorem dyF_no {s : TS} {out : List Int} {F : LO} (h : F = lnF 273 s []) (h0 : F.e ≠ 0) : dyF s out = ⟨out, F.e, F.pl, F.s⟩ := by unfold dyF; rw [← h, if_pos h0]
set_option maxHeartbeats 1600000 in
theorem token_spec (h : Heap) (M : Nat) (ta : Option Addr) (tc : Nat) (s : TS) (oa : Option Addr) (oc : Nat) (out : List Int) (dw : DW h M ta tc s oa oc out) (A : Nat) (la cb : Option Addr) (lfa : Nat → Nat) (ka : MK h A la cb lfa 265) (Bc : Nat) (lb kb : Option Addr) (lfb : Nat → Nat) (kB : MK h Bc lb kb lfb 8) (cdB : ∀ b, KOb Bc lb kb b → ¬ Hot M ta oa b) :
    FC Tryz.prog 120 (#[.pointer (some ⟨M, 0, none⟩), .pointer (some ⟨A, 0, none⟩), .pointer (some ⟨Bc, 0, none⟩), .slice oa out.length oc] : Array Value) h fun rv h' => ∃ ta' tc' oa' oc', rv = .tuple #[.slice oa' (tkF s lfa lfb out).out.length oc', .bool (tkF s lfa lfb out).dn, .int .i64 (((tkF s lfa lfb out).e : Nat) : Int)] ∧ DW h' M ta' tc' (tkF s lfa lfb out).s oa' oc' (tkF s lfa lfb out).out ∧ DX M h h' ta ta' oa oa' := by
  have hob : (0 : Nat) = 0 := rfl
  have hol := dw.ln
  refine FC_of [(0, .pointer (some ⟨M, 0, none⟩)), (1, .pointer (some ⟨A, 0, none⟩)), (2, .pointer (some ⟨Bc, 0, none⟩)), (3, .slice oa out.length oc)] Tryz.func120 rfl Tryz.ntmps120 (by simp) rfl (fun R hR => ?_)
  refine V_sr T.mix (by kernel_rfl) (fun K1 hK1 => ?_)
  refine S_as rfl ?_
  refine S_as rfl ?_
  refine S_as rfl ?_
  refine S_nil (hK1 _ _ (V_keep [0, 1, 2, 3] (by simp only [proj, lk, reduceIte, Nat.reduceEqDiff]; rfl) ?_)); clear hK1
  refine V_sr T.mix (by kernel_rfl) (fun K2 hK2 => ?_)
  refine S_mv rfl ?_
  refine S_mv rfl ?_
  refine S_call T.hb150 rfl ?_
  refine FC.mono (symbol_spec h M _ _ s dw.mt A la cb lfa 265 ka) ?_
  rintro v' h1 ⟨hv', ta1, tc1, mt1, mx1⟩
  obtain ⟨y, hy⟩ : ∃ y, y = syF s lfa 265 := ⟨_, rfl⟩
  rw [← hy] at hv' mt1
  subst hv'
  obtain ⟨dw1, dx1⟩ := dw.mex mt1 mx1
  have hTT : tkF s lfa lfb out = if y.e ≠ 0 ∨ y.v = 256 then ⟨out, true, y.e, y.s⟩ else if y.v < 256 then (if 256 ≤ out.length then ⟨out, true, 10, y.s⟩ else ⟨out ++ [(y.v : Int)], false, 0, y.s⟩) else tkC y.s lfb y.v out := by unfold tkF; rw [← hy]
  have hy5 : y.e = 0 → y.v < 265 := fun e => by rw [hy] at e ⊢; exact (sy_ok e).1
  have kB1 := MK.ext' kB mx1.1 (fun b e z => cdB b e (hot_of z))
  refine S_mv rfl ?_
  refine S_ex rfl rfl ?_
  refine S_ex rfl rfl ?_
  refine S_as rfl ?_
  refine S_as rfl ?_
  refine S_nil (hK2 _ _ (V_keep [0, 2, 3, 11, 12] (by simp only [proj, lk, reduceIte, Nat.reduceEqDiff]; rfl) ?_)); clear hK2
  refine V_seq (fun K3 hK3 => ?_)
  refine V_sr T.mix (by kernel_rfl) (fun K4 hK4 => ?_)
  refine S_cut (K' := fun l h' => ∃ b : Bool, (b = true ↔ (y.e ≠ 0 ∨ y.v = 256)) ∧ l = [(0, .pointer (some ⟨M, 0, none⟩)), (2, .pointer (some ⟨Bc, 0, none⟩)), (3, .slice oa out.length oc), (11, .int .i64 (y.v : Int)), (12, .int .i64 (y.e : Int)), (32, .bool b)] ∧ h1 = h') ?_ ?_
  · skip
    refine S_mv rfl ?_
    refine S_bin rfl rfl rfl ?_
    refine S_mv rfl ?_
    refine S_dec (fun g112 => ?_) (fun g112 => ?_)
    · skip
      refine S_gf rfl ?_
      refine S_gf rfl ?_
      refine S_pt rfl rfl ?_
      exact S_nilk [0, 2, 3, 11, 12, 32] (by simp only [proj, lk, reduceIte, Nat.reduceEqDiff]; rfl) ⟨_, (by first | (simp only [decide_eq_true_eq]; omega) | (simp; omega)), rfl, rfl⟩
    · skip
      refine S_gt rfl ?_
      refine S_mv rfl ?_
      refine S_gt rfl ?_
      refine S_bin rfl rfl rfl ?_
      refine S_pf rfl rfl ?_
      exact S_nilk [0, 2, 3, 11, 12, 32] (by simp only [proj, lk, reduceIte, Nat.reduceEqDiff]; rfl) ⟨_, (by first | (simp only [decide_eq_true_eq]; omega) | (simp; omega)), rfl, rfl⟩
  rintro l h' ⟨b, hb112, rfl, rfl⟩
  refine hK4 _ _ ?_; clear hK4
  refine V_condb rfl (fun c112 => ?_) (fun c112 => ?_)
  · replace c112 := hb112.1 c112
    refine V_sr T.mix (by kernel_rfl) (fun K6 hK6 => ?_)
    refine S_mv rfl ?_
    refine S_mv rfl ?_
    refine S_as rfl ?_
    refine S_as rfl ?_
    refine S_as rfl ?_
    refine S_nil (hK6 _ _ (V_keep [8, 9, 10] (by simp only [proj, lk, reduceIte, Nat.reduceEqDiff]; rfl) ?_)); clear hK6
    refine V_ret ?_
    refine hR _ _ (ret3 rfl rfl rfl rfl ?_)
    rw [hTT, if_pos (by omega)]
    exact ⟨ta1, tc1, oa, oc, rfl, dw1, dx1⟩
  · replace c112 : ¬ _ := fun hp => Bool.false_ne_true (c112.symm.trans (hb112.2 hp))
    refine V_skipk [0, 2, 3, 11] (by simp only [proj, lk, reduceIte, Nat.reduceEqDiff]; rfl) ?_
    refine hK3 _ _ ?_; clear hK3
    refine V_seq (fun K7 hK7 => ?_)
    refine V_sr T.mix (by kernel_rfl) (fun K8 hK8 => ?_)
    refine S_mv rfl ?_
    refine S_bin rfl rfl rfl ?_
    refine S_nil (hK8 _ _ (V_keep [0, 2, 3, 11, 36] (by simp only [proj, lk, reduceIte, Nat.reduceEqDiff]; rfl) ?_)); clear hK8
    refine V_condp rfl (fun c115 => ?_) (fun c115 => ?_)
    · skip
      have hyl : y.v < 256 := by omega
      refine V_seq (fun K9 hK9 => ?_)
      refine V_sr T.mix (by kernel_rfl) (fun K10 hK10 => ?_)
      refine S_mv rfl ?_
      refine S_lenl T.el55 rfl ?_
      refine S_bin rfl rfl rfl ?_
      refine S_nil (hK10 _ _ (V_keep [3, 11, 39] (by simp only [proj, lk, reduceIte, Nat.reduceEqDiff]; rfl) ?_)); clear hK10
      refine V_condp rfl (fun c116 => ?_) (fun c116 => ?_)
      · skip
        refine V_sr T.mix (by kernel_rfl) (fun K11 hK11 => ?_)
        refine S_mv rfl ?_
        refine S_as rfl ?_
        refine S_as rfl ?_
        refine S_as rfl ?_
        refine S_nil (hK11 _ _ (V_keep [8, 9, 10] (by simp only [proj, lk, reduceIte, Nat.reduceEqDiff]; rfl) ?_)); clear hK11
        refine V_ret ?_
        refine hR _ _ (ret3 rfl rfl rfl rfl ?_)
        rw [hTT, if_neg (by omega), if_pos hyl, if_pos (by omega)]
        exact ⟨ta1, tc1, oa, oc, rfl, dw1, dx1⟩
      · skip
        refine V_skipk [3, 11] (by simp only [proj, lk, reduceIte, Nat.reduceEqDiff]; rfl) ?_
        refine hK9 _ _ ?_; clear hK9
        refine V_sr T.mix (by kernel_rfl) (fun K12 hK12 => ?_)
        refine S_mv rfl ?_
        refine S_mv rfl ?_
        refine S_cvb T.us3 T.in5 rfl (by omega) (by omega) ?_
        refine S_bs T.ei55 rfl (by decide) (by decide) (T.bs55_1_0 _) ?_
        refine S_appx (lo := 0) T.ei55 T.ni55 T.us55 rfl rfl rfl (OwnR.ext dw1.ob (Ext.push (fun _ => False) _ _) (fun _ _ f => f)) (Nat.zero_le _) (cellsH_new _ _ _) rfl (by omega) (by decide) (by decide) rfl (fun oa3 oc3 h3 ho3 hE3 hb3 => ?_)
        have hF3 : Ext (fun b => blkA oa = some b) h1 h3 := (Ext.push _ _ _).trans hE3
        have hG3 : blkA oa3 = blkA oa ∨ ∃ b, blkA oa3 = some b ∧ h1.size ≤ b := by rcases hb3 with q | q; (exact .inl q); (exact .inr ⟨_, q, by simp⟩)
        obtain ⟨dw3, dx3⟩ := dw1.app (OB.app ho3) hF3 hG3 (by rw [List.length_append]; simp only [List.length_cons, List.length_nil]; omega)
        rw [show out.length + 1 = (out ++ [(y.v : Int)]).length by simp]
        refine S_as rfl ?_
        refine S_as rfl ?_
        refine S_as rfl ?_
        refine S_nil (hK12 _ _ (V_keep [8, 9, 10] (by simp only [proj, lk, reduceIte, Nat.reduceEqDiff]; rfl) ?_)); clear hK12
        refine V_ret ?_
        refine hR _ _ (ret3 rfl rfl rfl rfl ?_)
        rw [hTT, if_neg (by omega), if_pos hyl, if_neg (by omega)]
        exact ⟨ta1, tc1, oa3, oc3, rfl, dw3, dx1.trans dx3⟩
    · skip
      refine V_skipk [0, 2, 3, 11] (by simp only [proj, lk, reduceIte, Nat.reduceEqDiff]; rfl) ?_
      refine hK7 _ _ ?_; clear hK7
      refine V_sr T.mix (by kernel_rfl) (fun K13 hK13 => ?_)
      refine S_mv rfl ?_
      refine S_mv rfl ?_
      refine S_call T.hb150 rfl ?_
      refine FC.mono (symbol_spec h1 M _ _ y.s dw1.mt Bc lb kb lfb 8 kB1) ?_
      rintro v' h2 ⟨hv', ta2, tc2, mt2, mx2⟩
      obtain ⟨z, hz⟩ : ∃ z, z = syF y.s lfb 8 := ⟨_, rfl⟩
      rw [← hz] at hv' mt2
      subst hv'
      obtain ⟨dw2, dx2⟩ := dw1.mex mt2 mx2
      have hC : tkC y.s lfb y.v out = if z.e ≠ 0 then ⟨out, true, z.e, z.s⟩ else if skipE z.s (dM z.v) ≠ 0 then ⟨out, true, skipE z.s (dM z.v), z.s⟩ else if out.length < dB z.v + takeV z.s (dM z.v) then ⟨out, true, 9, skipS z.s (dM z.v)⟩ else if 256 < out.length + (y.v - 254) then ⟨out, true, 10, skipS z.s (dM z.v)⟩ else ⟨cpy out (dB z.v + takeV z.s (dM z.v)) (y.v - 254), false, 0, skipS z.s (dM z.v)⟩ := by unfold tkC; rw [← hz]
      rw [if_neg (by omega), if_neg (by omega), hC] at hTT
      have hz8 : z.e = 0 → z.v < 8 := fun e => by rw [hz] at e ⊢; exact (sy_ok e).1
      refine S_mv rfl ?_
      refine S_ex rfl rfl ?_
      refine S_ex rfl rfl ?_
      refine S_as rfl ?_
      refine S_as rfl ?_
      refine S_nil (hK13 _ _ (V_keep [0, 3, 11, 13, 14] (by simp only [proj, lk, reduceIte, Nat.reduceEqDiff]; rfl) ?_)); clear hK13
      refine V_seq (fun K14 hK14 => ?_)
      refine V_sr T.mix (by kernel_rfl) (fun K15 hK15 => ?_)
      refine S_mv rfl ?_
      refine S_bin rfl rfl rfl ?_
      refine S_nil (hK15 _ _ (V_keep [0, 3, 11, 13, 14, 53] (by simp only [proj, lk, reduceIte, Nat.reduceEqDiff]; rfl) ?_)); clear hK15
      refine V_condp rfl (fun c122 => ?_) (fun c122 => ?_)
      · skip
        refine V_sr T.mix (by kernel_rfl) (fun K16 hK16 => ?_)
        refine S_mv rfl ?_
        refine S_mv rfl ?_
        refine S_as rfl ?_
        refine S_as rfl ?_
        refine S_as rfl ?_
        refine S_nil (hK16 _ _ (V_keep [8, 9, 10] (by simp only [proj, lk, reduceIte, Nat.reduceEqDiff]; rfl) ?_)); clear hK16
        refine V_ret ?_
        refine hR _ _ (ret3 rfl rfl rfl rfl ?_)
        rw [hTT, if_pos (by omega)]
        exact ⟨ta2, tc2, oa, oc, rfl, dw2, dx1.trans dx2⟩
      · skip
        refine V_skipk [0, 3, 11, 13] (by simp only [proj, lk, reduceIte, Nat.reduceEqDiff]; rfl) ?_
        refine hK14 _ _ ?_; clear hK14
        refine V_sr T.mix (by kernel_rfl) (fun K17 hK17 => ?_)
        refine S_mv rfl ?_
        refine S_call T.hb108 rfl ?_
        refine FC.mono (distbase_spec h2 z.v (hz8 (by omega))) ?_
        rintro v' h' ⟨rfl, rfl⟩
        refine S_mv rfl ?_
        refine S_ex rfl rfl ?_
        refine S_ex rfl rfl ?_
        refine S_as rfl ?_
        refine S_as rfl ?_
        refine S_nil (hK17 _ _ (V_keep [0, 3, 11, 15, 16] (by simp only [proj, lk, reduceIte, Nat.reduceEqDiff]; rfl) ?_)); clear hK17
        refine V_sr T.mix (by kernel_rfl) (fun K18 hK18 => ?_)
        refine S_mv rfl ?_
        refine S_mv rfl ?_
        refine S_call T.hb86 rfl ?_
        refine FC.mono (BitW.mtake_spec h2 M _ _ z.s dw2.mt ((dM z.v : Int))) ?_
        rintro v' h3 ⟨hv', tac, tcc, mtc, mxc⟩
        obtain ⟨ec, hec⟩ : ∃ x, x = skipE z.s ((dM z.v : Int)) := ⟨_, rfl⟩
        obtain ⟨cc, hcc⟩ : ∃ x, x = takeV z.s ((dM z.v : Int)) := ⟨_, rfl⟩
        obtain ⟨sc, hsc⟩ : ∃ x, x = skipS z.s ((dM z.v : Int)) := ⟨_, rfl⟩
        rw [← hec, ← hcc] at hv'
        rw [← hsc] at mtc
        subst hv'
        obtain ⟨dwc, dxc⟩ := dw2.mex mtc mxc
        rw [← hec, ← hcc, ← hsc, if_neg (by omega)] at hTT
        have hcc4 : cc < 4 := by rw [hcc]; exact take4
        have hb13 := dB_le (hz8 (by omega))
        have dx3 := (dx1.trans dx2).trans dxc
        refine S_mv rfl ?_
        refine S_ex rfl rfl ?_
        refine S_ex rfl rfl ?_
        refine S_as rfl ?_
        refine S_as rfl ?_
        refine S_nil (hK18 _ _ (V_keep [3, 11, 15, 17, 18] (by simp only [proj, lk, reduceIte, Nat.reduceEqDiff]; rfl) ?_)); clear hK18
        refine V_seq (fun K19 hK19 => ?_)
        refine V_sr T.mix (by kernel_rfl) (fun K20 hK20 => ?_)
        refine S_mv rfl ?_
        refine S_bin rfl rfl rfl ?_
        refine S_nil (hK20 _ _ (V_keep [3, 11, 15, 17, 18, 68] (by simp only [proj, lk, reduceIte, Nat.reduceEqDiff]; rfl) ?_)); clear hK20
        refine V_condp rfl (fun c127 => ?_) (fun c127 => ?_)
        · skip
          refine V_sr T.mix (by kernel_rfl) (fun K21 hK21 => ?_)
          refine S_mv rfl ?_
          refine S_mv rfl ?_
          refine S_as rfl ?_
          refine S_as rfl ?_
          refine S_as rfl ?_
          refine S_nil (hK21 _ _ (V_keep [8, 9, 10] (by simp only [proj, lk, reduceIte, Nat.reduceEqDiff]; rfl) ?_)); clear hK21
          refine V_ret ?_
          refine hR _ _ (ret3 rfl rfl rfl rfl ?_)
          rw [hTT, if_pos (by omega)]
          exact ⟨tac, tcc, oa, oc, rfl, by simp only []; rw [hsc, BitW.skipS_ne (by rw [← hec]; omega)] at dwc; exact dwc, dx3⟩
        · skip
          refine V_skipk [3, 11, 15, 17] (by simp only [proj, lk, reduceIte, Nat.reduceEqDiff]; rfl) ?_
          refine hK19 _ _ ?_; clear hK19
          refine V_sr T.mix (by kernel_rfl) (fun K22 hK22 => ?_)
          refine S_mv rfl ?_
          have hyv := hy5 (by omega)
          refine S_subN (y.v - 256) rfl rfl (by omega) (by omega) ?_
          refine S_subN (y.v - 257) rfl rfl (by omega) (by omega) ?_
          refine S_addN (y.v - 254) rfl rfl (by omega) (by omega) ?_
          refine S_as rfl ?_
          refine S_nil (hK22 _ _ (V_keep [3, 15, 17, 19] (by simp only [proj, lk, reduceIte, Nat.reduceEqDiff]; rfl) ?_)); clear hK22
          refine V_seq (fun K23 hK23 => ?_)
          refine V_sr T.mix (by kernel_rfl) (fun K24 hK24 => ?_)
          refine S_mv rfl ?_
          refine S_mv rfl ?_
          refine S_addN (dB z.v + cc) rfl rfl (by omega) (by omega) ?_
          refine S_mv rfl ?_
          refine S_lenl T.el55 rfl ?_
          refine S_bin rfl rfl rfl ?_
          refine S_nil (hK24 _ _ (V_keep [3, 15, 17, 19, 80] (by simp only [proj, lk, reduceIte, Nat.reduceEqDiff]; rfl) ?_)); clear hK24
          refine V_condp rfl (fun c131 => ?_) (fun c131 => ?_)
          · skip
            refine V_sr T.mix (by kernel_rfl) (fun K25 hK25 => ?_)
            refine S_mv rfl ?_
            refine S_as rfl ?_
            refine S_as rfl ?_
            refine S_as rfl ?_
            refine S_nil (hK25 _ _ (V_keep [8, 9, 10] (by simp only [proj, lk, reduceIte, Nat.reduceEqDiff]; rfl) ?_)); clear hK25
            refine V_ret ?_
            refine hR _ _ (ret3 rfl rfl rfl rfl ?_)
            rw [hTT, if_neg (by omega), if_pos (by omega)]
            exact ⟨tac, tcc, oa, oc, rfl, dwc, dx3⟩
          · skip
            refine V_skipk [3, 15, 17, 19] (by simp only [proj, lk, reduceIte, Nat.reduceEqDiff]; rfl) ?_
            refine hK23 _ _ ?_; clear hK23
            refine V_seq (fun K26 hK26 => ?_)
            refine V_sr T.mix (by kernel_rfl) (fun K27 hK27 => ?_)
            refine S_mv rfl ?_
            refine S_lenl T.el55 rfl ?_
            refine S_mv rfl ?_
            first | refine S_add rfl rfl (by omega) (by omega) ?_ | refine S_bin rfl rfl rfl ?_
            refine S_bin rfl rfl rfl ?_
            refine S_nil (hK27 _ _ (V_keep [3, 15, 17, 19, 86] (by simp only [proj, lk, reduceIte, Nat.reduceEqDiff]; rfl) ?_)); clear hK27
            refine V_condp rfl (fun c134 => ?_) (fun c134 => ?_)
            · skip
              refine V_sr T.mix (by kernel_rfl) (fun K28 hK28 => ?_)
              refine S_mv rfl ?_
              refine S_as rfl ?_
              refine S_as rfl ?_
              refine S_as rfl ?_
              refine S_nil (hK28 _ _ (V_keep [8, 9, 10] (by simp only [proj, lk, reduceIte, Nat.reduceEqDiff]; rfl) ?_)); clear hK28
              refine V_ret ?_
              refine hR _ _ (ret3 rfl rfl rfl rfl ?_)
              rw [hTT, if_neg (by omega), if_neg (by omega), if_pos (by omega)]
              exact ⟨tac, tcc, oa, oc, rfl, dwc, dx3⟩
            · skip
              refine V_skipk [3, 15, 17, 19] (by simp only [proj, lk, reduceIte, Nat.reduceEqDiff]; rfl) ?_
              refine hK26 _ _ ?_; clear hK26
              refine V_seq (fun K29 hK29 => ?_)
              refine V_sr T.mix (by kernel_rfl) (fun K30 hK30 => ?_)
              refine S_as rfl ?_
              refine S_nil (hK30 _ _ (V_keep [3, 15, 17, 19, 20] (by simp only [proj, lk, reduceIte, Nat.reduceEqDiff]; rfl) ?_)); clear hK30
              refine V_block ?_
              refine V_loop (fun m l h' => ∃ (k : Nat) (hk : Heap) (oak : Option Addr) (ock : Nat), (k ≤ y.v - 254) ∧ (DW hk M tac tcc sc oak ock (cpy out (dB z.v + cc) k)) ∧ (DX M h hk ta tac oa oak) ∧ m = y.v - 254 - k ∧ l = [(3, .slice oak (cpy out (dB z.v + cc) k).length ock), (15, .int .i64 ((dB z.v : Nat) : Int)), (17, .int .i64 (cc : Int)), (19, .int .i64 ((y.v - 254 : Nat) : Int)), (20, .int .i64 (k : Int))] ∧ hk = h') _ ⟨0, h3, oa, oc, Nat.zero_le _, dwc, dx3, rfl, rfl, rfl⟩ ?_
              rintro m l h' ⟨k, hk, oak, ock, hkn, dwk, dxk, rfl, rfl, rfl⟩ K31 hK31
              have hcl := cpy_len out (dB z.v + cc) k
              refine V_seq (fun K32 hK32 => ?_)
              refine V_sr T.mix (by kernel_rfl) (fun K33 hK33 => ?_)
              refine S_mv rfl ?_
              refine S_mv rfl ?_
              refine S_bin rfl rfl rfl ?_
              refine S_nil (hK33 _ _ (V_keep [3, 15, 17, 19, 20, 90] (by simp only [proj, lk, reduceIte, Nat.reduceEqDiff]; rfl) ?_)); clear hK33
              refine V_condp rfl (fun c137 => ?_) (fun c137 => ?_)
              · skip
                clear hob
                obtain ⟨ob, rfl, hob⟩ := dwk.ob.get (by omega)
                refine V_skipk [3, 15, 17, 19, 20] (by simp only [proj, lk, reduceIte, Nat.reduceEqDiff]; rfl) ?_
                refine hK32 _ _ ?_; clear hK32
                refine V_seq (fun K34 hK34 => ?_)
                refine V_block ?_
                refine V_reg T.mix (by kernel_rfl) ?_
                refine S_mv rfl ?_
                refine S_mv rfl ?_
                refine S_mv rfl ?_
                refine S_lenl T.el55 rfl ?_
                refine S_mv rfl ?_
                refine S_subN ((cpy out (dB z.v + cc) k).length - dB z.v) rfl rfl (by omega) (by omega) ?_
                refine S_mv rfl ?_
                refine S_subN ((cpy out (dB z.v + cc) k).length - (dB z.v + cc)) rfl rfl (by omega) (by omega) ?_
                first | refine S_ixn T.el55 rfl rfl (by omega) ?_ | refine S_ix1 T.el55 rfl rfl (by omega) (by omega) ?_ | refine S_ix T.el55 rfl rfl (by omega) (by omega) ?_
                refine S_ldK T.ag5 rfl (fun K' hK' => ?_)
                simp (disch := omega) only [hob, oP_some, Nat.add_zero]
                refine hK' _ ?_; clear hK' K'
                refine S_bs T.ei55 rfl (by decide) (by decide) (T.bs55_1_0 _) ?_
                refine S_appx (lo := 0) T.ei55 T.ni55 T.us55 rfl rfl rfl (OwnR.ext dwk.ob (Ext.push (fun _ => False) _ _) (fun _ _ f => f)) (Nat.zero_le _) (cellsH_new _ _ _) rfl (by omega) (by decide) (by decide) rfl (fun oa4 oc4 h4 ho4 hE4 hb4 => ?_)
                have hF4 : Ext (fun b => blkA (some ⟨ob, 0, none⟩) = some b) hk h4 := (Ext.push _ _ _).trans hE4
                have hG4 : blkA oa4 = blkA (some ⟨ob, 0, none⟩) ∨ ∃ b, blkA oa4 = some b ∧ hk.size ≤ b := by rcases hb4 with q | q; (exact .inl q); (exact .inr ⟨_, q, by simp⟩)
                obtain ⟨dw4, dx4⟩ := dwk.app (OB.app ho4) hF4 hG4 (by rw [List.length_append]; simp only [List.length_cons, List.length_nil]; omega)
                rw [show (cpy out (dB z.v + cc) k).length + 1 = ((cpy out (dB z.v + cc) k) ++ [((cpy out (dB z.v + cc) k).getD ((cpy out (dB z.v + cc) k).length - (dB z.v + cc)) 0)]).length by simp]
                refine S_as rfl ?_
                refine S_nilk [3, 15, 17, 19, 20] (by simp only [proj, lk, reduceIte, Nat.reduceEqDiff]; rfl) ?_
                refine hK34 _ _ ?_; clear hK34
                refine V_reg T.mix (by kernel_rfl) ?_
                refine S_mv rfl ?_
                first | refine S_add rfl rfl (by omega) (by omega) ?_ | refine S_bin rfl rfl rfl ?_
                refine S_as rfl ?_
                refine S_nilk [3, 15, 17, 19, 20] (by simp only [proj, lk, reduceIte, Nat.reduceEqDiff]; rfl) ?_
                exact hK31 _ _ ⟨_, by omega, k + 1, h4, oa4, oc4, by omega, dw4, dxk.trans dx4, rfl, rfl, rfl⟩
              · skip
                refine V_exitk [3] rfl (by simp only [proj, lk, reduceIte, Nat.reduceEqDiff]; rfl) ?_
                refine hK29 _ _ ?_; clear hK29
                refine V_sr T.mix (by kernel_rfl) (fun K35 hK35 => ?_)
                refine S_mv rfl ?_
                refine S_as rfl ?_
                refine S_as rfl ?_
                refine S_as rfl ?_
                refine S_nil (hK35 _ _ (V_keep [8, 9, 10] (by simp only [proj, lk, reduceIte, Nat.reduceEqDiff]; rfl) ?_)); clear hK35
                refine V_ret ?_
                refine hR _ _ (ret3 rfl rfl rfl rfl ?_)
                have hk9 : k = y.v - 254 := by omega
                rw [hTT, if_neg (by omega), if_neg (by omega), if_neg (by omega), ← hk9]
                exact ⟨tac, tcc, oak, ock, rfl, dwk, dxk⟩
set_option maxHeartbeats 3200000 in
theorem mcoded_spec (h : Heap) (M : Nat) (ta : Option Addr) (tc : Nat) (s : TS) (oa : Option Addr) (oc : Nat) (out : List Int) (dw : DW h M ta tc s oa oc out) (lb : Nat) (ql : List Nat) (hl : ql.length = 273) (bl : B h lb (ia 273 fun j => ql.getD j 0) 3) (head : Nat) :
    FC Tryz.prog 88 (#[.pointer (some ⟨M, 0, none⟩), .slice (some ⟨lb, 0, none⟩) 273 273, .int .i64 (head : Int), .slice oa out.length oc] : Array Value) h fun rv h' => ∃ ta' tc' oa' oc', rv = .tuple #[.slice oa' ((coF s ql head out)).out.length oc', .int .i64 ((((coF s ql head out)).e : Nat) : Int), .int .i64 ((((coF s ql head out)).pl : Nat) : Int)] ∧ DW h' M ta' tc' ((coF s ql head out)).s oa' oc' ((coF s ql head out)).out ∧ DX M h h' ta ta' oa oa' := by
  have al := ia_at bl
  have hlb := bl.lt
  have hdl : ∀ b, Hot M ta oa b → b < h.size := fun b e => dw.lt e
  refine FC_of [(0, .pointer (some ⟨M, 0, none⟩)), (1, .slice (some ⟨lb, 0, none⟩) 273 273), (2, .int .i64 (head : Int)), (3, .slice oa out.length oc)] Tryz.func88 rfl Tryz.ntmps88 (by simp) rfl (fun R hR => ?_)
  refine V_sr T.mix (by kernel_rfl) (fun K1 hK1 => ?_)
  refine S_as rfl ?_
  refine S_as rfl ?_
  refine S_as rfl ?_
  refine S_nil (hK1 _ _ (V_keep [0, 1, 2, 3] (by simp only [proj, lk, reduceIte, Nat.reduceEqDiff]; rfl) ?_)); clear hK1
  refine V_sr T.mix (by kernel_rfl) (fun K2 hK2 => ?_)
  refine S_call T.hb26 rfl ?_
  refine FC.mono (hmnew_spec h) ?_
  rintro v' h1 ⟨rfl, kA1, hE1⟩
  have hz1 := kA1.t.lt
  refine S_as rfl ?_
  refine S_nil (hK2 _ _ (V_keep [0, 1, 2, 3, 11] (by simp only [proj, lk, reduceIte, Nat.reduceEqDiff]; rfl) ?_)); clear hK2
  refine V_sr T.mix (by kernel_rfl) (fun K3 hK3 => ?_)
  refine S_call T.hb26 rfl ?_
  refine FC.mono (hmnew_spec h1) ?_
  rintro v' h2 ⟨rfl, kB2, hE2⟩
  have hE02 := hE1.trans hE2
  have kA2 := kA1.new hE2
  have bl2 := bl.ext hE02 (fun f => f)
  have hz2 := kB2.t.lt
  refine S_as rfl ?_
  refine S_nil (hK3 _ _ (V_keep [0, 1, 2, 3, 11, 12] (by simp only [proj, lk, reduceIte, Nat.reduceEqDiff]; rfl) ?_)); clear hK3
  refine V_sr T.mix (by kernel_rfl) (fun K4 hK4 => ?_)
  refine S_mv rfl ?_
  refine S_mv rfl ?_
  refine S_sl rfl rfl rfl (sliceV_hi T.el56 (by omega) (by omega)) ?_
  rw [show Int.toNat 265 = 265 from rfl]
  refine S_call T.hb112 rfl ?_
  have hbc := mbuild_spec h2 h.size none none (fun _ => 0) 0 kA2 (some ⟨lb, 0, none⟩) 273 (lA ql) (by have h9 := OLcA bl2 273; rw [cA_l hl] at h9; exact h9) (fun z e => by cases e; show lb ≠ _; omega)
  rw [lA_len hl] at hbc
  refine FC.mono hbc ?_
  rintro v' h3 ⟨hv', hno3, hyes3, hE3⟩
  obtain ⟨ea, hea⟩ : ∃ x, x = lensE (lA ql) := ⟨_, rfl⟩
  rw [← hea] at hv' hno3 hyes3
  subst hv'
  have bl3 := bl2.ext hE3 (show ¬ (lb = h.size) by omega)
  have hz3 := hE3.1
  have kB3 := kB2.ext hE3 (show ¬ (h1.size = h.size) by omega) (fun _ e => by cases e) (fun _ e => by cases e)
  have hE03 : Ext (fun b => h.size ≤ b) h h3 := (hE02.mono fun _ f => f.elim).trans (hE3.mono fun b e => by omega)
  refine S_as rfl ?_
  refine S_nil (hK4 _ _ (V_keep [0, 1, 2, 3, 11, 12, 13] (by simp only [proj, lk, reduceIte, Nat.reduceEqDiff]; rfl) ?_)); clear hK4
  refine V_seqJ (fun l h' => ∃ (h4 : Heap) (e2 : Nat), (e2 = if lensE (lA ql) ≠ 0 then lensE (lA ql) else lensE (lB ql)) ∧ (e2 = 0 → KK2 h4 h.size h.size h1.size M ta oa (Huf.cf (lA ql)) (Huf.cf (lB ql))) ∧ (Ext (fun b => h.size ≤ b) h h4) ∧ l = [(0, .pointer (some ⟨M, 0, none⟩)), (1, .slice (some ⟨lb, 0, none⟩) 273 273), (2, .int .i64 (head : Int)), (3, .slice oa out.length oc), (11, .pointer (some ⟨h.size, 0, none⟩)), (12, .pointer (some ⟨h1.size, 0, none⟩)), (13, .int .i64 (e2 : Int))] ∧ h4 = h') ?_ ?_
  · skip
    refine V_sr T.mix (by kernel_rfl) (fun K6 hK6 => ?_)
    refine S_mv rfl ?_
    refine S_bin rfl rfl rfl ?_
    refine S_nil (hK6 _ _ (V_keep [0, 1, 2, 3, 11, 12, 13, 23] (by simp only [proj, lk, reduceIte, Nat.reduceEqDiff]; rfl) ?_)); clear hK6
    refine V_condp rfl (fun c148 => ?_) (fun c148 => ?_)
    · skip
      refine V_reg T.mix (by kernel_rfl) ?_
      refine S_mv rfl ?_
      refine S_mv rfl ?_
      refine S_sl rfl rfl rfl (sliceV_lo (p := 265) T.el56 (by omega) (by omega) (by omega)) ?_
      simp only [Nat.zero_add, Nat.reduceMul, Nat.reduceSub]
      refine S_call T.hb112 rfl ?_
      have hbc := mbuild_spec h3 h1.size none none (fun _ => 0) 0 kB3 (some ⟨lb, 265, none⟩) 8 (lB ql) (by have h9 := OLcB bl3 8; rw [cB_l hl] at h9; exact h9) (fun z e => by cases e; show lb ≠ _; omega)
      rw [lB_len hl] at hbc
      refine FC.mono hbc ?_
      rintro v' h4 ⟨hv', hno4, hyes4, hE4⟩
      obtain ⟨eb, heb⟩ : ∃ x, x = lensE (lB ql) := ⟨_, rfl⟩
      rw [← heb] at hv' hno4 hyes4
      subst hv'
      obtain ⟨la2, cb2, kA3, hA1, hA2⟩ := hyes3 (by omega)
      have kA4 := kA3.ext hE4 (show ¬ (h.size = h1.size) by omega) (fun b e z => by have h9 := hA1 b e; omega) (fun b e z => by have h9 := hA2 b e; omega)
      refine S_as rfl ?_
      refine S_nilk [0, 1, 2, 3, 11, 12, 13] (by simp only [proj, lk, reduceIte, Nat.reduceEqDiff]; rfl) ?_
      refine ⟨h4, eb, by rw [← hea, ← heb, if_neg (by omega)], fun z => ?_, hE03.trans (hE4.mono fun b e => by omega), rfl, rfl⟩
      obtain ⟨lb2, kb2, kB4, hB1, hB2⟩ := hyes4 z
      refine ⟨la2, cb2, lb2, kb2, kA4, kB4, fun b e => ?_, fun b e => ?_⟩
      · have hq : h.size ≤ b := by rcases e with e | e | e; (omega); (have h9 := hA1 b e; omega); (have h9 := hA2 b e; omega)
        exact ⟨fun z => by have h9 := hdl b z; omega, hq⟩
      · have hq : h.size ≤ b := by rcases e with e | e | e; (omega); (have h9 := hB1 b e; omega); (have h9 := hB2 b e; omega)
        exact ⟨fun z => by have h9 := hdl b z; omega, hq⟩
    · skip
      refine V_skipk [0, 1, 2, 3, 11, 12, 13] (by simp only [proj, lk, reduceIte, Nat.reduceEqDiff]; rfl) ?_
      exact ⟨h3, ea, by rw [← hea, if_pos (by omega)], fun z => by omega, hE03, rfl, rfl⟩
  rintro l h' ⟨h4, e2, he2, hkk4, hE4, rfl, rfl⟩
  clear al
  have bl4 := bl.ext hE4 (show ¬ (h.size ≤ lb) by omega)
  have al := ia_at bl4
  refine V_seqJ (fun l h' => ∃ (e3 : Nat), (e3 = coE ql) ∧ (e3 = 0 → e2 = 0) ∧ l = [(0, .pointer (some ⟨M, 0, none⟩)), (2, .int .i64 (head : Int)), (3, .slice oa out.length oc), (11, .pointer (some ⟨h.size, 0, none⟩)), (12, .pointer (some ⟨h1.size, 0, none⟩)), (13, .int .i64 (e3 : Int))] ∧ h4 = h') ?_ ?_
  · skip
    refine V_sr T.mix (by kernel_rfl) (fun K8 hK8 => ?_)
    refine S_cut (K' := fun l h' => ∃ b : Bool, (b = true ↔ (e2 = 0 ∧ ql.getD 256 0 = 0)) ∧ l = [(0, .pointer (some ⟨M, 0, none⟩)), (2, .int .i64 (head : Int)), (3, .slice oa out.length oc), (11, .pointer (some ⟨h.size, 0, none⟩)), (12, .pointer (some ⟨h1.size, 0, none⟩)), (13, .int .i64 (e2 : Int)), (35, .bool b)] ∧ h4 = h') ?_ ?_
    · skip
      refine S_mv rfl ?_
      refine S_bin rfl rfl rfl ?_
      refine S_mv rfl ?_
      refine S_dec (fun g151 => ?_) (fun g151 => ?_)
      · skip
        refine S_gt rfl ?_
        refine S_mv rfl ?_
        refine S_gt rfl ?_
        first | refine S_ixn T.el56 rfl rfl (by omega) ?_ | refine S_ix1 T.el56 rfl rfl (by omega) (by omega) ?_ | refine S_ix T.el56 rfl rfl (by omega) (by omega) ?_
        refine S_gt rfl ?_
        refine S_ldK T.ag3 rfl (fun K' hK' => ?_)
        simp (disch := omega) only [al, oP_some, Nat.add_zero]
        refine hK' _ ?_; clear hK' K'
        refine S_gt rfl ?_
        refine S_bin rfl rfl rfl ?_
        refine S_pt rfl rfl ?_
        exact S_nilk [0, 2, 3, 11, 12, 13, 35] (by simp only [proj, lk, reduceIte, Nat.reduceEqDiff]; rfl) ⟨_, (by first | (simp only [decide_eq_true_eq]; omega) | (simp; omega)), rfl, rfl⟩
      · skip
        refine S_gf rfl ?_
        refine S_gf rfl ?_
        refine S_gf rfl ?_
        refine S_gf rfl ?_
        refine S_pf rfl rfl ?_
        exact S_nilk [0, 2, 3, 11, 12, 13, 35] (by simp only [proj, lk, reduceIte, Nat.reduceEqDiff]; rfl) ⟨_, (by first | (simp only [decide_eq_true_eq]; omega) | (simp; omega)), rfl, rfl⟩
    rintro l h' ⟨b, hb151, rfl, rfl⟩
    refine hK8 _ _ ?_; clear hK8
    refine V_condb rfl (fun c151 => ?_) (fun c151 => ?_)
    · replace c151 := hb151.1 c151
      refine V_reg T.mix (by kernel_rfl) ?_
      refine S_as rfl ?_
      refine S_nilk [0, 2, 3, 11, 12, 13] (by simp only [proj, lk, reduceIte, Nat.reduceEqDiff]; rfl) ?_
      have q1 : lensE (lA ql) = 0 := Classical.not_not.1 (fun z => by rw [if_pos z] at he2; omega)
      rw [if_neg (by omega)] at he2
      exact ⟨8, by unfold coE; rw [if_neg (by omega), if_neg (by omega), if_pos (by omega)], fun z => by omega, rfl, rfl⟩
    · replace c151 : ¬ _ := fun hp => Bool.false_ne_true (c151.symm.trans (hb151.2 hp))
      refine V_skipk [0, 2, 3, 11, 12, 13] (by simp only [proj, lk, reduceIte, Nat.reduceEqDiff]; rfl) ?_
      exact ⟨e2, by unfold coE; split; (rw [if_pos (by assumption)] at he2; exact he2); (rw [if_neg (by assumption)] at he2; split; (exact he2); (split; (exfalso; omega); (omega))), fun z => z, rfl, rfl⟩
  rintro l h' ⟨e3, he3, hkk3, rfl, rfl⟩
  obtain ⟨dn, hdn⟩ : ∃ dn : Bool, (dn = true ↔ e3 ≠ 0) := ⟨decide (e3 ≠ 0), by simp⟩
  have hdw4 := dw.new hE4 (fun b e z => by have h9 := hdl b e; omega)
  have hdx4 : DX M h h4 ta ta oa oa := DX.new hE4 (fun b e z => by omega)
  refine V_sr T.mix (by kernel_rfl) (fun K10 hK10 => ?_)
  refine S_mv rfl ?_
  refine S_as rfl ?_
  refine S_nil (hK10 _ _ (V_keep [0, 3, 11, 12, 13, 14] (by simp only [proj, lk, reduceIte, Nat.reduceEqDiff]; rfl) ?_)); clear hK10
  refine V_sr T.mix (by kernel_rfl) (fun K11 hK11 => ?_)
  refine S_mv rfl ?_
  refine S_bin rfl rfl rfl ?_
  refine S_as rfl ?_
  refine S_nil (hK11 _ _ (V_keep [0, 3, 11, 12, 13, 14, 15] (by simp only [proj, lk, reduceIte, Nat.reduceEqDiff]; rfl) ?_)); clear hK11
  rw [show (decide (¬ ((e3 : Nat) : Int) = 0)) = decide (dn = true) from decide_eq_decide.2 (by rw [hdn]; omega)]
  refine V_seq (fun K12 hK12 => ?_)
  refine V_block ?_
  refine V_loop (fun m l h' => ∃ (hk : Heap) (tak : Option Addr) (tck : Nat) (sk : TS) (oak : Option Addr) (ock : Nat) (outk : List Int) (ek atk : Nat) (dn : Bool), ((dn = true ∧ (coF s ql head out) = ⟨outk, ek, atk, sk⟩) ∨ (dn = false ∧ ∃ f, sk.n - sk.p < f ∧ (coF s ql head out) = cdF (Huf.cf (lA ql)) (Huf.cf (lB ql)) f sk outk)) ∧ (dn = false → KK2 hk h.size h.size h1.size M tak oak (Huf.cf (lA ql)) (Huf.cf (lB ql))) ∧ (DW hk M tak tck sk oak ock outk) ∧ (DX M h hk ta tak oa oak) ∧ m = (if dn = true then 0 else 1 + (sk.n - sk.p)) ∧ l = [(0, .pointer (some ⟨M, 0, none⟩)), (3, .slice oak outk.length ock), (11, .pointer (some ⟨h.size, 0, none⟩)), (12, .pointer (some ⟨h1.size, 0, none⟩)), (13, .int .i64 (ek : Int)), (14, .int .i64 (atk : Int)), (15, .bool (decide (dn = true)))] ∧ hk = h') _ ⟨h4, ta, tc, s, oa, oc, out, e3, head, dn, by unfold coF; rw [← he3]; cases hq : dn; (right; have h9 : e3 = 0 := Classical.not_not.1 (fun z => by rw [hdn.2 z] at hq; cases hq); rw [if_neg (by omega)]; exact ⟨rfl, 4097, by have h8 := dw.mt.ok.2.2; omega, rfl⟩); (left; rw [if_pos (hdn.1 hq)]; exact ⟨rfl, rfl⟩), fun z => hkk4 (hkk3 (Classical.not_not.1 (fun y => by rw [hdn.2 y] at z; cases z))), hdw4, hdx4, rfl, rfl, rfl⟩ ?_
  rintro m l h' ⟨hk, tak, tck, sk, oak, ock, outk, ek, atk, dn, hin, hkk, dwk, dxk, rfl, rfl, rfl⟩ K13 hK13
  refine V_seq (fun K14 hK14 => ?_)
  refine V_sr T.mix (by kernel_rfl) (fun K15 hK15 => ?_)
  refine S_mv rfl ?_
  refine S_not rfl ?_
  refine S_nil (hK15 _ _ (V_keep [0, 3, 11, 12, 13, 14, 40] (by simp only [proj, lk, reduceIte, Nat.reduceEqDiff]; rfl) ?_)); clear hK15
  refine V_condp rfl (fun c156 => ?_) (fun c156 => ?_)
  · skip
    refine V_skipk [0, 3, 11, 12] (by simp only [proj, lk, reduceIte, Nat.reduceEqDiff]; rfl) ?_
    refine hK14 _ _ ?_; clear hK14
    refine V_block ?_
    refine V_sr T.mix (by kernel_rfl) (fun K16 hK16 => ?_)
    refine S_mv rfl ?_
    refine S_call T.hb85 rfl ?_
    refine FC.mono (BitW.mpos_spec hk M _ _ sk dwk.mt) ?_
    rintro v' h' ⟨rfl, rfl⟩
    refine S_as rfl ?_
    refine S_nil (hK16 _ _ (V_keep [0, 3, 11, 12, 14] (by simp only [proj, lk, reduceIte, Nat.reduceEqDiff]; rfl) ?_)); clear hK16
    refine V_reg T.mix (by kernel_rfl) ?_
    refine S_mv rfl ?_
    refine S_mv rfl ?_
    refine S_mv rfl ?_
    refine S_mv rfl ?_
    refine S_call T.hb120 rfl ?_
    rcases hin with ⟨q, _⟩ | ⟨hdf, f, hfu, hco⟩
    · exact absurd q (by simpa using c156)
    obtain ⟨la2, cb2, lb2, kb2, k1, k2, k3, k4⟩ := hkk hdf
    refine FC.mono (token_spec hk M tak tck sk oak ock outk dwk h.size la2 cb2 (Huf.cf (lA ql)) k1 h1.size lb2 kb2 (Huf.cf (lB ql)) k2 (fun b e => (k4 b e).1)) ?_
    obtain ⟨t, ht⟩ : ∃ t, t = tkF sk (Huf.cf (lA ql)) (Huf.cf (lB ql)) outk := ⟨_, rfl⟩
    rw [← ht]
    rintro v' h6 ⟨ta6, tc6, oa6, oc6, rfl, dw6, dx6⟩
    obtain ⟨g, rfl⟩ : ∃ g, f = g + 1 := ⟨f - 1, by omega⟩
    rw [cdF_go ht] at hco
    have had := tk_ad sk (Huf.cf (lA ql)) (Huf.cf (lB ql)) outk
    rw [← ht] at had
    have hlt : t.dn = false → sk.p < t.s.p := fun e => by rw [ht] at e ⊢; exact tk_lt e
    have hsp := dwk.mt.ok.2.1
    have hsp6 := dw6.mt.ok.2.1
    have hn6 := had.n
    have hkk6 : t.dn = false → KK2 h6 h.size h.size h1.size M ta6 oa6 (Huf.cf (lA ql)) (Huf.cf (lB ql)) := fun _ => KK2.dx ⟨la2, cb2, lb2, kb2, k1, k2, k3, k4⟩ dx6
    rw [hb_eq t.dn]
    refine S_mv rfl ?_
    refine S_ex rfl rfl ?_
    refine S_ex rfl rfl ?_
    refine S_ex rfl rfl ?_
    refine S_as rfl ?_
    refine S_as rfl ?_
    refine S_as rfl ?_
    refine S_nilk [0, 3, 11, 12, 13, 14, 15] (by simp only [proj, lk, reduceIte, Nat.reduceEqDiff]; rfl) ?_
    by_cases htd : t.dn = true
    · rw [if_pos htd] at hco
      exact hK13 _ _ ⟨_, by rw [if_pos htd, hdf, if_neg (by simp)]; omega, h6, ta6, tc6, t.s, oa6, oc6, t.out, t.e, sk.p, t.dn, .inl ⟨htd, hco⟩, hkk6, dw6, dxk.trans dx6, rfl, rfl, rfl⟩
    · rw [if_neg htd] at hco
      have htf : t.dn = false := by simpa using htd
      have hl9 := hlt htf
      exact hK13 _ _ ⟨_, by rw [if_neg htd, hdf, if_neg (by simp)]; omega, h6, ta6, tc6, t.s, oa6, oc6, t.out, t.e, sk.p, t.dn, .inr ⟨htf, g, by omega, hco⟩, hkk6, dw6, dxk.trans dx6, rfl, rfl, rfl⟩
  · skip
    refine V_exitk [3, 13, 14] rfl (by simp only [proj, lk, reduceIte, Nat.reduceEqDiff]; rfl) ?_
    refine hK12 _ _ ?_; clear hK12
    refine V_sr T.mix (by kernel_rfl) (fun K17 hK17 => ?_)
    refine S_mv rfl ?_
    refine S_mv rfl ?_
    refine S_mv rfl ?_
    refine S_as rfl ?_
    refine S_as rfl ?_
    refine S_as rfl ?_
    refine S_nil (hK17 _ _ (V_keep [8, 9, 10] (by simp only [proj, lk, reduceIte, Nat.reduceEqDiff]; rfl) ?_)); clear hK17
    refine V_ret ?_
    refine hR _ _ (ret3 rfl rfl rfl rfl ?_)
    have hRR : (coF s ql head out) = ⟨outk, ek, atk, sk⟩ := by
      rcases hin with ⟨_, q⟩ | ⟨q, _⟩
      · exact q
      · exfalso; exact c156 (by rw [q]; simp)
    rw [hRR]
    exact ⟨tak, tck, oak, ock, rfl, dwk, dxk⟩
set_option maxHeartbeats 3200000 in
theorem run_spec (h : Heap) (raw : ByteArray) :
    FC Tryz.prog 66 (#[.string raw] : Array Value) h fun rv h' => rv = .tuple #[.string (mkS (ruF raw).out), .int .i64 (((ruF raw).e : Nat) : Int), .int .i64 (((ruF raw).pl : Nat) : Int)] ∧ Ext (fun _ => False) h h' := by
  refine FC_of [(0, .string raw)] Tryz.func66 rfl Tryz.ntmps66 (by simp) rfl (fun R hR => ?_)
  refine V_sr T.mix (by kernel_rfl) (fun K1 hK1 => ?_)
  refine S_as rfl ?_
  refine S_as rfl ?_
  refine S_as rfl ?_
  refine S_nil (hK1 _ _ (V_keep [0] (by simp only [proj, lk, reduceIte, Nat.reduceEqDiff]; rfl) ?_)); clear hK1
  refine V_seq (fun K2 hK2 => ?_)
  refine V_sr T.mix (by kernel_rfl) (fun K3 hK3 => ?_)
  refine S_mv rfl ?_
  refine S_lens T.kd9 rfl ?_
  refine S_bin rfl rfl rfl ?_
  refine S_nil (hK3 _ _ (V_keep [0, 17] (by simp only [proj, lk, reduceIte, Nat.reduceEqDiff]; rfl) ?_)); clear hK3
  refine V_condp rfl (fun c166 => ?_) (fun c166 => ?_)
  · skip
    refine V_sr T.mix (by kernel_rfl) (fun K4 hK4 => ?_)
    refine S_as rfl ?_
    refine S_as rfl ?_
    refine S_as rfl ?_
    refine S_nil (hK4 _ _ (V_keep [2, 3, 4] (by simp only [proj, lk, reduceIte, Nat.reduceEqDiff]; rfl) ?_)); clear hK4
    refine V_ret ?_
    refine hR _ _ (ret3 rfl rfl rfl rfl ?_)
    have hr : ruF raw = ⟨[], 1, 0, ⟨0, 0, 0⟩⟩ := by unfold ruF; rw [if_pos (by omega)]
    rw [hr]
    exact ⟨rfl, Ext.refl _ _⟩
  · skip
    refine V_skipk [0] (by simp only [proj, lk, reduceIte, Nat.reduceEqDiff]; rfl) ?_
    refine hK2 _ _ ?_; clear hK2
    refine V_sr T.mix (by kernel_rfl) (fun K5 hK5 => ?_)
    refine S_call T.hb83 rfl ?_
    refine FC.mono (BitW.mnew_spec h) ?_
    rintro v' g1 ⟨rfl, mt0, hE1⟩
    obtain ⟨M, hM⟩ : ∃ M, M = h.size := ⟨_, rfl⟩
    rw [← hM] at mt0 ⊢
    refine S_as rfl ?_
    refine S_nil (hK5 _ _ (V_keep [0, 5] (by simp only [proj, lk, reduceIte, Nat.reduceEqDiff]; rfl) ?_)); clear hK5
    refine V_sr T.mix (by kernel_rfl) (fun K6 hK6 => ?_)
    refine S_mv rfl ?_
    refine S_mv rfl ?_
    refine S_call T.hb84 rfl ?_
    refine FC.mono (BitW.mload_spec g1 M none 0 _ mt0 raw) ?_
    rintro v' g2 ⟨rfl, ta0, tc0, mt1, mx1⟩
    obtain ⟨s0, hs0, mt1⟩ := mt_var mt1
    have hru0 : ruF raw = rnF 4097 s0 [] := by unfold ruF; rw [if_neg (by omega), hs0]
    have dw0 : DW g2 M ta0 tc0 s0 none 0 [] := ⟨mt1, OB.nil _, by simp [blkA], fun b e => (by cases e), by simp⟩
    have hg1 := MT.mlt mt0
    have hE2 : Ext (fun _ => False) h g2 := hE1.step mx1.1 (fun b hb e => by rcases e with e | e; (omega); (cases e))
    have hge0 : ∀ b, Hot M ta0 none b → h.size ≤ b := fun b e => by rcases e with e | e | e; (omega); (rcases mx1.2 b e with q | q; (cases q); (have h9 := hE1.1; omega)); (cases e)
    refine S_nil (hK6 _ _ (V_keep [5] (by simp only [proj, lk, reduceIte, Nat.reduceEqDiff]; rfl) ?_)); clear hK6
    refine V_sr T.mix (by kernel_rfl) (fun K7 hK7 => ?_)
    refine S_as rfl ?_
    refine S_nil (hK7 _ _ (V_keep [5, 6] (by simp only [proj, lk, reduceIte, Nat.reduceEqDiff]; rfl) ?_)); clear hK7
    refine V_sr T.mix (by kernel_rfl) (fun K8 hK8 => ?_)
    refine S_as rfl ?_
    refine S_nil (hK8 _ _ (V_keep [5, 6, 7] (by simp only [proj, lk, reduceIte, Nat.reduceEqDiff]; rfl) ?_)); clear hK8
    refine V_seq (fun K9 hK9 => ?_)
    refine V_block ?_
    refine V_loop (fun m l h' => ∃ (fin : Nat) (hk : Heap) (tak : Option Addr) (tck : Nat) (sk : TS) (oak : Option Addr) (ock : Nat) (outk : List Int), ((fin = 0 ∧ ∃ f, sk.n - sk.p < f ∧ ruF raw = rnF f sk outk) ∨ (fin ≠ 0 ∧ ruF raw = fiF sk outk)) ∧ (DW hk M tak tck sk oak ock outk) ∧ (∀ b, Hot M tak oak b → h.size ≤ b) ∧ (Ext (fun _ => False) h hk) ∧ m = (if fin = 0 then 1 + (sk.n - sk.p) else 0) ∧ l = [(5, .pointer (some ⟨M, 0, none⟩)), (6, .slice oak outk.length ock), (7, .int .i64 (fin : Int))] ∧ hk = h') _ ⟨0, g2, ta0, tc0, s0, none, 0, [], .inl ⟨rfl, 4097, by have h8 := mt1.ok.2.2; omega, hru0⟩, dw0, hge0, hE2, rfl, rfl, rfl⟩ ?_
    rintro m l h' ⟨fin, hk, tak, tck, sk, oak, ock, outk, hin, dwk, hge, hEk, rfl, rfl, rfl⟩ K10 hK10
    have hzk := hEk.1
    refine V_seq (fun K11 hK11 => ?_)
    refine V_sr T.mix (by kernel_rfl) (fun K12 hK12 => ?_)
    refine S_mv rfl ?_
    refine S_bin rfl rfl rfl ?_
    refine S_nil (hK12 _ _ (V_keep [5, 6, 23] (by simp only [proj, lk, reduceIte, Nat.reduceEqDiff]; rfl) ?_)); clear hK12
    refine V_condp rfl (fun c173 => ?_) (fun c173 => ?_)
    · skip
      have hf0 : fin = 0 := by omega
      obtain ⟨f, hfu, hru⟩ : ∃ f, sk.n - sk.p < f ∧ ruF raw = rnF f sk outk := by rcases hin with ⟨_, q⟩ | ⟨q, _⟩; (exact q); (omega)
      obtain ⟨g, rfl⟩ : ∃ g, f = g + 1 := ⟨f - 1, by omega⟩
      rw [rnF] at hru
      refine V_skipk [5, 6] (by simp only [proj, lk, reduceIte, Nat.reduceEqDiff]; rfl) ?_
      refine hK11 _ _ ?_; clear hK11
      refine V_block ?_
      refine V_sr T.mix (by kernel_rfl) (fun K13 hK13 => ?_)
      refine S_mv rfl ?_
      refine S_call T.hb85 rfl ?_
      refine FC.mono (BitW.mpos_spec hk M _ _ sk dwk.mt) ?_
      rintro v' h' ⟨rfl, rfl⟩
      refine S_as rfl ?_
      refine S_nil (hK13 _ _ (V_keep [5, 6, 8] (by simp only [proj, lk, reduceIte, Nat.reduceEqDiff]; rfl) ?_)); clear hK13
      refine V_sr T.mix (by kernel_rfl) (fun K14 hK14 => ?_)
      refine S_as rfl ?_
      refine S_nil (hK14 _ _ (V_keep [5, 6, 8] (by simp only [proj, lk, reduceIte, Nat.reduceEqDiff]; rfl) ?_)); clear hK14
      refine V_sr T.mix (by kernel_rfl) (fun K15 hK15 => ?_)
      refine S_mv rfl ?_
      refine S_call T.hb86 rfl ?_
      refine FC.mono (BitW.mtake_spec hk M _ _ sk dwk.mt (1)) ?_
      rintro v' j1 ⟨hv', taa, tca, mta, mxa⟩
      obtain ⟨ea, hea⟩ : ∃ x, x = skipE sk (1) := ⟨_, rfl⟩
      obtain ⟨ca, hca⟩ : ∃ x, x = takeV sk (1) := ⟨_, rfl⟩
      obtain ⟨sa, hsa⟩ : ∃ x, x = skipS sk (1) := ⟨_, rfl⟩
      rw [← hea, ← hca] at hv'
      rw [← hsa] at mta
      subst hv'
      obtain ⟨dwa, dxa⟩ := dwk.mex mta mxa
      rw [← hea, ← hca, ← hsa] at hru
      obtain ⟨hE1a, hgea⟩ := dx_new dxa hzk hge hEk
      refine S_mv rfl ?_
      refine S_ex rfl rfl ?_
      refine S_ex rfl rfl ?_
      refine S_as rfl ?_
      refine S_as rfl ?_
      refine S_nil (hK15 _ _ (V_keep [5, 6, 7, 8, 9] (by simp only [proj, lk, reduceIte, Nat.reduceEqDiff]; rfl) ?_)); clear hK15
      refine V_seq (fun K16 hK16 => ?_)
      refine V_sr T.mix (by kernel_rfl) (fun K17 hK17 => ?_)
      refine S_mv rfl ?_
      refine S_bin rfl rfl rfl ?_
      refine S_nil (hK17 _ _ (V_keep [5, 6, 7, 8, 9, 32] (by simp only [proj, lk, reduceIte, Nat.reduceEqDiff]; rfl) ?_)); clear hK17
      refine V_condp rfl (fun c177 => ?_) (fun c177 => ?_)
      · skip
        refine V_sr T.mix (by kernel_rfl) (fun K18 hK18 => ?_)
        refine S_mv rfl ?_
        refine S_str T.kd55 T.kd9 T.in9 rfl (dwa.ob.str) ?_
        refine S_mv rfl ?_
        refine S_mv rfl ?_
        refine S_as rfl ?_
        refine S_as rfl ?_
        refine S_as rfl ?_
        refine S_nil (hK18 _ _ (V_keep [2, 3, 4] (by simp only [proj, lk, reduceIte, Nat.reduceEqDiff]; rfl) ?_)); clear hK18
        refine V_ret ?_
        refine hR _ _ (ret3 rfl rfl rfl rfl ?_)
        rw [hru, if_pos (by omega)]
        exact ⟨rfl, hE1a⟩
      · skip
        refine V_skipk [5, 6, 7] (by simp only [proj, lk, reduceIte, Nat.reduceEqDiff]; rfl) ?_
        refine hK16 _ _ ?_; clear hK16
        refine V_sr T.mix (by kernel_rfl) (fun K19 hK19 => ?_)
        refine S_mv rfl ?_
        refine S_call T.hb85 rfl ?_
        refine FC.mono (BitW.mpos_spec j1 M _ _ sa dwa.mt) ?_
        rintro v' h' ⟨rfl, rfl⟩
        refine S_as rfl ?_
        refine S_nil (hK19 _ _ (V_keep [5, 6, 7, 8] (by simp only [proj, lk, reduceIte, Nat.reduceEqDiff]; rfl) ?_)); clear hK19
        refine V_sr T.mix (by kernel_rfl) (fun K20 hK20 => ?_)
        refine S_mv rfl ?_
        refine S_call T.hb86 rfl ?_
        refine FC.mono (BitW.mtake_spec j1 M _ _ sa dwa.mt (2)) ?_
        rintro v' j2 ⟨hv', tab, tcb, mtb, mxb⟩
        obtain ⟨eb, heb⟩ : ∃ x, x = skipE sa (2) := ⟨_, rfl⟩
        obtain ⟨cb, hcb⟩ : ∃ x, x = takeV sa (2) := ⟨_, rfl⟩
        obtain ⟨sb, hsb⟩ : ∃ x, x = skipS sa (2) := ⟨_, rfl⟩
        rw [← heb, ← hcb] at hv'
        rw [← hsb] at mtb
        subst hv'
        obtain ⟨dwb, dxb⟩ := dwa.mex mtb mxb
        rw [← heb, ← hcb, ← hsb] at hru
        have dxb2 := dxa.trans dxb
        obtain ⟨hE2b, hgeb⟩ := dx_new dxb2 hzk hge hEk
        refine S_mv rfl ?_
        refine S_ex rfl rfl ?_
        refine S_ex rfl rfl ?_
        refine S_as rfl ?_
        refine S_as rfl ?_
        refine S_nil (hK20 _ _ (V_keep [5, 6, 7, 8, 10, 11] (by simp only [proj, lk, reduceIte, Nat.reduceEqDiff]; rfl) ?_)); clear hK20
        refine V_seq (fun K21 hK21 => ?_)
        refine V_sr T.mix (by kernel_rfl) (fun K22 hK22 => ?_)
        refine S_mv rfl ?_
        refine S_bin rfl rfl rfl ?_
        refine S_nil (hK22 _ _ (V_keep [5, 6, 7, 8, 10, 11, 45] (by simp only [proj, lk, reduceIte, Nat.reduceEqDiff]; rfl) ?_)); clear hK22
        refine V_condp rfl (fun c182 => ?_) (fun c182 => ?_)
        · skip
          refine V_sr T.mix (by kernel_rfl) (fun K23 hK23 => ?_)
          refine S_mv rfl ?_
          refine S_str T.kd55 T.kd9 T.in9 rfl (dwb.ob.str) ?_
          refine S_mv rfl ?_
          refine S_mv rfl ?_
          refine S_as rfl ?_
          refine S_as rfl ?_
          refine S_as rfl ?_
          refine S_nil (hK23 _ _ (V_keep [2, 3, 4] (by simp only [proj, lk, reduceIte, Nat.reduceEqDiff]; rfl) ?_)); clear hK23
          refine V_ret ?_
          refine hR _ _ (ret3 rfl rfl rfl rfl ?_)
          rw [hru, if_neg (by omega), if_pos (by omega)]
          exact ⟨rfl, hE2b⟩
        · skip
          refine V_skipk [5, 6, 7, 8, 10] (by simp only [proj, lk, reduceIte, Nat.reduceEqDiff]; rfl) ?_
          refine hK21 _ _ ?_; clear hK21
          refine V_sr T.mix (by kernel_rfl) (fun K24 hK24 => ?_)
          refine S_mv rfl ?_
          refine S_call T.hb85 rfl ?_
          refine FC.mono (BitW.mpos_spec j2 M _ _ sb dwb.mt) ?_
          rintro v' h' ⟨rfl, rfl⟩
          refine S_as rfl ?_
          refine S_nil (hK24 _ _ (V_keep [5, 6, 7, 8, 10, 12] (by simp only [proj, lk, reduceIte, Nat.reduceEqDiff]; rfl) ?_)); clear hK24
          refine V_sr T.mix (by kernel_rfl) (fun K25 hK25 => ?_)
          refine S_as rfl ?_
          refine S_nil (hK25 _ _ (V_keep [5, 6, 7, 8, 10, 12] (by simp only [proj, lk, reduceIte, Nat.reduceEqDiff]; rfl) ?_)); clear hK25
          refine V_seqJ (fun l h' => ∃ (j5 : Heap) (ta5 : Option Addr) (tc5 : Nat) (s5 : TS) (oa5 : Option Addr) (oc5 : Nat) (out5 : List Int) (e5 at5 : Nat), (blF cb sa.p sb outk = ⟨out5, e5, at5, s5⟩) ∧ (DW j5 M ta5 tc5 s5 oa5 oc5 out5) ∧ (DX M hk j5 tak ta5 oak oa5) ∧ l = [(5, .pointer (some ⟨M, 0, none⟩)), (6, .slice oa5 out5.length oc5), (7, .int .i64 (ca : Int)), (8, .int .i64 (at5 : Int)), (9, .int .i64 (e5 : Int))] ∧ j5 = h') ?_ ?_
          · skip
            refine V_sr T.mix (by kernel_rfl) (fun K27 hK27 => ?_)
            refine S_mv rfl ?_
            refine S_nil (hK27 _ _ (V_keep [5, 6, 7, 8, 12, 52] (by simp only [proj, lk, reduceIte, Nat.reduceEqDiff]; rfl) ?_)); clear hK27
            refine V_block ?_
            refine V_sr T.mix (by kernel_rfl) (fun K28 hK28 => ?_)
            refine S_bin rfl rfl rfl ?_
            refine S_as rfl ?_
            refine S_nil (hK28 _ _ (V_keep [5, 6, 7, 8, 12, 52, 53] (by simp only [proj, lk, reduceIte, Nat.reduceEqDiff]; rfl) ?_)); clear hK28
            refine V_condp rfl (fun c188 => ?_) (fun c188 => ?_)
            · skip
              refine V_reg T.mix (by kernel_rfl) ?_
              refine S_mv rfl ?_
              refine S_mv rfl ?_
              refine S_call T.hb87 rfl ?_
              refine FC.mono (mstored_spec j2 M tab tcb sb oak ock outk dwb) ?_
              obtain ⟨q, hq⟩ : ∃ q, q = stoF sb outk := ⟨_, rfl⟩
              rw [← hq]
              rintro v' j5 ⟨ta5, tc5, oa5, oc5, rfl, dw5, dx5⟩
              refine S_mv rfl ?_
              refine S_ex rfl rfl ?_
              refine S_ex rfl rfl ?_
              refine S_ex rfl rfl ?_
              refine S_as rfl ?_
              refine S_as rfl ?_
              refine S_as rfl ?_
              refine S_nilk [5, 6, 7, 8, 9] (by simp only [proj, lk, reduceIte, Nat.reduceEqDiff]; rfl) ?_
              exact ⟨j5, ta5, tc5, q.s, oa5, oc5, q.out, q.e, q.pl, by rw [show cb = 0 by omega, blF_0, ← hq], dw5, dxb2.trans dx5, rfl, rfl⟩
            · skip
              refine V_sr T.mix (by kernel_rfl) (fun K29 hK29 => ?_)
              refine S_bin rfl rfl rfl ?_
              refine S_as rfl ?_
              refine S_nil (hK29 _ _ (V_keep [5, 6, 7, 8, 12, 52, 62] (by simp only [proj, lk, reduceIte, Nat.reduceEqDiff]; rfl) ?_)); clear hK29
              refine V_condp rfl (fun c190 => ?_) (fun c190 => ?_)
              · skip
                refine V_sr T.mix (by kernel_rfl) (fun K30 hK30 => ?_)
                refine S_call T.hb72 rfl ?_
                refine FC.mono (fixedlens_spec j2) ?_
                rintro v' j3 ⟨rfl, bl3, hE3⟩
                have dw3 := dwb.new hE3 (fun _ _ f => f)
                have dx3 : DX M hk j3 tak tab oak oak := dxb2.trans (DX.new hE3 (fun _ _ f => f))
                refine S_as rfl ?_
                refine S_nil (hK30 _ _ (V_keep [5, 6, 7, 12, 13] (by simp only [proj, lk, reduceIte, Nat.reduceEqDiff]; rfl) ?_)); clear hK30
                refine V_reg T.mix (by kernel_rfl) ?_
                refine S_mv rfl ?_
                refine S_mv rfl ?_
                refine S_mv rfl ?_
                refine S_mv rfl ?_
                refine S_call T.hb88 rfl ?_
                refine FC.mono (mcoded_spec j3 M tab tcb sb oak ock outk dw3 j2.size fixL fix_len bl3 sb.p) ?_
                obtain ⟨q, hq⟩ : ∃ q, q = coF sb fixL sb.p outk := ⟨_, rfl⟩
                rw [← hq]
                rintro v' j5 ⟨ta5, tc5, oa5, oc5, rfl, dw5, dx5⟩
                refine S_mv rfl ?_
                refine S_ex rfl rfl ?_
                refine S_ex rfl rfl ?_
                refine S_ex rfl rfl ?_
                refine S_as rfl ?_
                refine S_as rfl ?_
                refine S_as rfl ?_
                refine S_nilk [5, 6, 7, 8, 9] (by simp only [proj, lk, reduceIte, Nat.reduceEqDiff]; rfl) ?_
                exact ⟨j5, ta5, tc5, q.s, oa5, oc5, q.out, q.e, q.pl, by rw [show cb = 1 by omega, blF_1, ← hq], dw5, dx3.trans dx5, rfl, rfl⟩
              · skip
                refine V_sr T.mix (by kernel_rfl) (fun K31 hK31 => ?_)
                refine S_bin rfl rfl rfl ?_
                refine S_as rfl ?_
                refine S_nil (hK31 _ _ (V_keep [5, 6, 7, 8, 12, 74] (by simp only [proj, lk, reduceIte, Nat.reduceEqDiff]; rfl) ?_)); clear hK31
                refine V_condp rfl (fun c193 => ?_) (fun c193 => ?_)
                · skip
                  refine V_sr T.mix (by kernel_rfl) (fun K32 hK32 => ?_)
                  refine S_mv rfl ?_
                  refine S_call T.hb89 rfl ?_
                  refine FC.mono (mlengths_spec j2 M tab tcb sb dwb.mt) ?_
                  obtain ⟨F, hF⟩ : ∃ F, F = lnF 273 sb [] := ⟨_, rfl⟩
                  rw [← hF]
                  rintro v' j3 ⟨la3, ll3, ta3, tc3, rfl, mt3, mx3, hok3⟩
                  obtain ⟨dw3, dx3a⟩ := dwb.mex mt3 mx3
                  have dx3 := dxb2.trans dx3a
                  refine S_mv rfl ?_
                  refine S_ex rfl rfl ?_
                  refine S_ex rfl rfl ?_
                  refine S_ex rfl rfl ?_
                  refine S_as rfl ?_
                  refine S_as rfl ?_
                  refine S_as rfl ?_
                  refine S_nil (hK32 _ _ (V_keep [5, 6, 7, 8, 9, 12, 13] (by simp only [proj, lk, reduceIte, Nat.reduceEqDiff]; rfl) ?_)); clear hK32
                  refine V_sr T.mix (by kernel_rfl) (fun K33 hK33 => ?_)
                  refine S_mv rfl ?_
                  refine S_bin rfl rfl rfl ?_
                  refine S_nil (hK33 _ _ (V_keep [5, 6, 7, 8, 9, 12, 13, 83] (by simp only [proj, lk, reduceIte, Nat.reduceEqDiff]; rfl) ?_)); clear hK33
                  refine V_condp rfl (fun c195 => ?_) (fun c195 => ?_)
                  · skip
                    refine V_reg T.mix (by kernel_rfl) ?_
                    refine S_mv rfl ?_
                    refine S_mv rfl ?_
                    refine S_mv rfl ?_
                    refine S_mv rfl ?_
                    refine S_call T.hb88 rfl ?_
                    obtain ⟨rfl, rfl, hl3, bl3, _⟩ := hok3 (by omega)
                    refine FC.mono (mcoded_spec j3 M ta3 tc3 F.s oak ock outk dw3 j2.size F.l hl3 bl3 sb.p) ?_
                    obtain ⟨q, hq⟩ : ∃ q, q = coF F.s F.l sb.p outk := ⟨_, rfl⟩
                    rw [← hq]
                    rintro v' j5 ⟨ta5, tc5, oa5, oc5, rfl, dw5, dx5⟩
                    refine S_mv rfl ?_
                    refine S_ex rfl rfl ?_
                    refine S_ex rfl rfl ?_
                    refine S_ex rfl rfl ?_
                    refine S_as rfl ?_
                    refine S_as rfl ?_
                    refine S_as rfl ?_
                    refine S_nilk [5, 6, 7, 8, 9] (by simp only [proj, lk, reduceIte, Nat.reduceEqDiff]; rfl) ?_
                    exact ⟨j5, ta5, tc5, q.s, oa5, oc5, q.out, q.e, q.pl, by rw [show cb = 2 by omega, blF_2, dyF_go hF (by omega), ← hq], dw5, dx3.trans dx5, rfl, rfl⟩
                  · skip
                    refine V_skipk [5, 6, 7, 8, 9] (by simp only [proj, lk, reduceIte, Nat.reduceEqDiff]; rfl) ?_
                    exact ⟨j3, ta3, tc3, F.s, oak, ock, outk, F.e, F.pl, by rw [show cb = 2 by omega, blF_2, dyF_no hF (by omega)], dw3, dx3, rfl, rfl⟩
                · skip
                  refine V_reg T.mix (by kernel_rfl) ?_
                  refine S_as rfl ?_
                  refine S_nilk [5, 6, 7, 8, 9] (by simp only [proj, lk, reduceIte, Nat.reduceEqDiff]; rfl) ?_
                  exact ⟨j2, tab, tcb, sb, oak, ock, outk, 5, sa.p, by unfold blF; rw [if_neg (by omega), if_neg (by omega), if_neg (by omega)], dwb, dxb2, rfl, rfl⟩
          rintro l h' ⟨j5, ta5, tc5, s5, oa5, oc5, out5, e5, at5, hbl, dw5, dx5, rfl, rfl⟩
          obtain ⟨hE5, hge5⟩ := dx_new dx5 hzk hge hEk
          rw [hbl] at hru
          simp only [] at hru
          have had := blF_ad cb sa.p dwb.mt.ok outk
          rw [hbl] at had
          have had2 := skip_ad sa 2
          have hp1 := skip_p (s := sk) (k := 1) (by rw [show ((1 : Nat) : Int) = 1 from rfl, ← hea]; omega)
          rw [show ((1 : Nat) : Int) = 1 from rfl, ← hsa] at hp1
          rw [← hsb] at had2
          have had3 := (skip_ad sk 1).n
          rw [← hsa] at had3
          have q1 := had.n
          have q2 := had.p
          have q3 := had2.n
          have q4 := had2.p
          simp only [] at q1 q2
          have q5 := dwk.mt.ok.2.1
          have q6 := dw5.mt.ok.2.1
          refine V_sr T.mix (by kernel_rfl) (fun K34 hK34 => ?_)
          refine S_mv rfl ?_
          refine S_bin rfl rfl rfl ?_
          refine S_nil (hK34 _ _ (V_keep [5, 6, 7, 8, 9, 94] (by simp only [proj, lk, reduceIte, Nat.reduceEqDiff]; rfl) ?_)); clear hK34
          refine V_condp rfl (fun c201 => ?_) (fun c201 => ?_)
          · skip
            refine V_sr T.mix (by kernel_rfl) (fun K35 hK35 => ?_)
            refine S_mv rfl ?_
            refine S_str T.kd55 T.kd9 T.in9 rfl (dw5.ob.str) ?_
            refine S_mv rfl ?_
            refine S_mv rfl ?_
            refine S_as rfl ?_
            refine S_as rfl ?_
            refine S_as rfl ?_
            refine S_nil (hK35 _ _ (V_keep [2, 3, 4] (by simp only [proj, lk, reduceIte, Nat.reduceEqDiff]; rfl) ?_)); clear hK35
            refine V_ret ?_
            refine hR _ _ (ret3 rfl rfl rfl rfl ?_)
            rw [hru, if_neg (by omega), if_neg (by omega), if_pos (by omega)]
            exact ⟨rfl, hE5⟩
          · skip
            refine V_skipk [5, 6, 7] (by simp only [proj, lk, reduceIte, Nat.reduceEqDiff]; rfl) ?_
            rw [if_neg (by omega), if_neg (by omega), if_neg (by omega)] at hru
            by_cases hc0 : ca = 0
            · rw [if_pos hc0] at hru
              exact hK10 _ _ ⟨_, by rw [if_pos hc0, if_pos hf0]; omega, ca, j5, ta5, tc5, s5, oa5, oc5, out5, .inl ⟨hc0, g, by omega, hru⟩, dw5, hge5, hE5, rfl, rfl, rfl⟩
            · rw [if_neg hc0] at hru
              exact hK10 _ _ ⟨_, by rw [if_neg hc0, if_pos hf0]; omega, ca, j5, ta5, tc5, s5, oa5, oc5, out5, .inr ⟨hc0, hru⟩, dw5, hge5, hE5, rfl, rfl, rfl⟩
    · skip
      have hru : ruF raw = fiF sk outk := by rcases hin with ⟨q, _⟩ | ⟨_, q⟩; (omega); (exact q)
      refine V_exitk [5, 6] rfl (by simp only [proj, lk, reduceIte, Nat.reduceEqDiff]; rfl) ?_
      refine hK9 _ _ ?_; clear hK9
      refine V_sr T.mix (by kernel_rfl) (fun K36 hK36 => ?_)
      refine S_mv rfl ?_
      refine S_call T.hb90 rfl ?_
      refine FC.mono (BitW.msync_spec hk M tak tck sk dwk.mt) ?_
      rintro v' z1 ⟨rfl, taz, tcz, mtz, mxz⟩
      obtain ⟨sz, hsz, mtz⟩ := mt_var mtz
      obtain ⟨dwz, dxz⟩ := dwk.mex mtz mxz
      obtain ⟨hEz, _⟩ := dx_new dxz hzk hge hEk
      refine S_nil (hK36 _ _ (V_keep [5, 6] (by simp only [proj, lk, reduceIte, Nat.reduceEqDiff]; rfl) ?_)); clear hK36
      refine V_sr T.mix (by kernel_rfl) (fun K37 hK37 => ?_)
      refine S_mv rfl ?_
      refine S_call T.hb85 rfl ?_
      refine FC.mono (BitW.mpos_spec z1 M _ _ sz dwz.mt) ?_
      rintro v' h' ⟨rfl, rfl⟩
      refine S_as rfl ?_
      refine S_nil (hK37 _ _ (V_keep [5, 6, 14] (by simp only [proj, lk, reduceIte, Nat.reduceEqDiff]; rfl) ?_)); clear hK37
      refine V_seq (fun K38 hK38 => ?_)
      refine V_sr T.mix (by kernel_rfl) (fun K39 hK39 => ?_)
      refine S_mv rfl ?_
      refine S_mv rfl ?_
      refine S_call T.hb91 rfl ?_
      refine FC.mono (BitW.mlen_spec z1 M _ _ sz dwz.mt) ?_
      rintro v' h' ⟨rfl, rfl⟩
      refine S_bin rfl rfl rfl ?_
      refine S_nil (hK39 _ _ (V_keep [6, 14, 106] (by simp only [proj, lk, reduceIte, Nat.reduceEqDiff]; rfl) ?_)); clear hK39
      refine V_condp rfl (fun c207 => ?_) (fun c207 => ?_)
      · skip
        refine V_sr T.mix (by kernel_rfl) (fun K40 hK40 => ?_)
        refine S_mv rfl ?_
        refine S_str T.kd55 T.kd9 T.in9 rfl (dwz.ob.str) ?_
        refine S_mv rfl ?_
        refine S_as rfl ?_
        refine S_as rfl ?_
        refine S_as rfl ?_
        refine S_nil (hK40 _ _ (V_keep [2, 3, 4] (by simp only [proj, lk, reduceIte, Nat.reduceEqDiff]; rfl) ?_)); clear hK40
        refine V_ret ?_
        refine hR _ _ (ret3 rfl rfl rfl rfl ?_)
        have hr : fiF sk outk = ⟨outk, 11, sz.p, sz⟩ := by unfold fiF; rw [← hsz, if_pos (by omega)]
        rw [hru, hr]
        exact ⟨rfl, hEz⟩
      · skip
        refine V_skipk [6] (by simp only [proj, lk, reduceIte, Nat.reduceEqDiff]; rfl) ?_
        refine hK38 _ _ ?_; clear hK38
        refine V_sr T.mix (by kernel_rfl) (fun K41 hK41 => ?_)
        refine S_mv rfl ?_
        refine S_str T.kd55 T.kd9 T.in9 rfl (dwz.ob.str) ?_
        refine S_as rfl ?_
        refine S_as rfl ?_
        refine S_as rfl ?_
        refine S_nil (hK41 _ _ (V_keep [2, 3, 4] (by simp only [proj, lk, reduceIte, Nat.reduceEqDiff]; rfl) ?_)); clear hK41
        refine V_ret ?_
        refine hR _ _ (ret3 rfl rfl rfl rfl ?_)
        have hr : fiF sk outk = ⟨outk, 0, 0, sz⟩ := by unfold fiF; rw [← hsz, if_neg (by omega)]
        rw [hru, hr]
        exact ⟨rfl, hEz⟩
end Go.Proofs.Qxb6500404aGreat
