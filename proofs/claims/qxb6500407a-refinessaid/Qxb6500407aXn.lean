import Derived.Test.Qxb6500407aXm
set_option linter.unusedVariables false
set_option linter.unusedSimpArgs false
namespace Go.Proofs.Qxb6500407a
open Go.Eng Go.Huf

section ui
variable {h : Heap} {tg : Nat → Nat} {A : UA} {u : US} {nb : Nat}
/-- as Sx, and the model's cell -/
def Sy (h : Heap) (A : UA) (u : US) (b : Nat) : Prop := Sx h A u b ∨ b = A.M
theorem UI.nsy (w : UI h tg A u nb) {b : Nat} (hb : b < h.size) (h1 : tg b ≠ 1) (h2 : tg b ≠ 2) (h3 : tg b ≠ 3) (h7 : tg b ≠ 7) : ¬ Sy h A u b := fun z => by
  rcases z with z | z
  · exact w.nsx hb h1 h2 h7 z
  · exact h3 (by rw [z]; exact w.tM)
theorem UI.oldm (w : UI h tg A u nb) {hf : Heap} (he : Ext (Sy h A u) h hf) : (∀ i, i < 7 → Kp hf (u.d.st i)) ∧ IL hf u.d.ra u.d.rc u.d.rg ∧ IL hf u.d.ta u.d.lt.length u.d.lt := by
  refine ⟨fun i hi => (w.kp i hi).ext he (fun b e => ?_), w.rg.ext he (fun b e => ?_), w.lt.ext he (fun b e => ?_)⟩
  · have h9 := w.tk i hi b e; exact w.nsy ((w.kp i hi).1.lt e) (by omega) (by omega) (by omega) (by omega)
  · have h9 := w.tr b e; exact w.nsy (w.rg.lt e) (by omega) (by omega) (by omega) (by omega)
  · have h9 := w.tt b e; exact w.nsy (w.lt.lt e) (by omega) (by omega) (by omega) (by omega)
theorem UI.syb (w : UI h tg A u nb) {hf : Heap} (he : Ext (Sy h A u) h hf) : Ext (fun b => A.base ≤ b) h hf := he.mono fun b e => by
  rcases e with (e | e | e | e) | e
  · exact w.bs (by rw [e, w.tU]; omega)
  · exact w.bs (by rw [w.tC b e]; omega)
  · exact w.bs (by rw [w.tx b e]; omega)
  · have := w.hb; omega
  · exact w.bs (by rw [e, w.tM]; omega)
end ui
set_option maxHeartbeats 6400000 in
theorem samebuild_spec (h : Heap) (tg : Nat → Nat) (A : UA) (u : US) (nb : Nat) (w : UI h tg A u nb) (ca : Option Addr) (cap : Nat) (cl : List Int) (hIl : IL h ca cap cl) (hcl : cl.length ≤ 266) (hct : ∀ b, blkA ca = some b → tg b ≠ 1 ∧ tg b ≠ 2 ∧ tg b ≠ 3 ∧ tg b ≠ 7) (hnb : nb ≤ 800000000000000) :
    FC Try.prog 22 (#[.pointer (some ⟨A.X, 0, none⟩), .pointer (some ⟨A.M, 0, none⟩), .pointer (some ⟨A.U, 0, none⟩), .slice ca cl.length cap] : Array Value) h fun rv h' => rv = .bool true ∧ ∃ (tg' : Nat → Nat) (u' : US), UI h' tg' A u' (nb + 2) ∧ Ext (fun b => A.base ≤ b) h h' := by
  have hlt := w.lt1
  have hwb := w.hb
  have hn1 := w.n1
  have hn2 := w.n2
  have hxl := w.xl
  have cll := fun b e => hIl.lt (b := b) e
  have nC : ∀ b, tg b ≠ 2 → ¬ CT A.X b := fun b e z => e (w.tC b z)
  have nCx : ∀ b, h.size ≤ b → ¬ CT A.X b := fun b e z => by have h9 := z.2; omega
  have nU : ∀ b, tg b ≠ 1 → b ≠ A.U := fun b e z => e (by rw [z]; exact w.tU)
  have nM : ∀ b, tg b ≠ 3 → b ≠ A.M := fun b e z => e (by rw [z]; exact w.tM)
  have nX : ∀ b, tg b ≠ 7 → ¬ blkA u.d.xa = some b := fun b e z => e (w.tx b z)
  refine FC_of [(0, .pointer (some ⟨A.X, 0, none⟩)), (1, .pointer (some ⟨A.M, 0, none⟩)), (2, .pointer (some ⟨A.U, 0, none⟩)), (3, .slice ca cl.length cap)] Try.func22 rfl Try.ntmps22 (by simp) rfl (fun R hR => ?_)
  refine V_sr T.mix (by kernel_rfl) (fun K1 hK1 => ?_)
  refine S_as rfl ?_
  refine S_nil (hK1 _ _ (V_keep [0, 1, 2, 3] (by simp only [proj, lk, reduceIte, Nat.reduceEqDiff]; rfl) ?_)); clear hK1
  refine V_sr T.mix (by kernel_rfl) (fun K2 hK2 => ?_)
  refine S_mv rfl ?_
  refine S_call T.hb32 rfl ?_
  refine FC.mono (lend_spec h ca cap cl hIl (by omega)) ?_
  rintro v' h1 ⟨rfl, bl1, hs1, hE1⟩
  have hI1 := hIl.ext hE1 (fun _ _ f => f)
  refine S_as rfl ?_
  refine S_nil (hK2 _ _ (V_keep [0, 1, 2, 3, 9] (by simp only [proj, lk, reduceIte, Nat.reduceEqDiff]; rfl) ?_)); clear hK2
  refine V_sr T.mix (by kernel_rfl) (fun K3 hK3 => ?_)
  refine S_mv rfl ?_
  refine S_call T.hb33 rfl ?_
  refine FC.mono (copyints_spec h1 ca cap cl hI1 (by omega)) ?_
  rintro v' h2 ⟨rfl, bm2, hs2, hE2⟩
  have hI2 := hI1.ext hE2 (fun _ _ f => f)
  have bl2 := bl1.ext hE2 (fun f => f)
  have hcx2 : IL h2 (some ⟨h.size, 0, none⟩) (cl.length + 4) cl := by have h9 := bl_pre (show BL h2 h.size (cl ++ List.replicate 4 (-5151515)) from bl2); rw [List.length_append, List.length_replicate] at h9; exact h9
  have hE02 := hE1.trans hE2
  have w2 := w.new hE02
  refine S_as rfl ?_
  refine S_nil (hK3 _ _ (V_keep [0, 1, 2, 3, 9, 10] (by simp only [proj, lk, reduceIte, Nat.reduceEqDiff]; rfl) ?_)); clear hK3
  refine V_sr T.mix (by kernel_rfl) (fun K4 hK4 => ?_)
  refine S_mv rfl ?_
  refine S_mv rfl ?_
  refine S_call T.hb40 rfl ?_
  refine FC.mono (build_spec h2 A.X u.c w2.cx (some ⟨h.size, 0, none⟩) (cl.length + 4) cl hcx2 (fun b e => by cases e; exact nCx _ (Nat.le_refl _))) ?_
  rintro v' h3 ⟨v, rfl, c3, hv1, hv2, hE3⟩
  refine S_as rfl ?_
  refine S_nil (hK4 _ _ (V_keep [1, 2, 3, 9, 10, 11] (by simp only [proj, lk, reduceIte, Nat.reduceEqDiff]; rfl) ?_)); clear hK4
  refine V_seq (fun K5 hK5 => ?_)
  refine V_sr T.mix (by kernel_rfl) (fun K6 hK6 => ?_)
  refine S_mv rfl ?_
  refine S_call T.hb24 rfl ?_
  have dd3 := w2.dd.ext hE3 (nC _ (by rw [w.tU]; omega))
  have kp3 : ∀ i, i < 7 → Kp h3 (u.d.st i) := fun i hi => (w2.kp i hi).ext hE3 (fun b e => nC b (by rw [w.tk i hi b e]; omega))
  have xs3 := w2.xs.ext hE3 (fun b e => nC b (by rw [w.tx b e]; omega))
  have ms3 := w2.ms.ext hE3 (fun b e => nC b (by rw [w.tm b e]; omega))
  refine FC.mono (again_spec h3 A.U u.d dd3 kp3 xs3 ms3 (fun b e => nU b (by rw [w.tx b e]; omega)) (by omega) (by omega) (by omega)) ?_
  rintro v' h4 ⟨rfl, s4, dd4, kpx4, hst4, hn4, hna4, ⟨o1, o2, o3, o4, o5, o6, o7, o8⟩, hE4⟩
  have hz3 := hE3.1
  have hz4 := hE4.1
  have nS4 : ∀ b, h.size ≤ b → ¬ (b = A.U ∨ blkA u.d.xa = some b) := fun b e z => by rcases z with z | z; (omega); (have h9 := w.xs.lt z; omega)
  have nT4 : ∀ b, tg b ≠ 1 → tg b ≠ 7 → ¬ (b = A.U ∨ blkA u.d.xa = some b) := fun b h1_ h2_ z => by rcases z with z | z; (exact nU b h1_ z); (exact nX b h2_ z)
  have bl4 := (bl2.ext hE3 (nCx _ (Nat.le_refl _))).ext hE4 (nS4 _ (Nat.le_refl _))
  have bm4 := (bm2.ext hE3 (nCx _ (by omega))).ext hE4 (nS4 _ (by omega))
  have hI4 := (hI2.ext hE3 (fun b e => nC b (hct b e).2.1)).ext hE4 (fun b e => nT4 b (hct b e).1 (hct b e).2.2.2)
  refine S_notb rfl ?_
  refine S_nil (hK6 _ _ (V_keep [1, 2, 3, 9, 10, 11, 22] (by simp only [proj, lk, reduceIte, Nat.reduceEqDiff]; rfl) ?_)); clear hK6
  refine V_condb rfl (fun c267 => ?_) (fun c267 => ?_)
  · skip
    cases c267
  · skip
    refine V_skipk [1, 2, 3, 9, 10, 11] (by simp only [proj, lk, reduceIte, Nat.reduceEqDiff]; rfl) ?_
    refine hK5 _ _ ?_; clear hK5
    refine V_sr T.mix (by kernel_rfl) (fun K7 hK7 => ?_)
    refine S_mv rfl ?_
    refine S_mv rfl ?_
    refine S_call T.hb41 rfl ?_
    have mk4 := (w2.mo.ext hE3 (nC _ (by rw [w.tM]; omega)) (fun b e => nC b (by rw [w.tl b e]; omega)) (fun b e => nC b (by rw [w.tc b e]; omega))).ext hE4 (nT4 _ (by rw [w.tM]; omega) (by rw [w.tM]; omega)) (fun b e => nT4 b (by rw [w.tl b e]; omega) (by rw [w.tl b e]; omega)) (fun b e => nT4 b (by rw [w.tc b e]; omega) (by rw [w.tc b e]; omega))
    refine FC.mono (mbuild_spec h4 A.M u.la u.kb u.lf u.c.n mk4 (some ⟨h1.size, 0, none⟩) cl.length cl (show BL h4 h1.size cl from bm4).IL (fun b e => by cases e; show h1.size ≠ A.M; omega)) ?_
    rintro v' h5 ⟨rfl, hm1, hm2, hE5⟩
    have dd5 := dd4.ext hE5 (nM _ (by rw [w.tU]; omega))
    have bl5 := bl4.ext hE5 (by show h.size ≠ A.M; omega)
    have hI5 := hI4.ext hE5 (fun b e => nM b (hct b e).2.2.1)
    refine S_as rfl ?_
    refine S_nil (hK7 _ _ (V_keep [1, 2, 3, 9, 11, 12] (by simp only [proj, lk, reduceIte, Nat.reduceEqDiff]; rfl) ?_)); clear hK7
    refine V_seq (fun K8 hK8 => ?_)
    refine V_sr T.mix (by kernel_rfl) (fun K9 hK9 => ?_)
    refine S_mv rfl ?_
    refine S_mv rfl ?_
    refine S_bin rfl rfl rfl ?_
    refine S_nil (hK9 _ _ (V_keep [1, 2, 3, 9, 12, 28] (by simp only [proj, lk, reduceIte, Nat.reduceEqDiff]; rfl) ?_)); clear hK9
    refine V_condp rfl (fun c271 => ?_) (fun c271 => ?_)
    · skip
      exact absurd rfl c271
    · skip
      refine V_skipk [1, 2, 3, 9, 12] (by simp only [proj, lk, reduceIte, Nat.reduceEqDiff]; rfl) ?_
      refine hK8 _ _ ?_; clear hK8
      refine V_seq (fun K10 hK10 => ?_)
      refine V_sr T.mix (by kernel_rfl) (fun K11 hK11 => ?_)
      refine S_mv rfl ?_
      refine S_mv rfl ?_
      refine S_call T.hb37 rfl ?_
      refine FC.mono (unread_spec h5 h.size cl (show BL h5 h.size (cl ++ List.replicate 4 (-5151515)) from bl5) ca cap hI5 (by omega)) ?_
      rintro v' h' ⟨rfl, rfl⟩
      refine S_notb rfl ?_
      refine S_nil (hK11 _ _ (V_keep [1, 2, 9, 12, 32] (by simp only [proj, lk, reduceIte, Nat.reduceEqDiff]; rfl) ?_)); clear hK11
      refine V_condb rfl (fun c274 => ?_) (fun c274 => ?_)
      · skip
        cases c274
      · skip
        refine V_skipk [1, 2, 9, 12] (by simp only [proj, lk, reduceIte, Nat.reduceEqDiff]; rfl) ?_
        refine hK10 _ _ ?_; clear hK10
        refine V_sr T.mix (by kernel_rfl) (fun K12 hK12 => ?_)
        refine S_mv rfl ?_
        refine S_mv rfl ?_
        refine S_call T.hb38 rfl ?_
        have hcx5 : IL h5 (some ⟨h.size, 0, none⟩) (cl ++ List.replicate 4 (-5151515)).length (cl ++ List.replicate 4 (-5151515)) := (show BL h5 h.size (cl ++ List.replicate 4 (-5151515)) from bl5).IL
        have htk := took_spec h5 A.U s4 dd5 (some ⟨h.size, 0, none⟩) cl.length (cl ++ List.replicate 4 (-5151515)) hcx5 (fun b e => by cases e; show h.size ≠ A.U; omega) (by rw [List.length_append, List.length_replicate]; omega) (by omega) (by omega)
        rw [List.length_append, List.length_replicate] at htk
        refine FC.mono htk ?_
        rintro v' h6 ⟨rfl, s6, dd6, kp6, dr6, hE6⟩
        obtain ⟨p1, p2, p3, p4, p5, p6, p7, p8⟩ := dr6.o
        have hz5 := hE5.1
        have hz6 := hE6.1
        have nS6 : ∀ b, b ≠ A.U → b ≠ h.size → ¬ (b = A.U ∨ blkA (some (⟨h.size, 0, none⟩ : Addr)) = some b) := fun b h1_ h2_ z => by rcases z with z | z; (exact h1_ z); (cases z; exact h2_ rfl)
        have hEa : Ext (Sy h A u) h h6 := ((((hE02.mono fun _ f => f.elim).trans (hE3.mono fun _ e => .inl (.inr (.inl e)))).trans (hE4.mono fun b e => by rcases e with e | e; (exact .inl (.inl e)); (exact .inl (.inr (.inr (.inl e)))))).trans (hE5.mono fun _ e => .inr e)).trans (hE6.mono fun b e => by rcases e with e | e; (exact .inl (.inl e)); (cases e; exact .inl (.inr (.inr (.inr (Nat.le_refl _))))))
        obtain ⟨kold, rg6, lt6⟩ := w.oldm hEa
        have c6 : CB h6 A.X v := ((c3.ext hE4 (fun b hb => nT4 b (by rw [w.tC b hb]; omega) (by rw [w.tC b hb]; omega))).ext hE5 (fun b hb => nM b (by rw [w.tC b hb]; omega))).ext hE6 (fun b hb => nS6 b (nU b (by rw [w.tC b hb]; omega)) (by have h9 := hb.2; omega))
        have kxf : Kp h6 (u.d.xa, u.d.xl.length) := (kpx4.ext hE5 (fun b e => nM b (by rw [w.tx b e]; omega))).ext hE6 (fun b e => nS6 b (nU b (by rw [w.tx b e]; omega)) (by have h9 := w.xs.lt e; omega))
        have kcf := kp6
        have kpf : ∀ i, i < 7 → Kp h6 (s6.st i) := fun i hi => by
          rcases dr6.st i with q | q
          · rcases hst4 i with q2 | q2
            · rw [q, q2]; exact kold i hi
            · rw [q, q2]; exact kxf
          · rw [q]; exact kcf
        obtain ⟨la', kb', lf', mkf, ckf, fif, tlf, tcf⟩ : ∃ la' kb' lf', MK h6 A.M la' kb' lf' v.n ∧ CK v lf' ∧ v.fill ≤ 265 ∧ (∀ b, blkA la' = some b → blkA u.la = some b ∨ (h4.size ≤ b ∧ b < h5.size)) ∧ (∀ b, blkA kb' = some b → blkA u.kb = some b ∨ (h4.size ≤ b ∧ b < h5.size)) := by
          by_cases e0 : lensE cl = 0
          · obtain ⟨la2, cb2, mk5, l1, l2⟩ := hm2 e0
            obtain ⟨ck5, vn, vf⟩ := hv2 e0
            exact ⟨la2, cb2, cf cl, by rw [vn]; exact mk5.ext hE6 (nS6 _ (nU _ (by rw [w.tM]; omega)) (by omega)) (fun b e => nS6 b (by have h9 := l1 b e; omega) (by have h9 := l1 b e; omega)) (fun b e => nS6 b (by have h9 := l2 b e; omega) (by have h9 := l2 b e; omega)), ck5, by rw [vf]; exact w.fi, fun b e => .inr ⟨l1 b e, mk5.l.lt e⟩, fun b e => .inr ⟨l2 b e, mk5.c.lt e⟩⟩
          · have hh := hm1 e0
            have hv := hv1 e0
            rw [hv]
            exact ⟨u.la, u.kb, u.lf, (hh ▸ mk4 : MK h5 A.M u.la u.kb u.lf u.c.n).ext hE6 (nS6 _ (nU _ (by rw [w.tM]; omega)) (by omega)) (fun b e => nS6 b (nU b (by rw [w.tl b e]; omega)) (by have h9 := w.mo.l.lt e; omega)) (fun b e => nS6 b (nU b (by rw [w.tc b e]; omega)) (by have h9 := w.mo.c.lt e; omega)), w.ck, w.fi, fun b e => .inl e, fun b e => .inl e⟩
        have hn6 := dr6.n
        have hna6 := dr6.na
        have hfin : ∃ (tg' : Nat → Nat) (u' : US), UI h6 tg' A u' (nb + 2) ∧ Ext (fun b => A.base ≤ b) h h6 := by
          obtain ⟨tgf, wf⟩ := w.go (hf := h6) (u' := ⟨v, la', kb', lf', s6⟩) (nb' := nb + 2) true h1.size h4.size h5.size h5.size 9 0 4 0 (by omega) dd6 c6 ckf fif mkf (by simp only []; rw [p1, p2, p3, o1, o2, o3]; exact rg6) (by simp only []; rw [p3, o3]; exact w.rl) (by simp only []; rw [p4, p5, o4, o5]; exact lt6) (by simp only []; rw [p5, o5]; exact w.ll) (by simp only []; rw [p6, p7, o6, o7]; exact IL.nil _) (by simp only []; rw [p7, o7]; simp) (by simp only []; rw [p8, p7, o8, o7]; exact IL.nil _) kpf (by simp only []; omega) (by simp only []; omega) (fun b e => by rcases tlf b e with q | q; (exact .inl q); (exact .inr (.inr (.inr (.inl ⟨q.1, q.2, rfl⟩))))) (fun b e => by rcases tcf b e with q | q; (exact .inl q); (exact .inr (.inr (.inr (.inl ⟨q.1, q.2, rfl⟩))))) (fun b e => .inl (by simp only [] at e; rw [p1, o1] at e; exact e)) (fun b e => .inl (by simp only [] at e; rw [p4, o4] at e; exact e)) (fun b e => by simp only [] at e; rw [p6, o6] at e; cases e) (fun b e => by simp only [] at e; rw [p8, o8] at e; cases e) (fun i hi b e => by
            rcases dr6.st i with q | q
            · rcases hst4 i with q2 | q2
              · exact .inl ⟨i, hi, by rw [← q2, ← q]; exact e⟩
              · exact .inr (.inl ⟨rfl, by rw [q, q2] at e; exact e⟩)
            · rw [q] at e; cases e; exact .inr (.inr (.inl ⟨Nat.le_refl _, hs1, rfl⟩)))
          exact ⟨tgf, _, wf, w.syb hEa⟩
        refine S_nil (hK12 _ _ (V_keep [1, 12] (by simp only [proj, lk, reduceIte, Nat.reduceEqDiff]; rfl) ?_)); clear hK12
        refine V_seq (fun K13 hK13 => ?_)
        refine V_sr T.mix (by kernel_rfl) (fun K14 hK14 => ?_)
        refine S_mv rfl ?_
        refine S_bin rfl rfl rfl ?_
        refine S_nil (hK14 _ _ (V_keep [1, 37] (by simp only [proj, lk, reduceIte, Nat.reduceEqDiff]; rfl) ?_)); clear hK14
        refine V_condp rfl (fun c278 => ?_) (fun c278 => ?_)
        · skip
          refine V_sr T.mix (by kernel_rfl) (fun K15 hK15 => ?_)
          refine S_as rfl ?_
          refine S_nil (hK15 _ _ (V_keep [8] (by simp only [proj, lk, reduceIte, Nat.reduceEqDiff]; rfl) ?_)); clear hK15
          refine V_ret ?_
          refine hR _ _ (ret1 rfl rfl ?_)
          exact ⟨rfl, hfin⟩
        · skip
          refine V_skipk [1] (by simp only [proj, lk, reduceIte, Nat.reduceEqDiff]; rfl) ?_
          refine hK13 _ _ ?_; clear hK13
          refine V_sr T.mix (by kernel_rfl) (fun K16 hK16 => ?_)
          refine S_mv rfl ?_
          refine S_call T.hb42 rfl ?_
          refine FC.mono (back_spec h6 A.M la' kb' lf' v.n mkf) ?_
          rintro v' h' ⟨rfl, rfl⟩
          refine S_as rfl ?_
          refine S_nil (hK16 _ _ (V_keep [8] (by simp only [proj, lk, reduceIte, Nat.reduceEqDiff]; rfl) ?_)); clear hK16
          refine V_ret ?_
          refine hR _ _ (ret1 rfl rfl ?_)
          exact ⟨rfl, hfin⟩
end Go.Proofs.Qxb6500407a
