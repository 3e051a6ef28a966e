import Derived.Test.Qxb6500407aXl
set_option linter.unusedVariables false
set_option linter.unusedSimpArgs false
namespace Go.Proofs.Qxb6500407a
open Go.Eng Go.Huf

theorem CK.kc {u v : HC} {lf : Nat → Nat} (k : CK u lf) (h : KC u v) : CK v lf := by
  obtain ⟨h1, h2, h3, h4, h5, h6⟩ := h
  exact ⟨by rw [h1]; exact k.n, by rw [h1, h2]; exact k.le, by rw [h1, h3]; exact k.cd, by rw [h1, h4, h5, h6]; exact k.tb, by rw [h1]; exact k.lw⟩
theorem planR_len (cl : List Int) (lim : Int) : (planR cl lim).length ≤ 265 := by
  unfold planR; split
  · rename_i h; rw [il_len]; exact (planE_inv h).1
  · simp
/-! ### the world -/
structure UA where
  base : Nat
  U : Nat
  X : Nat
  M : Nat
structure US where
  c : HC
  la : Option Addr
  kb : Option Addr
  lf : Nat → Nat
  d : DS
structure UI (h : Heap) (tg : Nat → Nat) (A : UA) (u : US) (nb : Nat) : Prop where
  dd : B h A.U (dcs u.d) 35
  cx : CB h A.X u.c
  ck : CK u.c u.lf
  fi : u.c.fill ≤ 265
  mo : MK h A.M u.la u.kb u.lf u.c.n
  rg : IL h u.d.ra u.d.rc u.d.rg
  rl : u.d.rg.length ≤ 266
  lt : IL h u.d.ta u.d.lt.length u.d.lt
  ll : u.d.lt.length ≤ 265
  xs : IL h u.d.xa u.d.xl.length u.d.xl
  xl : u.d.xl.length ≤ 265
  ms : IL h u.d.ma u.d.xl.length u.d.xl
  kp : ∀ i, i < 7 → Kp h (u.d.st i)
  n1 : u.d.n ≤ nb
  n2 : u.d.na ≤ nb
  tU : tg A.U = 1
  tC : ∀ b, CT A.X b → tg b = 2
  tM : tg A.M = 3
  tl : ∀ b, blkA u.la = some b → tg b = 4
  tc : ∀ b, blkA u.kb = some b → tg b = 4
  tr : ∀ b, blkA u.d.ra = some b → tg b = 5
  tt : ∀ b, blkA u.d.ta = some b → tg b = 6
  tx : ∀ b, blkA u.d.xa = some b → tg b = 7
  tm : ∀ b, blkA u.d.ma = some b → tg b = 8
  tk : ∀ i, i < 7 → ∀ b, blkA (u.d.st i).1 = some b → tg b = 9
  z : ∀ b, h.size ≤ b → tg b = 0
  lo : ∀ b, b < A.base → tg b = 0
  hb : A.base ≤ h.size
section ui
variable {h : Heap} {tg : Nat → Nat} {A : UA} {u : US} {nb : Nat}
theorem UI.lt1 (w : UI h tg A u nb) : A.U < h.size ∧ A.X + 10 < h.size ∧ A.M < h.size := ⟨w.dd.lt, w.cx.lt, w.mo.t.lt⟩
theorem UI.bs (w : UI h tg A u nb) {b : Nat} (hb : tg b ≠ 0) : A.base ≤ b := by
  rcases Nat.lt_or_ge b A.base with q | q
  · exact absurd (w.lo b q) hb
  · exact q
theorem UI.new (w : UI h tg A u nb) {h' : Heap} (he : Ext (fun _ => False) h h') : UI h' tg A u nb :=
  ⟨w.dd.ext he (fun f => f), w.cx.new he, w.ck, w.fi, w.mo.new he, w.rg.ext he (fun _ _ f => f), w.rl, w.lt.ext he (fun _ _ f => f), w.ll, w.xs.ext he (fun _ _ f => f), w.xl, w.ms.ext he (fun _ _ f => f), fun i hi => (w.kp i hi).ext he (fun _ _ f => f), w.n1, w.n2, w.tU, w.tC, w.tM, w.tl, w.tc, w.tr, w.tt, w.tx, w.tm, w.tk, fun b hb => w.z b (Nat.le_trans he.1 hb), w.lo, Nat.le_trans w.hb he.1⟩
theorem UI.up (w : UI h tg A u nb) {nb' : Nat} (hn : nb ≤ nb') : UI h tg A u nb' :=
  ⟨w.dd, w.cx, w.ck, w.fi, w.mo, w.rg, w.rl, w.lt, w.ll, w.xs, w.xl, w.ms, w.kp, Nat.le_trans w.n1 hn, Nat.le_trans w.n2 hn, w.tU, w.tC, w.tM, w.tl, w.tc, w.tr, w.tt, w.tx, w.tm, w.tk, w.z, w.lo, w.hb⟩
/-- new blocks, by their place -/
def Qt (n k1 k2 k3 k4 t1 t2 t3 t4 t b : Nat) : Prop := (n ≤ b ∧ b < k1 ∧ t1 = t) ∨ (k1 ≤ b ∧ b < k2 ∧ t2 = t) ∨ (k2 ≤ b ∧ b < k3 ∧ t3 = t) ∨ (k3 ≤ b ∧ b < k4 ∧ t4 = t)
open Classical in
/-- the world turns: the last answer may be stamped; new lists come in -/
theorem UI.go (w : UI h tg A u nb) {hf : Heap} {u' : US} {nb' : Nat} (r : Bool) (k1 k2 k3 k4 t1 t2 t3 t4 : Nat) (hk : h.size ≤ k1 ∧ k1 ≤ k2 ∧ k2 ≤ k3 ∧ k3 ≤ k4 ∧ k4 ≤ hf.size)
    (dd : B hf A.U (dcs u'.d) 35) (cx : CB hf A.X u'.c) (ck : CK u'.c u'.lf) (fi : u'.c.fill ≤ 265) (mk : MK hf A.M u'.la u'.kb u'.lf u'.c.n) (rg : IL hf u'.d.ra u'.d.rc u'.d.rg) (rl : u'.d.rg.length ≤ 266) (lt : IL hf u'.d.ta u'.d.lt.length u'.d.lt) (ll : u'.d.lt.length ≤ 265) (xs : IL hf u'.d.xa u'.d.xl.length u'.d.xl) (xl : u'.d.xl.length ≤ 265) (ms : IL hf u'.d.ma u'.d.xl.length u'.d.xl) (kp : ∀ i, i < 7 → Kp hf (u'.d.st i)) (n1 : u'.d.n ≤ nb') (n2 : u'.d.na ≤ nb')
    (tl : ∀ b, blkA u'.la = some b → blkA u.la = some b ∨ Qt h.size k1 k2 k3 k4 t1 t2 t3 t4 4 b) (tc : ∀ b, blkA u'.kb = some b → blkA u.kb = some b ∨ Qt h.size k1 k2 k3 k4 t1 t2 t3 t4 4 b) (tr : ∀ b, blkA u'.d.ra = some b → blkA u.d.ra = some b ∨ Qt h.size k1 k2 k3 k4 t1 t2 t3 t4 5 b) (tt : ∀ b, blkA u'.d.ta = some b → blkA u.d.ta = some b ∨ Qt h.size k1 k2 k3 k4 t1 t2 t3 t4 6 b)
    (tx : ∀ b, blkA u'.d.xa = some b → (r = false ∧ blkA u.d.xa = some b) ∨ Qt h.size k1 k2 k3 k4 t1 t2 t3 t4 7 b) (tm : ∀ b, blkA u'.d.ma = some b → blkA u.d.ma = some b ∨ Qt h.size k1 k2 k3 k4 t1 t2 t3 t4 8 b) (tk : ∀ i, i < 7 → ∀ b, blkA (u'.d.st i).1 = some b → (∃ j, j < 7 ∧ blkA (u.d.st j).1 = some b) ∨ (r = true ∧ blkA u.d.xa = some b) ∨ Qt h.size k1 k2 k3 k4 t1 t2 t3 t4 9 b) : ∃ tg', UI hf tg' A u' nb' := by
  have hl := w.lt1
  obtain ⟨tg', g0, g9, gq, gz⟩ : ∃ tg' : Nat → Nat, (∀ b, b < h.size → ¬ (r = true ∧ blkA u.d.xa = some b) → tg' b = tg b) ∧ (∀ b, b < h.size → r = true → blkA u.d.xa = some b → tg' b = 9) ∧ (∀ t b, Qt h.size k1 k2 k3 k4 t1 t2 t3 t4 t b → tg' b = t) ∧ (∀ b, k4 ≤ b → tg' b = 0) := by
    refine ⟨fun b => if b < h.size then (if r = true ∧ blkA u.d.xa = some b then 9 else tg b) else if b < k1 then t1 else if b < k2 then t2 else if b < k3 then t3 else if b < k4 then t4 else 0, fun b hb e => ?_, fun b hb e1 e2 => ?_, fun t b q => ?_, fun b hb => ?_⟩
    · simp only []; rw [if_pos hb, if_neg e]
    · simp only []; rw [if_pos hb, if_pos ⟨e1, e2⟩]
    · simp only []
      rcases q with ⟨a1, a2, a3⟩ | ⟨a1, a2, a3⟩ | ⟨a1, a2, a3⟩ | ⟨a1, a2, a3⟩
      · rw [if_neg (by omega), if_pos a2, a3]
      · rw [if_neg (by omega), if_neg (by omega), if_pos a2, a3]
      · rw [if_neg (by omega), if_neg (by omega), if_neg (by omega), if_pos a2, a3]
      · rw [if_neg (by omega), if_neg (by omega), if_neg (by omega), if_neg (by omega), if_pos a2, a3]
    · simp only []; rw [if_neg (by omega), if_neg (by omega), if_neg (by omega), if_neg (by omega), if_neg (by omega)]
  have old : ∀ b, b < h.size → tg b ≠ 7 → tg' b = tg b := fun b hb hn => g0 b hb (fun e => hn (w.tx b e.2))
  refine ⟨tg', dd, cx, ck, fi, mk, rg, rl, lt, ll, xs, xl, ms, kp, n1, n2, by rw [old _ hl.1 (by rw [w.tU]; omega)]; exact w.tU, fun b hb => ?_, by rw [old _ hl.2.2 (by rw [w.tM]; omega)]; exact w.tM, fun b e => ?_, fun b e => ?_, fun b e => ?_, fun b e => ?_, fun b e => ?_, fun b e => ?_, fun i hi b e => ?_, fun b hb => gz b (by omega), fun b hb => ?_, by have := w.hb; omega⟩
  · rw [old b (by have := hb.2; omega) (by rw [w.tC b hb]; omega)]; exact w.tC b hb
  · rcases tl b e with q | q
    · rw [old b (w.mo.l.lt q) (by rw [w.tl b q]; omega)]; exact w.tl b q
    · exact gq 4 b q
  · rcases tc b e with q | q
    · rw [old b (w.mo.c.lt q) (by rw [w.tc b q]; omega)]; exact w.tc b q
    · exact gq 4 b q
  · rcases tr b e with q | q
    · rw [old b (w.rg.lt q) (by rw [w.tr b q]; omega)]; exact w.tr b q
    · exact gq 5 b q
  · rcases tt b e with q | q
    · rw [old b (w.lt.lt q) (by rw [w.tt b q]; omega)]; exact w.tt b q
    · exact gq 6 b q
  · rcases tx b e with ⟨q1, q⟩ | q
    · rw [g0 b (w.xs.lt q) (fun z => by rw [q1] at z; cases z.1)]; exact w.tx b q
    · exact gq 7 b q
  · rcases tm b e with q | q
    · rw [old b (w.ms.lt q) (by rw [w.tm b q]; omega)]; exact w.tm b q
    · exact gq 8 b q
  · rcases tk i hi b e with ⟨j, hj, q⟩ | ⟨q1, q⟩ | q
    · rw [old b ((w.kp j hj).1.lt q) (by rw [w.tk j hj b q]; omega)]; exact w.tk j hj b q
    · exact g9 b (w.xs.lt q) q1 q
    · exact gq 9 b q
  · have := w.hb
    rw [old b (by omega) (by rw [w.lo b hb]; omega)]; exact w.lo b hb
/-- what a step of the law may turn of the old memory -/
def Sx (h : Heap) (A : UA) (u : US) (b : Nat) : Prop := b = A.U ∨ CT A.X b ∨ blkA u.d.xa = some b ∨ h.size ≤ b
theorem UI.nsx (w : UI h tg A u nb) {b : Nat} (hb : b < h.size) (h1 : tg b ≠ 1) (h2 : tg b ≠ 2) (h7 : tg b ≠ 7) : ¬ Sx h A u b := fun z => by
  rcases z with z | z | z | z
  · exact h1 (by rw [z]; exact w.tU)
  · exact h2 (w.tC b z)
  · exact h7 (w.tx b z)
  · omega
theorem UI.oldk (w : UI h tg A u nb) {hf : Heap} (he : Ext (Sx h A u) h hf) : (∀ i, i < 7 → Kp hf (u.d.st i)) ∧ IL hf u.d.ra u.d.rc u.d.rg ∧ IL hf u.d.ta u.d.lt.length u.d.lt ∧ MK hf A.M u.la u.kb u.lf u.c.n := by
  have hl := w.lt1
  refine ⟨fun i hi => (w.kp i hi).ext he (fun b e => ?_), w.rg.ext he (fun b e => ?_), w.lt.ext he (fun b e => ?_), w.mo.ext he ?_ (fun b e => ?_) (fun b e => ?_)⟩
  · have h9 := w.tk i hi b e; exact w.nsx ((w.kp i hi).1.lt e) (by omega) (by omega) (by omega)
  · have h9 := w.tr b e; exact w.nsx (w.rg.lt e) (by omega) (by omega) (by omega)
  · have h9 := w.tt b e; exact w.nsx (w.lt.lt e) (by omega) (by omega) (by omega)
  · have h9 := w.tM; exact w.nsx hl.2.2 (by omega) (by omega) (by omega)
  · have h9 := w.tl b e; exact w.nsx (w.mo.l.lt e) (by omega) (by omega) (by omega)
  · have h9 := w.tc b e; exact w.nsx (w.mo.c.lt e) (by omega) (by omega) (by omega)
theorem UI.sxb (w : UI h tg A u nb) {hf : Heap} (he : Ext (Sx h A u) h hf) : Ext (fun b => A.base ≤ b) h hf := he.mono fun b e => by
  rcases e with e | e | e | e
  · exact w.bs (by rw [e, w.tU]; omega)
  · exact w.bs (by rw [w.tC b e]; omega)
  · exact w.bs (by rw [w.tx b e]; omega)
  · have := w.hb; omega
end ui
set_option maxHeartbeats 6400000 in
theorem sameplan_spec (h : Heap) (tg : Nat → Nat) (A : UA) (u : US) (nb : Nat) (w : UI h tg A u nb) (ca : Option Addr) (cap : Nat) (cl : List Int) (hIl : IL h ca cap cl) (hcl : cl.length ≤ 266) (hct : ∀ b, blkA ca = some b → tg b ≠ 1 ∧ tg b ≠ 2 ∧ tg b ≠ 3 ∧ tg b ≠ 7) (hnb : nb ≤ 800000000000000) (lim : Int) :
    FC Try.prog 21 (#[.pointer (some ⟨A.X, 0, none⟩), .pointer (some ⟨A.M, 0, none⟩), .pointer (some ⟨A.U, 0, none⟩), .slice ca cl.length cap, .int .i64 lim] : Array Value) h fun rv h' => rv = .bool true ∧ ∃ (tg' : Nat → Nat) (u' : US), UI h' tg' A u' (nb + 2) ∧ Ext (fun b => A.base ≤ b) h h' := by
  have hlt := w.lt1
  have hwb := w.hb
  have hn1 := w.n1
  have hn2 := w.n2
  have hxl := w.xl
  have cll := fun b e => hIl.lt (b := b) e
  have nC : ∀ b, tg b ≠ 2 → ¬ CT A.X b := fun b e z => e (w.tC b z)
  have nCx : ∀ b, h.size ≤ b → ¬ CT A.X b := fun b e z => by have h9 := z.2; omega
  have nU : ∀ b, tg b ≠ 1 → b ≠ A.U := fun b e z => e (by rw [z]; exact w.tU)
  have nM : ∀ b, tg b ≠ 3 → b ≠ A.M := fun b e z => e (by rw [z]; exact w.tM)
  have nX : ∀ b, tg b ≠ 7 → ¬ blkA u.d.xa = some b := fun b e z => e (w.tx b z)
  have hpl := planR_len cl lim
  refine FC_of [(0, .pointer (some ⟨A.X, 0, none⟩)), (1, .pointer (some ⟨A.M, 0, none⟩)), (2, .pointer (some ⟨A.U, 0, none⟩)), (3, .slice ca cl.length cap), (4, .int .i64 lim)] Try.func21 rfl Try.ntmps21 (by simp) rfl (fun R hR => ?_)
  refine V_sr T.mix (by kernel_rfl) (fun K1 hK1 => ?_)
  refine S_as rfl ?_
  refine S_nil (hK1 _ _ (V_keep [0, 1, 2, 3, 4] (by simp only [proj, lk, reduceIte, Nat.reduceEqDiff]; rfl) ?_)); clear hK1
  refine V_sr T.mix (by kernel_rfl) (fun K2 hK2 => ?_)
  refine S_mv rfl ?_
  refine S_call T.hb32 rfl ?_
  refine FC.mono (lend_spec h ca cap cl hIl (by omega)) ?_
  rintro v' h1 ⟨rfl, bl1, hs1, hE1⟩
  have hI1 := hIl.ext hE1 (fun _ _ f => f)
  refine S_as rfl ?_
  refine S_nil (hK2 _ _ (V_keep [0, 1, 2, 3, 4, 11] (by simp only [proj, lk, reduceIte, Nat.reduceEqDiff]; rfl) ?_)); clear hK2
  refine V_sr T.mix (by kernel_rfl) (fun K3 hK3 => ?_)
  refine S_mv rfl ?_
  refine S_call T.hb33 rfl ?_
  refine FC.mono (copyints_spec h1 ca cap cl hI1 (by omega)) ?_
  rintro v' h2 ⟨rfl, bm2, hs2, hE2⟩
  have hI2 := hI1.ext hE2 (fun _ _ f => f)
  have bl2 := bl1.ext hE2 (fun f => f)
  have hcx2 : IL h2 (some ⟨h.size, 0, none⟩) (cl.length + 4) cl := by have h9 := bl_pre (show BL h2 h.size (cl ++ List.replicate 4 (-5151515)) from bl2); rw [List.length_append, List.length_replicate] at h9; exact h9
  have hE02 := hE1.trans hE2
  have w2 := w.new hE02
  refine S_as rfl ?_
  refine S_nil (hK3 _ _ (V_keep [0, 1, 2, 3, 4, 11, 12] (by simp only [proj, lk, reduceIte, Nat.reduceEqDiff]; rfl) ?_)); clear hK3
  refine V_sr T.mix (by kernel_rfl) (fun K4 hK4 => ?_)
  refine S_mv rfl ?_
  refine S_mv rfl ?_
  refine S_mv rfl ?_
  refine S_call T.hb34 rfl ?_
  refine FC.mono (plan_spec h2 A.X u.c w2.cx (some ⟨h.size, 0, none⟩) (cl.length + 4) cl hcx2 (fun b e => by cases e; exact nCx _ (Nat.le_refl _)) lim w.fi) ?_
  rintro v' h3 ⟨xa, v, rfl, hx3, hxb, c3, kc3, hf3, hE3⟩
  refine S_mv rfl ?_
  refine S_ex rfl rfl ?_
  refine S_ex rfl rfl ?_
  refine S_as rfl ?_
  refine S_as rfl ?_
  refine S_nil (hK4 _ _ (V_keep [1, 2, 3, 4, 11, 12, 13, 14] (by simp only [proj, lk, reduceIte, Nat.reduceEqDiff]; rfl) ?_)); clear hK4
  refine V_seq (fun K5 hK5 => ?_)
  refine V_sr T.mix (by kernel_rfl) (fun K6 hK6 => ?_)
  refine S_mv rfl ?_
  refine S_call T.hb24 rfl ?_
  have dd3 := w2.dd.ext hE3 (nC _ (by rw [w.tU]; omega))
  have kp3 : ∀ i, i < 7 → Kp h3 (u.d.st i) := fun i hi => (w2.kp i hi).ext hE3 (fun b e => nC b (by rw [w.tk i hi b e]; omega))
  have xs3 := w2.xs.ext hE3 (fun b e => nC b (by rw [w.tx b e]; omega))
  have ms3 := w2.ms.ext hE3 (fun b e => nC b (by rw [w.tm b e]; omega))
  refine FC.mono (again_spec h3 A.U u.d dd3 kp3 xs3 ms3 (fun b e => nU b (by rw [w.tx b e]; omega)) (by omega) (by omega) (by omega)) ?_
  rintro v' h4 ⟨rfl, s4, dd4, kpx4, hst4, hn4, hna4, ⟨o1, o2, o3, o4, o5, o6, o7, o8⟩, hE4⟩
  have hz3 := hE3.1
  have hz4 := hE4.1
  have nS4 : ∀ b, h.size ≤ b → ¬ (b = A.U ∨ blkA u.d.xa = some b) := fun b e z => by rcases z with z | z; (omega); (have h9 := w.xs.lt z; omega)
  have nT4 : ∀ b, tg b ≠ 1 → tg b ≠ 7 → ¬ (b = A.U ∨ blkA u.d.xa = some b) := fun b h1_ h2_ z => by rcases z with z | z; (exact nU b h1_ z); (exact nX b h2_ z)
  have bl4 := (bl2.ext hE3 (nCx _ (Nat.le_refl _))).ext hE4 (nS4 _ (Nat.le_refl _))
  have bm4 := (bm2.ext hE3 (nCx _ (by omega))).ext hE4 (nS4 _ (by omega))
  have hI4 := (hI2.ext hE3 (fun b e => nC b (hct b e).2.1)).ext hE4 (fun b e => nT4 b (hct b e).1 (hct b e).2.2.2)
  have hx4 := hx3.ext hE4 (fun b e => nS4 b (by have h9 := hxb b e; omega))
  refine S_notb rfl ?_
  refine S_nil (hK6 _ _ (V_keep [1, 2, 3, 4, 11, 12, 13, 14, 30] (by simp only [proj, lk, reduceIte, Nat.reduceEqDiff]; rfl) ?_)); clear hK6
  refine V_condb rfl (fun c239 => ?_) (fun c239 => ?_)
  · skip
    cases c239
  · skip
    refine V_skipk [1, 2, 3, 4, 11, 12, 13, 14] (by simp only [proj, lk, reduceIte, Nat.reduceEqDiff]; rfl) ?_
    refine hK5 _ _ ?_; clear hK5
    refine V_sr T.mix (by kernel_rfl) (fun K7 hK7 => ?_)
    refine S_mv rfl ?_
    refine S_mv rfl ?_
    refine S_mv rfl ?_
    refine S_call T.hb35 rfl ?_
    refine FC.mono (mplan_spec h4 A.M (some ⟨h1.size, 0, none⟩) cl.length cl (show BL h4 h1.size cl from bm4).IL lim) ?_
    rintro v' h5 ⟨xm, rfl, hm5, hmb, hE5⟩
    have dd5 := dd4.ext hE5 (fun f => f)
    have bl5 := bl4.ext hE5 (fun f => f)
    have hI5 := hI4.ext hE5 (fun _ _ f => f)
    have hx5 := hx4.ext hE5 (fun _ _ f => f)
    refine S_mv rfl ?_
    refine S_ex rfl rfl ?_
    refine S_ex rfl rfl ?_
    refine S_as rfl ?_
    refine S_as rfl ?_
    refine S_nil (hK7 _ _ (V_keep [2, 3, 4, 11, 13, 14, 15, 16] (by simp only [proj, lk, reduceIte, Nat.reduceEqDiff]; rfl) ?_)); clear hK7
    refine V_seq (fun K8 hK8 => ?_)
    refine V_sr T.mix (by kernel_rfl) (fun K9 hK9 => ?_)
    refine S_mv rfl ?_
    refine S_mv rfl ?_
    refine S_bin rfl rfl rfl ?_
    refine S_mv rfl ?_
    refine S_dec (fun g243 => ?_) (fun g243 => ?_)
    · skip
      exact absurd rfl g243
    · skip
      refine S_gt rfl ?_
      refine S_mv rfl ?_
      refine S_gt rfl ?_
      refine S_capl T.el32 rfl ?_
      refine S_gt rfl ?_
      refine S_mv rfl ?_
      refine S_gt rfl ?_
      refine S_lenl T.el32 rfl ?_
      refine S_gt rfl ?_
      refine S_bin rfl rfl rfl ?_
      refine S_pf rfl rfl ?_
      refine S_nil (hK9 _ _ (V_keep [2, 3, 4, 11, 13, 15, 16, 47] (by simp only [proj, lk, reduceIte, Nat.reduceEqDiff]; rfl) ?_)); clear hK9
      refine V_condp rfl (fun c243 => ?_) (fun c243 => ?_)
      · skip
        exact absurd rfl c243
      · skip
        refine V_skipk [2, 3, 4, 11, 13, 15, 16] (by simp only [proj, lk, reduceIte, Nat.reduceEqDiff]; rfl) ?_
        refine hK8 _ _ ?_; clear hK8
        refine V_seq (fun K10 hK10 => ?_)
        refine V_sr T.mix (by kernel_rfl) (fun K11 hK11 => ?_)
        refine S_mv rfl ?_
        refine S_mv rfl ?_
        refine S_call T.hb36 rfl ?_
        refine FC.mono (sameints_spec h5 xa xm _ _ (planR cl lim) (planR cl lim) hx5 hm5 (by omega) (by omega)) ?_
        rintro v' h' ⟨rfl, rfl⟩
        refine S_notb rfl ?_
        refine S_nil (hK11 _ _ (V_keep [2, 3, 4, 11, 13, 15, 16, 51] (by simp only [proj, lk, reduceIte, Nat.reduceEqDiff]; rfl) ?_)); clear hK11
        refine V_condb rfl (fun c246 => ?_) (fun c246 => ?_)
        · skip
          exfalso; simp at c246
        · skip
          refine V_skipk [2, 3, 4, 11, 13, 15, 16] (by simp only [proj, lk, reduceIte, Nat.reduceEqDiff]; rfl) ?_
          refine hK10 _ _ ?_; clear hK10
          refine V_seq (fun K12 hK12 => ?_)
          refine V_sr T.mix (by kernel_rfl) (fun K13 hK13 => ?_)
          refine S_mv rfl ?_
          refine S_mv rfl ?_
          refine S_call T.hb37 rfl ?_
          refine FC.mono (unread_spec h5 h.size cl (show BL h5 h.size (cl ++ List.replicate 4 (-5151515)) from bl5) ca cap hI5 (by omega)) ?_
          rintro v' h' ⟨rfl, rfl⟩
          refine S_notb rfl ?_
          refine S_nil (hK13 _ _ (V_keep [2, 3, 4, 11, 13, 15, 16, 55] (by simp only [proj, lk, reduceIte, Nat.reduceEqDiff]; rfl) ?_)); clear hK13
          refine V_condb rfl (fun c249 => ?_) (fun c249 => ?_)
          · skip
            cases c249
          · skip
            refine V_skipk [2, 3, 4, 11, 13, 15, 16] (by simp only [proj, lk, reduceIte, Nat.reduceEqDiff]; rfl) ?_
            refine hK12 _ _ ?_; clear hK12
            refine V_sr T.mix (by kernel_rfl) (fun K14 hK14 => ?_)
            refine S_mv rfl ?_
            refine S_mv rfl ?_
            refine S_call T.hb38 rfl ?_
            have hcx5 : IL h5 (some ⟨h.size, 0, none⟩) (cl ++ List.replicate 4 (-5151515)).length (cl ++ List.replicate 4 (-5151515)) := (show BL h5 h.size (cl ++ List.replicate 4 (-5151515)) from bl5).IL
            have htk := took_spec h5 A.U s4 dd5 (some ⟨h.size, 0, none⟩) cl.length (cl ++ List.replicate 4 (-5151515)) hcx5 (fun b e => by cases e; show h.size ≠ A.U; omega) (by rw [List.length_append, List.length_replicate]; omega) (by omega) (by omega)
            rw [List.length_append, List.length_replicate] at htk
            refine FC.mono htk ?_
            rintro v' h6 ⟨rfl, s6, dd6, kp6, dr6, hE6⟩
            obtain ⟨p1, p2, p3, p4, p5, p6, p7, p8⟩ := dr6.o
            have hz5 := hE5.1
            have hz6 := hE6.1
            have nS6 : ∀ b, b ≠ A.U → b ≠ h.size → ¬ (b = A.U ∨ blkA (some (⟨h.size, 0, none⟩ : Addr)) = some b) := fun b h1_ h2_ z => by rcases z with z | z; (exact h1_ z); (cases z; exact h2_ rfl)
            have hx6 := hx5.ext hE6 (fun b e => nS6 b (by have h9 := hxb b e; omega) (by have h9 := hxb b e; omega))
            have hm6 := hm5.ext hE6 (fun b e => nS6 b (by have h9 := hmb b e; omega) (by have h9 := hmb b e; omega))
            have hdok : ∀ j, j < 15 → okPut h6 ⟨A.U, j, none⟩ = true := fun j hj => dd6.ok (by simpa [dcs] using hj)
            refine S_nil (hK14 _ _ (V_keep [2, 3, 4, 13, 15, 16] (by simp only [proj, lk, reduceIte, Nat.reduceEqDiff]; rfl) ?_)); clear hK14
            refine V_sr T.mix (by kernel_rfl) (fun K15 hK15 => ?_)
            refine S_mv rfl ?_
            refine S_mv rfl ?_
            refine S_nc rfl ?_
            first | refine S_fa0 T.f35_2 rfl ?_ | refine S_fa T.f35_2 rfl ?_
            refine S_st T.sz32 rfl rfl rfl rfl (by simp (disch := omega) only [hdok]) ?_
            generalize hh : putH _ _ _ = h7
            have hE7 : Ext (fun b => b = A.U) h6 h7 := by rw [← hh]; exact Ext.put _ _ rfl
            have dd7 : B h7 A.U ((dcs s6).setIfInBounds 2 (.slice xa (planR cl lim).length (planR cl lim).length)) 35 := by rw [← hh]; exact dd6.put 2 _
            clear hh
            have hdok : ∀ j, j < 15 → okPut h7 ⟨A.U, j, none⟩ = true := fun j hj => dd7.ok (by simpa [dcs] using hj)
            refine S_nil (hK15 _ _ (V_keep [2, 3, 4, 15, 16] (by simp only [proj, lk, reduceIte, Nat.reduceEqDiff]; rfl) ?_)); clear hK15
            refine V_sr T.mix (by kernel_rfl) (fun K16 hK16 => ?_)
            refine S_mv rfl ?_
            refine S_mv rfl ?_
            refine S_nc rfl ?_
            first | refine S_fa0 T.f35_3 rfl ?_ | refine S_fa T.f35_3 rfl ?_
            refine S_st T.sz32 rfl rfl rfl rfl (by simp (disch := omega) only [hdok]) ?_
            generalize hh : putH _ _ _ = h8
            have hE8 : Ext (fun b => b = A.U) h7 h8 := by rw [← hh]; exact Ext.put _ _ rfl
            have dd8 : B h8 A.U (dcs { s6 with xa := xa, xl := (planR cl lim), ma := xm }) 35 := by rw [← hh]; exact (dd7.put 3 _).cong (by simp [dcs])
            clear hh
            have hE68 := hE7.trans hE8
            have hz8 := hE68.1
            have hm8 := hm6.ext hE68 (fun b e => by have h9 := hmb b e; omega)
            have hx8 := hx6.ext hE68 (fun b e => by have h9 := hxb b e; omega)
            have hEa : Ext (Sx h A u) h h8 := ((((((hE02.mono fun _ f => f.elim)).trans (hE3.mono fun _ e => .inr (.inl e))).trans (hE4.mono fun b e => by rcases e with e | e; (exact .inl e); (exact .inr (.inr (.inl e))))).trans (hE5.mono fun _ f => f.elim)).trans (hE6.mono fun b e => by rcases e with e | e; (exact .inl e); (cases e; exact .inr (.inr (.inr (Nat.le_refl _)))))).trans (hE68.mono fun _ e => .inl e)
            obtain ⟨kold, rg8, lt8, mk8⟩ := w.oldk hEa
            have hE46 : Ext (fun b => b = A.U ∨ b = h.size) h4 h8 := ((hE5.mono fun _ f => f.elim).trans (hE6.mono fun b e => by rcases e with e | e; (exact .inl e); (cases e; exact .inr rfl))).trans (hE68.mono fun _ e => .inl e)
            have c8 : CB h8 A.X v := (c3.ext hE4 (fun b hb => nT4 b (by rw [w.tC b hb]; omega) (by rw [w.tC b hb]; omega))).ext hE46 (fun b hb e => by rcases e with e | e; (have h9 := w.tC b hb; rw [e, w.tU] at h9; omega); (have h9 := hb.2; omega))
            have kxf : Kp h8 (u.d.xa, u.d.xl.length) := kpx4.ext hE46 (fun b e z => by rcases z with z | z; (exact nU b (by rw [w.tx b e]; omega) z); (have h9 := w.xs.lt e; omega))
            have kcf : Kp h8 ((some ⟨h.size, 0, none⟩), cl.length + 4) := kp6.ext hE68 (fun b e => by cases e; show h.size ≠ A.U; omega)
            have kpf : ∀ i, i < 7 → Kp h8 (s6.st i) := fun i hi => by
              rcases dr6.st i with q | q
              · rcases hst4 i with q2 | q2
                · rw [q, q2]; exact kold i hi
                · rw [q, q2]; exact kxf
              · rw [q]; exact kcf
            have mk8v : MK h8 A.M u.la u.kb u.lf v.n := by rw [kc3.1]; exact mk8
            have hn6 := dr6.n
            have hna6 := dr6.na
            have hI8 := hIl.ext hEa (fun b e => w.nsx (cll b e) (hct b e).1 (hct b e).2.1 (hct b e).2.2.2)
            have hxlt : ∀ b, blkA xa = some b → b < h3.size := fun b e => hx3.lt e
            have hmlt : ∀ b, blkA xm = some b → b < h5.size := fun b e => hm5.lt e
            refine S_nil (hK16 _ _ (V_keep [2, 3, 4, 15, 16] (by simp only [proj, lk, reduceIte, Nat.reduceEqDiff]; rfl) ?_)); clear hK16
            refine V_seq (fun K17 hK17 => ?_)
            refine V_sr T.mix (by kernel_rfl) (fun K18 hK18 => ?_)
            refine S_mv rfl ?_
            refine S_bin rfl rfl rfl ?_
            refine S_nil (hK18 _ _ (V_keep [2, 3, 4, 15, 68] (by simp only [proj, lk, reduceIte, Nat.reduceEqDiff]; rfl) ?_)); clear hK18
            refine V_condp rfl (fun c255 => ?_) (fun c255 => ?_)
            · skip
              refine V_sr T.mix (by kernel_rfl) (fun K19 hK19 => ?_)
              refine S_as rfl ?_
              refine S_nil (hK19 _ _ (V_keep [10] (by simp only [proj, lk, reduceIte, Nat.reduceEqDiff]; rfl) ?_)); clear hK19
              refine V_ret ?_
              refine hR _ _ (ret1 rfl rfl ?_)
              obtain ⟨tgf, wf⟩ := w.go (hf := h8) (u' := ⟨v, u.la, u.kb, u.lf, { s6 with xa := xa, xl := (planR cl lim), ma := xm }⟩) (nb' := nb + 2) true h1.size h3.size h5.size h5.size 9 7 8 0 (by omega) dd8 c8 (w.ck.kc kc3) hf3 mk8v (by simp only []; rw [p1, p2, p3, o1, o2, o3]; exact rg8) (by simp only []; rw [p3, o3]; exact w.rl) (by simp only []; rw [p4, p5, o4, o5]; exact lt8) (by simp only []; rw [p5, o5]; exact w.ll) hx8 hpl hm8 kpf (by simp only []; omega) (by simp only []; omega) (fun b e => .inl e) (fun b e => .inl e) (fun b e => .inl (by simp only [] at e; rw [p1, o1] at e; exact e)) (fun b e => .inl (by simp only [] at e; rw [p4, o4] at e; exact e)) (fun b e => .inr (.inr (.inl ⟨by have h9 := hxb b e; omega, hxlt b e, rfl⟩))) (fun b e => .inr (.inr (.inr (.inl ⟨by have h9 := hmb b e; omega, hmlt b e, rfl⟩)))) (fun i hi b e => by
                rcases dr6.st i with q | q
                · rcases hst4 i with q2 | q2
                  · exact .inl ⟨i, hi, by rw [← q2, ← q]; exact e⟩
                  · exact .inr (.inl ⟨rfl, by rw [q, q2] at e; exact e⟩)
                · rw [q] at e; cases e; exact .inr (.inr (.inl ⟨Nat.le_refl _, hs1, rfl⟩)))
              exact ⟨rfl, tgf, _, wf, w.sxb hEa⟩
            · skip
              refine V_skipk [2, 3, 4, 15] (by simp only [proj, lk, reduceIte, Nat.reduceEqDiff]; rfl) ?_
              refine hK17 _ _ ?_; clear hK17
              refine V_sr T.mix (by kernel_rfl) (fun K20 hK20 => ?_)
              refine S_mv rfl ?_
              refine S_mv rfl ?_
              refine S_call T.hb33 rfl ?_
              refine FC.mono (copyints_spec h8 xm _ (planR cl lim) hm8 (by omega)) ?_
              rintro v' h9 ⟨rfl, bt9, hs9, hE9⟩
              have dd9 := dd8.ext hE9 (fun f => f)
              have hdok : ∀ j, j < 15 → okPut h9 ⟨A.U, j, none⟩ = true := fun j hj => dd9.ok (by simpa [dcs] using hj)
              refine S_nc rfl ?_
              first | refine S_fa0 T.f35_1 rfl ?_ | refine S_fa T.f35_1 rfl ?_
              refine S_st T.sz32 rfl rfl rfl rfl (by simp (disch := omega) only [hdok]) ?_
              generalize hh : putH _ _ _ = h10
              have hE10 : Ext (fun b => b = A.U) h9 h10 := by rw [← hh]; exact Ext.put _ _ rfl
              have dd10 : B h10 A.U (dcs { s6 with xa := xa, xl := (planR cl lim), ma := xm, ta := some ⟨h8.size, 0, none⟩, lt := (planR cl lim) }) 35 := by rw [← hh]; exact (dd9.put 1 _).cong (by simp [dcs])
              clear hh
              have hz10 := hE10.1
              have hI10 := (hI8.ext hE9 (fun _ _ f => f)).ext hE10 (fun b e => nU b (hct b e).1)
              have hm10 := (hm8.ext hE9 (fun _ _ f => f)).ext hE10 (fun b e => by have h9 := hmb b e; omega)
              have he0 : planE cl lim = 0 := by omega
              refine S_nil (hK20 _ _ (V_keep [3, 4, 15] (by simp only [proj, lk, reduceIte, Nat.reduceEqDiff]; rfl) ?_)); clear hK20
              refine V_sr T.mix (by kernel_rfl) (fun K21 hK21 => ?_)
              refine S_mv rfl ?_
              refine S_mv rfl ?_
              refine S_mv rfl ?_
              refine S_call T.hb39 rfl ?_
              obtain ⟨L, hL⟩ : ∃ L : Nat, lim = L := ⟨lim.toNat, by have h9 := (planE_inv he0).2.1; omega⟩
              subst hL
              refine FC.mono (keeps_spec h10 ca cap cl hI10 L he0 xm _ hm10) ?_
              rintro v' h11 ⟨rfl, hE11⟩
              refine S_as rfl ?_
              refine S_nil (hK21 _ _ (V_keep [10] (by simp only [proj, lk, reduceIte, Nat.reduceEqDiff]; rfl) ?_)); clear hK21
              refine V_ret ?_
              refine hR _ _ (ret1 rfl rfl ?_)
              have hEb : Ext (Sx h A u) h h11 := ((hEa.trans (hE9.mono fun _ f => f.elim)).trans (hE10.mono fun _ e => .inl e)).trans (hE11.mono fun _ f => f.elim)
              have hE8b : Ext (fun b => b = A.U) h8 h11 := ((hE9.mono fun _ f => f.elim).trans hE10).trans (hE11.mono fun _ f => f.elim)
              have hzb := hE8b.1
              have hz11 := hE11.1
              have btf : IL h11 (some ⟨h8.size, 0, none⟩) (planR cl ↑L).length (planR cl ↑L) := ((show BL h9 h8.size (planR cl ↑L) from bt9).IL.ext hE10 (fun b e => by cases e; show h8.size ≠ A.U; omega)).ext hE11 (fun _ _ f => f)
              obtain ⟨tgf, wf⟩ := w.go (hf := h11) (u' := ⟨v, u.la, u.kb, u.lf, { s6 with xa := xa, xl := (planR cl ↑L), ma := xm, ta := some ⟨h8.size, 0, none⟩, lt := (planR cl ↑L) }⟩) (nb' := nb + 2) true h1.size h3.size h8.size h9.size 9 7 8 6 (by omega) (dd10.ext hE11 (fun f => f)) (c8.ext hE8b (fun b hb e => by have h9 := w.tC b hb; rw [e, w.tU] at h9; omega)) (w.ck.kc kc3) hf3 (mk8v.ext hE8b (fun e => by have h9 := w.tM; rw [e, w.tU] at h9; omega) (fun b e => nU b (by rw [w.tl b e]; omega)) (fun b e => nU b (by rw [w.tc b e]; omega))) (by simp only []; rw [p1, p2, p3, o1, o2, o3]; exact rg8.ext hE8b (fun b e => nU b (by rw [w.tr b e]; omega))) (by simp only []; rw [p3, o3]; exact w.rl) btf hpl (hx8.ext hE8b (fun b e => by have h9 := hxb b e; omega)) hpl (hm8.ext hE8b (fun b e => by have h9 := hmb b e; omega)) (fun i hi => by
                have hk := kpf i hi
                refine hk.ext hE8b (fun b e z => ?_)
                rcases dr6.st i with q | q
                · rcases hst4 i with q2 | q2
                  · rw [q, q2] at e; exact nU b (by rw [w.tk i hi b e]; omega) z
                  · rw [q, q2] at e; exact nU b (by rw [w.tx b e]; omega) z
                · rw [q] at e; cases e; exact absurd z (by show h.size ≠ A.U; omega)) (by simp only []; omega) (by simp only []; omega) (fun b e => .inl e) (fun b e => .inl e) (fun b e => .inl (by simp only [] at e; rw [p1, o1] at e; exact e)) (fun b e => by cases e; exact .inr (.inr (.inr (.inr ⟨Nat.le_refl _, hs9, rfl⟩)))) (fun b e => .inr (.inr (.inl ⟨by have h9 := hxb b e; omega, hxlt b e, rfl⟩))) (fun b e => .inr (.inr (.inr (.inl ⟨by have h9 := hmb b e; omega, by have h9 := hmlt b e; omega, rfl⟩)))) (fun i hi b e => by
                rcases dr6.st i with q | q
                · rcases hst4 i with q2 | q2
                  · exact .inl ⟨i, hi, by rw [← q2, ← q]; exact e⟩
                  · exact .inr (.inl ⟨rfl, by rw [q, q2] at e; exact e⟩)
                · rw [q] at e; cases e; exact .inr (.inr (.inl ⟨Nat.le_refl _, hs1, rfl⟩)))
              exact ⟨rfl, tgf, _, wf, w.sxb hEb⟩
end Go.Proofs.Qxb6500407a
