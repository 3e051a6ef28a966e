import Derived.Test.Qxb6500404aGreatOc
set_option linter.unusedVariables false
set_option linter.unusedSimpArgs false
namespace Go.Proofs.Qxb6500404aGreat
open Go.Eng Go.Bits Go.Blk HufW

/-- the blocks of the real side lie in the order in which they were made -/
structure Sp (W : WA) : Prop where
  l1 : W.T < W.XA ∧ W.tb < W.XA
  l2 : W.XA + 10 < W.XB
  l3 : ∀ z, LzW.ES W.Z z → W.XB + 10 < z ∧ z < W.P
def WT (W : WA) (z : Nat) : Prop := z = W.T ∨ z = W.tb ∨ CT W.XA z ∨ CT W.XB z ∨ LzW.ES W.Z z ∨ PT W.P z
def WTc (W : WA) (z : Nat) : Prop := z = W.T ∨ z = W.tb ∨ CT W.XA z ∨ CT W.XB z ∨ PT W.P z
theorem wtc {W : WA} {z : Nat} (h : WTc W z) : WT W z := by
  rcases h with h | h | h | h | h
  · exact .inl h
  · exact .inr (.inl h)
  · exact .inr (.inr (.inl h))
  · exact .inr (.inr (.inr (.inl h)))
  · exact .inr (.inr (.inr (.inr (.inr h))))
theorem ct_def {X b : Nat} : CT X b ↔ X ≤ b ∧ b ≤ X + 10 := Iff.rfl
theorem pt_def {X b : Nat} : PT X b ↔ X ≤ b ∧ b ≤ X + 4 := Iff.rfl
section sp
variable {W : WA}
theorem Sp.ln (sp : Sp W) : W.T < W.XA ∧ W.tb < W.XA ∧ W.XA + 10 < W.XB ∧ W.XB + 10 < W.P := by
  have h1 := sp.l1; have h2 := sp.l2; have h3 := sp.l3 W.Z.m (.inl rfl); omega
theorem Sp.pt (sp : Sp W) : ∀ z, PT W.P z → z ≠ W.T ∧ z ≠ W.tb := fun z e => by have h1 := sp.ln; rw [pt_def] at e; omega
theorem Sp.pa (sp : Sp W) : ∀ z, PT W.P z → ¬ CT W.XA z := fun z e => by have h1 := sp.ln; rw [pt_def] at e; rw [ct_def]; omega
theorem Sp.pb (sp : Sp W) : ∀ z, PT W.P z → ¬ CT W.XB z := fun z e => by have h1 := sp.ln; rw [pt_def] at e; rw [ct_def]; omega
theorem Sp.ab (sp : Sp W) : ∀ z, CT W.XA z → ¬ CT W.XB z := fun z e => by have h1 := sp.ln; rw [ct_def] at *; omega
theorem Sp.at' (sp : Sp W) : ∀ z, CT W.XA z → z ≠ W.T ∧ z ≠ W.tb := fun z e => by have h1 := sp.ln; rw [ct_def] at e; omega
theorem Sp.bt (sp : Sp W) : ∀ z, CT W.XB z → z ≠ W.T ∧ z ≠ W.tb := fun z e => by have h1 := sp.ln; rw [ct_def] at e; omega
theorem Sp.zt (sp : Sp W) : ∀ z, LzW.ES W.Z z → z ≠ W.T ∧ z ≠ W.tb := fun z e => by have h1 := sp.ln; have h2 := sp.l3 z e; omega
theorem Sp.za (sp : Sp W) : ∀ z, LzW.ES W.Z z → ¬ CT W.XA z := fun z e => by have h1 := sp.ln; have h2 := sp.l3 z e; rw [ct_def]; omega
theorem Sp.zb (sp : Sp W) : ∀ z, LzW.ES W.Z z → ¬ CT W.XB z := fun z e => by have h1 := sp.ln; have h2 := sp.l3 z e; rw [ct_def]; omega
theorem Sp.zp (sp : Sp W) : ∀ z, LzW.ES W.Z z → ¬ PT W.P z := fun z e => by have h1 := sp.ln; have h2 := sp.l3 z e; rw [pt_def]; omega
end sp
theorem not_T {W : WA} {z : Nat} (h : z ≠ W.T ∧ z ≠ W.tb) : ¬ (z = W.T ∨ z = W.tb) := not_or.2 h
theorem p2_pt {W : WA} : PT W.P (W.P + 2) := ⟨by omega, by omega⟩
theorem kw_pt {W : WA} {z : Nat} (h : z = W.P + 3 ∨ z = W.P + 4) : PT W.P z := by rw [pt_def]; omega
/-- the lengths of the kind -/
def lkd (kd : Nat) (cn : Nat → Nat) : List Nat := if kd = 2 then dyL cn else fixL
theorem lkd_ok (kd : Nat) {cn : Nat → Nat} (h : CO cn) : (lkd kd cn).length = 273 ∧ (∀ x, x ∈ lkd kd cn → x ≤ 10) ∧ coE (lkd kd cn) = 0 ∧ ∀ i, i < 273 → 0 < cn i → 0 < (lkd kd cn).getD i 0 := by
  unfold lkd
  split
  · exact ⟨dy_len _, h.mem, h.coE, fun i hi hp => by have := (h.at hi).2; omega⟩
  · exact ⟨fix_len, fix_le, fix_e, fun i hi hp => by
      rw [fix_at hi]; repeat' split
      all_goals omega⟩
theorem wr_if (s : TS) (kd : Nat) (a b : List (Nat × Nat)) : wr (if kd = 2 then wr s a else s) b = wr s ((if kd = 2 then a else []) ++ b) := by
  split
  · rw [wr_app]
  · rfl

/-- the real side: what it keeps between calls -/
structure WS (h : Heap) (W : WA) (s : TS) (ua ub : HC) (st : Lz.MS) : Prop where
  sp : Sp W
  pb : ∃ cn pl co wi, PB h W cn pl co wi
  rt : BitW.RT h W.T W.tb s
  ca : CB h W.XA ua
  cb : CB h W.XB ub
  fa : ua.fill ≤ 265
  fb : ub.fill ≤ 265
  z : LzW.Mat h W.Z st
  ri : Lz.RI st
  n : st.n ≤ 256
theorem WS.ext {h h' : Heap} {W : WA} {s : TS} {ua ub : HC} {st : Lz.MS} {S : Nat → Prop} (w : WS h W s ua ub st) (he : Ext S h h') (hS : ∀ z, WT W z → ¬ S z) : WS h' W s ua ub st := by
  obtain ⟨cn, pl, co, wi, pb⟩ := w.pb
  exact ⟨w.sp, ⟨cn, pl, co, wi, pb.ext he (fun z e => hS z (.inr (.inr (.inr (.inr (.inr e))))))⟩, w.rt.ext he (hS _ (.inl rfl)) (hS _ (.inr (.inl rfl))), w.ca.ext he (fun z e => hS z (.inr (.inr (.inl e)))), w.cb.ext he (fun z e => hS z (.inr (.inr (.inr (.inl e))))), w.fa, w.fb, w.z.ext he (fun z e => hS z (.inr (.inr (.inr (.inr (.inl e)))))), w.ri, w.n⟩
theorem WS.lt {h : Heap} {W : WA} {s : TS} {ua ub : HC} {st : Lz.MS} (w : WS h W s ua ub st) {z : Nat} (e : WT W z) : z < h.size := by
  obtain ⟨cn, pl, co, wi, pb⟩ := w.pb
  have h1 := pb.lt
  have h2 := w.sp.ln
  rcases e with e | e | e | e | e | e
  · omega
  · omega
  · rw [ct_def] at e; omega
  · rw [ct_def] at e; omega
  · have h3 := w.sp.l3 z e; omega
  · rw [pt_def] at e; omega
/-- what Pack answers, errors too -/
def pkE (u : ByteArray) (level : Int) : Nat := if 256 < u.size then 1 else if level < 0 ∨ 2 < level then 13 else 0
def pkT (u : ByteArray) (level : Int) : ByteArray := if pkE u level = 0 then pkF u level else ⟨#[]⟩
/-- what the handed objects hold behind a Pack -/
structure Hd (u : ByteArray) (level : Int) (s : TS) (ua ub : HC) : Prop where
  s : s = ⟨nm (psF u (Lz.toks u level)), ctF u (Lz.toks u level), 0⟩
  c : kdF u (Lz.toks u level) ≠ 0 → CK ua (Huf.cf (lA (leF u (Lz.toks u level)))) ∧ ua.n = 265 ∧ CK ub (Huf.cf (lB (leF u (Lz.toks u level)))) ∧ ub.n = 8
theorem rt_var {h : Heap} {X b : Nat} {s : TS} (r : BitW.RT h X b s) : ∃ s', s' = s ∧ BitW.RT h X b s' := ⟨s, rfl, r⟩
theorem lk_le {u : ByteArray} {T : List Lz.Tok} : lkd (kdF u T) (cnT T) = leF u T := rfl
theorem pad_put {s : TS} (hs : OK s) (h3 : s.n = 3) : padS s = putS s 0 5 := by
  have := put_is hs (v := 0) (k := 5) (by simp) (by omega) (by omega)
  rw [show ((0 : Nat) : Int) = 0 from rfl, show ((5 : Nat) : Int) = 5 from rfl] at this
  rw [this]; unfold padS; rw [h3]; simp
theorem ps_is {u : ByteArray} {level : Int} (hu : u.size ≤ 256) : wr ⟨0, 0, 0⟩ (psF u (Lz.toks u level)) = ⟨nm (psF u (Lz.toks u level)), ctF u (Lz.toks u level), 0⟩ := by
  have hl : (Lz.toks u level).length ≤ 256 := Nat.le_trans (Lz.toks_len u level) hu
  have hT := toks_tk u level
  have hln := ln_ps (u := u) hT
  have hct := (ct_least u (Lz.toks u level)).1
  unfold cS at hct
  rw [wr_is OK.zero (ps_vd hu hT hl) (by rw [hln]; simp only []; omega), hln]; simp
theorem ps_sto {u : ByteArray} {T : List Lz.Tok} (h : kdF u T = 0) : wr ⟨0, 0, 0⟩ (psF u T) = wr (padS (putS (putS ⟨0, 0, 0⟩ 1 1) (kdF u T : Int) 2)) ((u.size, 16) :: stp u 0 u.size) := by
  have e1 : putS ⟨0, 0, 0⟩ 1 1 = ⟨1, 1, 0⟩ := put_is (v := 1) (k := 1) OK.zero (by decide) (by decide) (by decide)
  have hok : OK ⟨1, 1, 0⟩ := by rw [← e1]; exact OK.zero.put _ _
  have e2 : putS ⟨1, 1, 0⟩ ((0 : Nat) : Int) 2 = ⟨1, 3, 0⟩ := put_is (v := 0) (k := 2) hok (by decide) (by decide) (by decide)
  have hok2 : OK ⟨1, 3, 0⟩ := by rw [← e2]; exact hok.put _ _
  rw [h, e1, e2, pad_put hok2 rfl]
  unfold psF emP
  rw [h, if_pos rfl]
  show wr (putS (putS (putS ⟨0, 0, 0⟩ 1 1) ((0 : Nat) : Int) 2) 0 5) _ = _
  rw [e1, e2]
theorem ps_cod {u : ByteArray} {T : List Lz.Tok} (h : kdF u T ≠ 0) : wr ⟨0, 0, 0⟩ (psF u T) = wr (putS (putS ⟨0, 0, 0⟩ 1 1) (kdF u T : Int) 2) ((if kdF u T = 2 then ips (itG none (leF u T)) else []) ++ bp (Huf.cf (lA (leF u T))) (Huf.cf (lB (leF u T))) T) := by
  unfold psF emP
  rw [if_neg h]; rfl
theorem zc {W : WA} (sp : Sp W) : ∀ z, LzW.ES W.Z z → ¬ WTc W z := fun z e y => by
  have h1 := sp.ln; have h2 := sp.l3 z e; unfold WTc at y; rw [ct_def, ct_def, pt_def] at y; omega
theorem kd_ch (u : ByteArray) (T : List Lz.Tok) : chs (8 * (3 + u.size)) (3 + bdC fixL (cnT T)) (3 + ib (itG none (ra 273 fun i => (dyL (cnT T)).getD i 0)) + bdC (ra 273 fun i => (dyL (cnT T)).getD i 0) (cnT T)) = kdF u T := by
  rw [ra_getD (dy_len _)]; rfl
theorem wt_p {W : WA} {z : Nat} (e : PT W.P z) : WT W z := .inr (.inr (.inr (.inr (.inr e))))
theorem wt_z {W : WA} {z : Nat} (e : LzW.ES W.Z z) : WT W z := .inr (.inr (.inr (.inr (.inl e))))
theorem wt_t {W : WA} {z : Nat} (e : z = W.T ∨ z = W.tb) : WT W z := by rcases e with e | e; (exact .inl e); (exact .inr (.inl e))
theorem p1_pt {W : WA} : PT W.P (W.P + 1) := ⟨by omega, by omega⟩
set_option maxHeartbeats 1600000 in
theorem coded_spec (h : Heap) (W : WA) (sp : Sp W) (cn pl co wi : Nat → Nat) (pb : PB h W cn pl co wi) (s : TS) (rt : BitW.RT h W.T W.tb s) (ua ub : HC) (ca : CB h W.XA ua) (cb : CB h W.XB ub) (nb : Nat) (Q : List Lz.Tok) (hT : LzW.TokB h nb Q) (hnb : ¬ WT W nb) (tk : ∀ t, t ∈ Q → Tk t) (hTl : Q.length ≤ 256) (hcn : cn = cnT Q) (hpl : pl = fun i => (dyL cn).getD i 0) (kd : Nat) (hkd : kd = 1 ∨ kd = 2) :
    FC Tryz.prog 98 (#[.pointer (some ⟨W.P, 0, none⟩), .int .i64 (kd : Int), .slice (some ⟨nb, 0, none⟩) Q.length Q.length] : Array Value) h fun rv h' => rv = .tuple #[] ∧ ∃ co' wi' va vb, PB h' W cn (fun i => (lkd kd cn).getD i 0) co' wi' ∧ BitW.RT h' W.T W.tb (wr s ((if kd = 2 then ips (itG none (lkd kd cn)) else []) ++ bp (Huf.cf (lA (lkd kd cn))) (Huf.cf (lB (lkd kd cn))) Q)) ∧ CB h' W.XA va ∧ CB h' W.XB vb ∧ CK va (Huf.cf (lA (lkd kd cn))) ∧ CK vb (Huf.cf (lB (lkd kd cn))) ∧ va.n = 265 ∧ vb.n = 8 ∧ va.fill = ua.fill ∧ vb.fill = ub.fill ∧ Ext (WTc W) h h' := by
  try clear p0 p1 p2 p3 p4 p5 p6 p7
  obtain ⟨p0, p1, p2, p3, p4, p5, p6, p7⟩ := pq (pb.x)
  have hco : CO cn := by rw [hcn]; exact cnT_co hTl
  obtain ⟨l1, l2, l3, l4⟩ := lkd_ok kd hco
  obtain ⟨e1, e2, _⟩ := coE_0 l3
  refine FC_of [(0, .pointer (some ⟨W.P, 0, none⟩)), (1, .int .i64 (kd : Int)), (2, .slice (some ⟨nb, 0, none⟩) Q.length Q.length)] Tryz.func98 rfl Tryz.ntmps98 (by simp) rfl (fun R hR => ?_)
  refine V_seqJ (fun l h' => ∃ (h1 : Heap), (PB h1 W cn (fun i => (lkd kd cn).getD i 0) co wi) ∧ (Ext (fun z => z = W.P + 2) h h1) ∧ l = [(0, .pointer (some ⟨W.P, 0, none⟩)), (1, .int .i64 (kd : Int)), (2, .slice (some ⟨nb, 0, none⟩) Q.length Q.length)] ∧ h1 = h') ?_ ?_
  · skip
    refine V_sr T.mix (by kernel_rfl) (fun K2 hK2 => ?_)
    refine S_mv rfl ?_
    refine S_bin rfl rfl rfl ?_
    refine S_nil (hK2 _ _ (V_keep [0, 1, 2, 7] (by simp only [proj, lk, reduceIte, Nat.reduceEqDiff]; rfl) ?_)); clear hK2
    refine V_condp rfl (fun c72 => ?_) (fun c72 => ?_)
    · skip
      refine V_reg T.mix (by kernel_rfl) ?_
      refine S_mv rfl ?_
      refine S_call T.hb130 rfl ?_
      refine FC.mono (fixed_spec h W cn pl co wi pb) ?_
      rintro v' h1 ⟨rfl, pb1, hE1⟩
      refine S_nilk [0, 1, 2] (by simp only [proj, lk, reduceIte, Nat.reduceEqDiff]; rfl) ?_
      exact ⟨h1, by rw [show lkd kd cn = fixL by unfold lkd; rw [if_neg (by omega)]]; exact pb1, hE1, rfl, rfl⟩
    · skip
      refine V_skipk [0, 1, 2] (by simp only [proj, lk, reduceIte, Nat.reduceEqDiff]; rfl) ?_
      exact ⟨h, by rw [show lkd kd cn = dyL cn by unfold lkd; rw [if_pos (by omega)], ← hpl]; exact pb, Ext.refl _ _, rfl, rfl⟩
  rintro l h' ⟨h1, pb1, hE1, rfl, rfl⟩
  have ca1 := ca.ext hE1 (fun z e y => sp.pa z (by rw [y]; exact p2_pt) e)
  have cb1 := cb.ext hE1 (fun z e y => sp.pb z (by rw [y]; exact p2_pt) e)
  have rt1 := rt.ext hE1 (fun e => (sp.pt _ p2_pt).1 e.symm) (fun e => (sp.pt _ p2_pt).2 e.symm)
  try clear p0 p1 p2 p3 p4 p5 p6 p7
  obtain ⟨p0, p1, p2, p3, p4, p5, p6, p7⟩ := pq (pb1.x)
  refine V_sr T.mix (by kernel_rfl) (fun K3 hK3 => ?_)
  refine S_mv rfl ?_
  refine S_nc rfl ?_
  first | refine S_fa0 T.f75_1 rfl ?_ | refine S_fa T.f75_1 rfl ?_
  refine S_ldK T.ag49 rfl (fun K' hK' => ?_)
  simp (disch := omega) only [p0, p1, p2, p3, p4, p5, p6, p7, oP_some, Nat.add_zero]
  refine hK' _ ?_; clear hK' K'
  refine S_mv rfl ?_
  refine S_nc rfl ?_
  first | refine S_fa0 T.f75_5 rfl ?_ | refine S_fa T.f75_5 rfl ?_
  refine S_ldK T.ag56 rfl (fun K' hK' => ?_)
  simp (disch := omega) only [p0, p1, p2, p3, p4, p5, p6, p7, oP_some, Nat.add_zero]
  refine hK' _ ?_; clear hK' K'
  refine S_sl rfl rfl rfl (sliceV_hi T.el56 (by omega) (by omega)) ?_
  rw [show Int.toNat 265 = 265 from rfl]
  refine S_call T.hb131 rfl ?_
  have hbc := build_spec h1 W.XA ua ca1 (some ⟨W.P + 2, 0, none⟩) 273 (lA (lkd kd cn)) (by have h9 := OLcA pb1.p 273; rw [cA_l l1] at h9; exact h9) (fun z e => by cases e; exact sp.pa _ p2_pt)
  rw [lA_len l1] at hbc
  refine FC.mono hbc ?_
  rintro v' h2 ⟨va, rfl, ca2, _, hck, hE2⟩
  obtain ⟨ka, na, fia⟩ := hck e1
  have pb2 := pb1.ext hE2 sp.pa
  have cb2 := cb1.ext hE2 (fun z e y => sp.ab z y e)
  have rt2 := rt1.ext hE2 (fun e => (sp.at' _ e).1 rfl) (fun e => (sp.at' _ e).2 rfl)
  try clear p0 p1 p2 p3 p4 p5 p6 p7
  obtain ⟨p0, p1, p2, p3, p4, p5, p6, p7⟩ := pq (pb2.x)
  refine S_nil (hK3 _ _ (V_keep [0, 1, 2] (by simp only [proj, lk, reduceIte, Nat.reduceEqDiff]; rfl) ?_)); clear hK3
  refine V_sr T.mix (by kernel_rfl) (fun K4 hK4 => ?_)
  refine S_mv rfl ?_
  refine S_nc rfl ?_
  first | refine S_fa0 T.f75_2 rfl ?_ | refine S_fa T.f75_2 rfl ?_
  refine S_ldK T.ag49 rfl (fun K' hK' => ?_)
  simp (disch := omega) only [p0, p1, p2, p3, p4, p5, p6, p7, oP_some, Nat.add_zero]
  refine hK' _ ?_; clear hK' K'
  refine S_mv rfl ?_
  refine S_nc rfl ?_
  first | refine S_fa0 T.f75_5 rfl ?_ | refine S_fa T.f75_5 rfl ?_
  refine S_ldK T.ag56 rfl (fun K' hK' => ?_)
  simp (disch := omega) only [p0, p1, p2, p3, p4, p5, p6, p7, oP_some, Nat.add_zero]
  refine hK' _ ?_; clear hK' K'
  refine S_sl rfl rfl rfl (sliceV_lo (p := 265) T.el56 (by omega) (by omega) (by omega)) ?_
  simp only [Nat.zero_add, Nat.reduceMul, Nat.reduceSub]
  refine S_call T.hb131 rfl ?_
  have hbc := build_spec h2 W.XB ub cb2 (some ⟨W.P + 2, 265, none⟩) 8 (lB (lkd kd cn)) (by have h9 := OLcB pb2.p 8; rw [cB_l l1] at h9; exact h9) (fun z e => by cases e; exact sp.pb _ p2_pt)
  rw [lB_len l1] at hbc
  refine FC.mono hbc ?_
  rintro v' h3 ⟨vb, rfl, cb3, _, hck2, hE3⟩
  obtain ⟨kb, nb_, fib⟩ := hck2 e2
  have pb3 := pb2.ext hE3 sp.pb
  have ca3 := ca2.ext hE3 (fun z e y => sp.ab z e y)
  have rt3 := rt2.ext hE3 (fun e => (sp.bt _ e).1 rfl) (fun e => (sp.bt _ e).2 rfl)
  try clear p0 p1 p2 p3 p4 p5 p6 p7
  obtain ⟨p0, p1, p2, p3, p4, p5, p6, p7⟩ := pq (pb3.x)
  refine S_nil (hK4 _ _ (V_keep [0, 1, 2] (by simp only [proj, lk, reduceIte, Nat.reduceEqDiff]; rfl) ?_)); clear hK4
  refine V_seqJ (fun l h' => ∃ (h4 : Heap), (BitW.RT h4 W.T W.tb (if kd = 2 then wr s (ips (itG none (lkd kd cn))) else s)) ∧ (Ext (fun z => z = W.T ∨ z = W.tb) h3 h4) ∧ l = [(0, .pointer (some ⟨W.P, 0, none⟩)), (2, .slice (some ⟨nb, 0, none⟩) Q.length Q.length)] ∧ h4 = h') ?_ ?_
  · skip
    refine V_sr T.mix (by kernel_rfl) (fun K6 hK6 => ?_)
    refine S_mv rfl ?_
    refine S_bin rfl rfl rfl ?_
    refine S_nil (hK6 _ _ (V_keep [0, 2, 31] (by simp only [proj, lk, reduceIte, Nat.reduceEqDiff]; rfl) ?_)); clear hK6
    refine V_condp rfl (fun c77 => ?_) (fun c77 => ?_)
    · skip
      refine V_reg T.mix (by kernel_rfl) ?_
      refine S_mv rfl ?_
      refine S_call T.hb127 rfl ?_
      have hls := list_spec h3 W pb3.x s rt3 (sp.pt _ ⟨by omega, by omega⟩) (fun i => (lkd kd cn).getD i 0) pb3.p (fun i hi => l2 _ (by rw [List.getD_eq_getElem?_getD, List.getElem?_eq_getElem (by omega)]; exact List.getElem_mem _)) (sp.pt _ p2_pt) true
      rw [ra_getD l1, show (decide (true = true)) = true from rfl] at hls
      refine FC.mono hls ?_
      rintro v' h4 ⟨rfl, rt4, hE4⟩
      refine S_nilk [0, 2] (by simp only [proj, lk, reduceIte, Nat.reduceEqDiff]; rfl) ?_
      exact ⟨h4, by rw [if_pos (by omega)]; exact rt4.eq (by unfold wl; rw [if_pos rfl]), hE4, rfl, rfl⟩
    · skip
      refine V_skipk [0, 2] (by simp only [proj, lk, reduceIte, Nat.reduceEqDiff]; rfl) ?_
      exact ⟨h3, by rw [if_neg (by omega)]; exact rt3, Ext.refl _ _, rfl, rfl⟩
  rintro l h' ⟨h4, rt4, hE4, rfl, rfl⟩
  have pb4 := pb3.ext hE4 (fun z e => not_T (sp.pt z e))
  have ca4 := ca3.ext hE4 (fun z e => not_T (sp.at' z e))
  have cb4 := cb3.ext hE4 (fun z e => not_T (sp.bt z e))
  have hX4 : Ext (WTc W) h h4 := (((hE1.mono fun _ e => .inr (.inr (.inr (.inr (by rw [e]; exact p2_pt))))).trans (hE2.mono fun _ e => .inr (.inr (.inl e)))).trans (hE3.mono fun _ e => .inr (.inr (.inr (.inl e))))).trans (hE4.mono fun _ e => by rcases e with e | e; (exact .inl e); (exact .inr (.inl e)))
  try clear p0 p1 p2 p3 p4 p5 p6 p7
  obtain ⟨p0, p1, p2, p3, p4, p5, p6, p7⟩ := pq (pb4.x)
  refine V_sr T.mix (by kernel_rfl) (fun K7 hK7 => ?_)
  refine S_mv rfl ?_
  refine S_call T.hb132 rfl ?_
  refine FC.mono (fetch_spec h4 W cn (fun i => (lkd kd cn).getD i 0) co wi pb4 va vb ca4 cb4 (Huf.cf (lA (lkd kd cn))) (Huf.cf (lB (lkd kd cn))) ka kb na nb_ sp.pa sp.pb (fun i hi hp => by rw [cf_lA hi]; exact l4 i (by omega) hp) (fun c hc hp => by rw [cf_lB]; exact l4 _ (by omega) hp)) ?_
  rintro v' h5 ⟨rfl, co5, wi5, pb5, fe5, hE5⟩
  have rt5 := rt4.ext hE5 (fun e => (sp.pt _ (kw_pt e)).1 rfl) (fun e => (sp.pt _ (kw_pt e)).2 rfl)
  have ca5 := ca4.ext hE5 (fun z e y => sp.pa z (kw_pt y) e)
  have cb5 := cb4.ext hE5 (fun z e y => sp.pb z (kw_pt y) e)
  have hX5 : Ext (WTc W) h h5 := hX4.trans (hE5.mono fun _ e => .inr (.inr (.inr (.inr (kw_pt e)))))
  have hT5 : LzW.TokB h5 nb Q := B.ext hT hX5 (fun e => hnb (wtc e))
  refine S_nil (hK7 _ _ (V_keep [0, 2] (by simp only [proj, lk, reduceIte, Nat.reduceEqDiff]; rfl) ?_)); clear hK7
  refine V_reg T.mix (by kernel_rfl) ?_
  refine S_mv rfl ?_
  refine S_mv rfl ?_
  refine S_call T.hb133 rfl ?_
  refine FC.mono (tokens_spec h5 W cn (fun i => (lkd kd cn).getD i 0) co5 wi5 pb5 _ rt5 sp.pt nb Q hT5 (fun e => hnb (.inr (.inr (.inr (.inr (.inr e)))))) tk hTl (Huf.cf (lA (lkd kd cn))) (Huf.cf (lB (lkd kd cn))) fe5 hcn ⟨fun e => hnb (.inl e), fun e => hnb (.inr (.inl e))⟩) ?_
  rintro v' h6 ⟨rfl, rt6, hE6⟩
  refine S_nilk [] (by simp only [proj, lk, reduceIte, Nat.reduceEqDiff]; rfl) ?_
  -- end
  refine hR _ _ (ret0 rfl ?_)
  refine ⟨rfl, co5, wi5, va, vb, pb5.ext hE6 (fun z e => not_T (sp.pt z e)), rt6.eq (wr_if _ _ _ _), ca5.ext hE6 (fun z e => not_T (sp.at' z e)), cb5.ext hE6 (fun z e => not_T (sp.bt z e)), ka, kb, na, nb_, fia, fib, hX5.trans (hE6.mono fun _ e => ?_)⟩
  rcases e with e | e
  · exact .inl e
  · exact .inr (.inl e)
set_option maxHeartbeats 3200000 in
theorem bpack_spec (h : Heap) (W : WA) (s : TS) (ua ub : HC) (st : Lz.MS) (ws : WS h W s ua ub st) (u : ByteArray) (level : Int) :
    FC Tryz.prog 67 (#[.pointer (some ⟨W.P, 0, none⟩), .string u, .int .i64 level] : Array Value) h fun rv h' => rv = .tuple #[.string (pkT u level), .int .i64 ((pkE u level : Nat) : Int)] ∧ (∃ s' va vb st', WS h' W s' va vb st' ∧ (pkE u level = 0 → Hd u level s' va vb)) ∧ Ext (WT W) h h' := by
  obtain ⟨cn, pl, co, wi, pb⟩ := ws.pb
  have sp := ws.sp
  have rt := ws.rt
  try clear p0 p1 p2 p3 p4 p5 p6 p7
  obtain ⟨p0, p1, p2, p3, p4, p5, p6, p7⟩ := pq (pb.x)
  refine FC_of [(0, .pointer (some ⟨W.P, 0, none⟩)), (1, .string u), (2, .int .i64 level)] Tryz.func67 rfl Tryz.ntmps67 (by simp) rfl (fun R hR => ?_)
  refine V_sr T.mix (by kernel_rfl) (fun K1 hK1 => ?_)
  refine S_as rfl ?_
  refine S_as rfl ?_
  refine S_nil (hK1 _ _ (V_keep [0, 1, 2] (by simp only [proj, lk, reduceIte, Nat.reduceEqDiff]; rfl) ?_)); clear hK1
  refine V_seq (fun K2 hK2 => ?_)
  refine V_sr T.mix (by kernel_rfl) (fun K3 hK3 => ?_)
  refine S_mv rfl ?_
  refine S_lens T.kd9 rfl ?_
  refine S_bin rfl rfl rfl ?_
  refine S_nil (hK3 _ _ (V_keep [0, 1, 2, 14] (by simp only [proj, lk, reduceIte, Nat.reduceEqDiff]; rfl) ?_)); clear hK3
  refine V_condp rfl (fun c45 => ?_) (fun c45 => ?_)
  · skip
    refine V_sr T.mix (by kernel_rfl) (fun K4 hK4 => ?_)
    refine S_as rfl ?_
    refine S_as rfl ?_
    refine S_nil (hK4 _ _ (V_keep [6, 7] (by simp only [proj, lk, reduceIte, Nat.reduceEqDiff]; rfl) ?_)); clear hK4
    refine V_ret ?_
    refine hR _ _ (ret2 rfl rfl rfl ?_)
    have he : pkE u level = 1 := by unfold pkE; rw [if_pos (by omega)]
    have ht : pkT u level = ⟨#[]⟩ := by unfold pkT; rw [if_neg (by omega)]
    rw [he, ht]
    exact ⟨rfl, ⟨s, ua, ub, st, ws, fun e => by cases e⟩, Ext.refl _ _⟩
  · skip
    refine V_skipk [0, 1, 2] (by simp only [proj, lk, reduceIte, Nat.reduceEqDiff]; rfl) ?_
    refine hK2 _ _ ?_; clear hK2
    refine V_seq (fun K5 hK5 => ?_)
    refine V_sr T.mix (by kernel_rfl) (fun K6 hK6 => ?_)
    refine S_cut (K' := fun l h' => ∃ b : Bool, (b = true ↔ (level < 0 ∨ 2 < level)) ∧ l = [(0, .pointer (some ⟨W.P, 0, none⟩)), (1, .string u), (2, .int .i64 level), (20, .bool b)] ∧ h = h') ?_ ?_
    · skip
      refine S_mv rfl ?_
      refine S_bin rfl rfl rfl ?_
      refine S_mv rfl ?_
      refine S_dec (fun g48 => ?_) (fun g48 => ?_)
      · skip
        refine S_gf rfl ?_
        refine S_gf rfl ?_
        refine S_pt rfl rfl ?_
        exact S_nilk [0, 1, 2, 20] (by simp only [proj, lk, reduceIte, Nat.reduceEqDiff]; rfl) ⟨_, (by first | (simp [*]; done) | (simp; omega)), rfl, rfl⟩
      · skip
        refine S_gt rfl ?_
        refine S_mv rfl ?_
        refine S_gt rfl ?_
        refine S_bin rfl rfl rfl ?_
        refine S_pf rfl rfl ?_
        exact S_nilk [0, 1, 2, 20] (by simp only [proj, lk, reduceIte, Nat.reduceEqDiff]; rfl) ⟨_, (by first | (simp [*]; done) | (simp; omega)), rfl, rfl⟩
    rintro l h' ⟨b, hb48, rfl, rfl⟩
    refine hK6 _ _ ?_; clear hK6
    refine V_condb rfl (fun c48 => ?_) (fun c48 => ?_)
    · replace c48 := hb48.1 c48
      refine V_sr T.mix (by kernel_rfl) (fun K8 hK8 => ?_)
      refine S_as rfl ?_
      refine S_as rfl ?_
      refine S_nil (hK8 _ _ (V_keep [6, 7] (by simp only [proj, lk, reduceIte, Nat.reduceEqDiff]; rfl) ?_)); clear hK8
      refine V_ret ?_
      refine hR _ _ (ret2 rfl rfl rfl ?_)
      have he : pkE u level = 13 := by unfold pkE; rw [if_neg (by omega), if_pos (by assumption)]
      have ht : pkT u level = ⟨#[]⟩ := by unfold pkT; rw [if_neg (by omega)]
      rw [he, ht]
      exact ⟨rfl, ⟨s, ua, ub, st, ws, fun e => by cases e⟩, Ext.refl _ _⟩
    · replace c48 : ¬ _ := fun hp => Bool.false_ne_true (c48.symm.trans (hb48.2 hp))
      refine V_skipk [0, 1, 2] (by simp only [proj, lk, reduceIte, Nat.reduceEqDiff]; rfl) ?_
      refine hK5 _ _ ?_; clear hK5
      refine V_sr T.mix (by kernel_rfl) (fun K9 hK9 => ?_)
      refine S_mv rfl ?_
      refine S_nc rfl ?_
      first | refine S_fa0 T.f75_3 rfl ?_ | refine S_fa T.f75_3 rfl ?_
      refine S_ldK T.ag51 rfl (fun K' hK' => ?_)
      simp (disch := omega) only [p0, p1, p2, p3, p4, p5, p6, p7, oP_some, Nat.add_zero]
      refine hK' _ ?_; clear hK' K'
      refine S_mv rfl ?_
      refine S_mv rfl ?_
      refine S_call T.hb92 rfl ?_
      refine FC.mono (LzW.parse_spec W.Z st h ws.z u level ws.ri ws.n) ?_
      rintro v' h1 ⟨st1, z1, hE1, ri1, n1, hcase⟩
      obtain ⟨nb, Q, hQ, rfl, hnb, hTok⟩ : ∃ nb Q, Q = Lz.toks u level ∧ v' = .tuple #[.slice (some ⟨nb, 0, none⟩) Q.length Q.length, .int .i64 0] ∧ h.size ≤ nb ∧ LzW.TokB h1 nb Q := by rcases hcase with ⟨q, _⟩ | ⟨_, q, _⟩ | ⟨_, _, _, _, nb, q1, q2, q3⟩; (omega); (omega); (exact ⟨nb, _, rfl, q1, q2, q3⟩)
      clear hcase
      have hnW : ¬ WT W nb := fun e => by have h9 := ws.lt e; omega
      have pb1 := pb.ext hE1 (fun z e y => sp.zp z y e)
      have rt1 := rt.ext hE1 (fun e => (sp.zt _ e).1 rfl) (fun e => (sp.zt _ e).2 rfl)
      have ca1 := ws.ca.ext hE1 (fun z e y => sp.za z y e)
      have cb1 := ws.cb.ext hE1 (fun z e y => sp.zb z y e)
      have hX1 : Ext (WT W) h h1 := hE1.mono fun _ e => wt_z e
      have hTl : Q.length ≤ 256 := by rw [hQ]; exact Nat.le_trans (Lz.toks_len u level) (by omega)
      have tk : ∀ t, t ∈ Q → Tk t := by rw [hQ]; exact toks_tk u level
      try clear p0 p1 p2 p3 p4 p5 p6 p7
      obtain ⟨p0, p1, p2, p3, p4, p5, p6, p7⟩ := pq (pb1.x)
      refine S_mv rfl ?_
      refine S_ex rfl rfl ?_
      refine S_ex rfl rfl ?_
      refine S_as rfl ?_
      refine S_as rfl ?_
      refine S_nil (hK9 _ _ (V_keep [0, 1, 8] (by simp only [proj, lk, reduceIte, Nat.reduceEqDiff]; rfl) ?_)); clear hK9
      refine V_sr T.mix (by kernel_rfl) (fun K10 hK10 => ?_)
      refine S_mv rfl ?_
      refine S_mv rfl ?_
      refine S_call T.hb93 rfl ?_
      refine FC.mono (tally_spec h1 W cn pl co wi pb1 nb Q hTok (fun e => hnW (wt_p e)) tk hTl) ?_
      rintro v' h2 ⟨rfl, pb2, hE2⟩
      have rt2 := rt1.ext hE2 (fun e => (sp.pt _ p1_pt).1 e.symm) (fun e => (sp.pt _ p1_pt).2 e.symm)
      have ca2 := ca1.ext hE2 (fun z e y => sp.pa z (by rw [y]; exact p1_pt) e)
      have cb2 := cb1.ext hE2 (fun z e y => sp.pb z (by rw [y]; exact p1_pt) e)
      have z2 := z1.ext hE2 (fun z e y => sp.zp z e (by rw [y]; exact p1_pt))
      have hY2 : Ext (WT W) h1 h2 := hE2.mono fun _ e => wt_p (by rw [e]; exact p1_pt)
      have hX2 : Ext (WT W) h h2 := hX1.trans hY2
      have hT2 : LzW.TokB h2 nb Q := B.ext hTok hY2 hnW
      have hco := cnT_co hTl
      obtain ⟨c0, hc0⟩ : ∃ c0, c0 = cnT Q := ⟨_, rfl⟩
      rw [← hc0] at pb2 hco
      try clear p0 p1 p2 p3 p4 p5 p6 p7
      obtain ⟨p0, p1, p2, p3, p4, p5, p6, p7⟩ := pq (pb2.x)
      refine S_nil (hK10 _ _ (V_keep [0, 1, 8] (by simp only [proj, lk, reduceIte, Nat.reduceEqDiff]; rfl) ?_)); clear hK10
      refine V_sr T.mix (by kernel_rfl) (fun K11 hK11 => ?_)
      refine S_mv rfl ?_
      refine S_call T.hb94 rfl ?_
      refine FC.mono (lengths_spec h2 W c0 pl co wi pb2 hco ua ub ca2 cb2 ws.fa ws.fb sp.pa sp.pb sp.ab) ?_
      rintro v' h3 ⟨rfl, va, vb, pb3, ca3, cb3, kcA, kcB, fa3, fb3, hE3⟩
      have hnS : ∀ z, (CT W.XA z ∨ CT W.XB z ∨ z = W.P + 2) → WT W z := fun z e => by rcases e with e | e | e; (exact .inr (.inr (.inl e))); (exact .inr (.inr (.inr (.inl e)))); (exact wt_p (by rw [e]; exact p2_pt))
      have rt3 := rt2.ext hE3 (fun e => by rcases e with e | e | e; (exact (sp.at' _ e).1 rfl); (exact (sp.bt _ e).1 rfl); (exact (sp.pt _ p2_pt).1 e.symm)) (fun e => by rcases e with e | e | e; (exact (sp.at' _ e).2 rfl); (exact (sp.bt _ e).2 rfl); (exact (sp.pt _ p2_pt).2 e.symm))
      have z3 := z2.ext hE3 (fun z e y => by rcases y with y | y | y; (exact sp.za z e y); (exact sp.zb z e y); (exact sp.zp z e (by rw [y]; exact p2_pt)))
      have hX3 : Ext (WT W) h h3 := hX2.trans (hE3.mono hnS)
      have hT3 : LzW.TokB h3 nb Q := B.ext hT2 (hE3.mono hnS) hnW
      obtain ⟨p0_, hp0⟩ : ∃ p0_ : Nat → Nat, p0_ = fun i => (dyL c0).getD i 0 := ⟨_, rfl⟩
      rw [← hp0] at pb3
      have hp10 : ∀ i, i < 273 → p0_ i ≤ 10 := fun i hi => by rw [hp0]; exact (hco.at hi).1
      have hc600 : ∀ i, c0 i ≤ 600 := fun i => by have h9 := cnT_le Q i; rw [hc0]; omega
      try clear p0 p1 p2 p3 p4 p5 p6 p7
      obtain ⟨p0, p1, p2, p3, p4, p5, p6, p7⟩ := pq (pb3.x)
      refine S_nil (hK11 _ _ (V_keep [0, 1, 8] (by simp only [proj, lk, reduceIte, Nat.reduceEqDiff]; rfl) ?_)); clear hK11
      refine V_sr T.mix (by kernel_rfl) (fun K12 hK12 => ?_)
      refine S_mv rfl ?_
      refine S_mv rfl ?_
      refine S_lens T.kd9 rfl ?_
      refine S_call T.hb95 rfl ?_
      have hcc := choose_spec h3 W c0 p0_ co wi pb3 s rt3 sp.pt hc600 hp10 u.size (by omega)
      obtain ⟨kd, hkd⟩ : ∃ kd, kd = kdF u Q := ⟨_, rfl⟩
      rw [show chs (8 * (3 + u.size)) (3 + bdC fixL c0) (3 + ib (itG none (ra 273 p0_)) + bdC (ra 273 p0_) c0) = kd by rw [hp0, hc0, hkd]; exact kd_ch u Q] at hcc
      refine FC.mono hcc ?_
      rintro v' h4 ⟨rfl, rt4, hE4⟩
      have hk2 : kd ≤ 2 := by rw [hkd]; exact kd_le u Q
      have pb4 := pb3.ext hE4 (fun z e => not_T (sp.pt z e))
      try clear p0 p1 p2 p3 p4 p5 p6 p7
      obtain ⟨p0, p1, p2, p3, p4, p5, p6, p7⟩ := pq (pb4.x)
      refine S_as rfl ?_
      refine S_nil (hK12 _ _ (V_keep [0, 1, 8, 10] (by simp only [proj, lk, reduceIte, Nat.reduceEqDiff]; rfl) ?_)); clear hK12
      refine V_sr T.mix (by kernel_rfl) (fun K13 hK13 => ?_)
      refine S_mv rfl ?_
      refine S_nc rfl ?_
      first | refine S_fa0 T.f75_0 rfl ?_ | refine S_fa T.f75_0 rfl ?_
      refine S_ldK T.ag47 rfl (fun K' hK' => ?_)
      simp (disch := omega) only [p0, p1, p2, p3, p4, p5, p6, p7, oP_some, Nat.add_zero]
      refine hK' _ ?_; clear hK' K'
      refine S_call T.hb24 rfl ?_
      refine FC.mono (BitW.reset_spec h4 W.T W.tb s rt4) ?_
      rintro v' h5 ⟨rfl, rt5, hE5⟩
      have pb5 := pb4.ext hE5 (fun z e => not_T (sp.pt z e))
      try clear p0 p1 p2 p3 p4 p5 p6 p7
      obtain ⟨p0, p1, p2, p3, p4, p5, p6, p7⟩ := pq (pb5.x)
      refine S_nil (hK13 _ _ (V_keep [0, 1, 8, 10] (by simp only [proj, lk, reduceIte, Nat.reduceEqDiff]; rfl) ?_)); clear hK13
      refine V_sr T.mix (by kernel_rfl) (fun K14 hK14 => ?_)
      refine S_mv rfl ?_
      refine S_nc rfl ?_
      first | refine S_fa0 T.f75_0 rfl ?_ | refine S_fa T.f75_0 rfl ?_
      refine S_ldK T.ag47 rfl (fun K' hK' => ?_)
      simp (disch := omega) only [p0, p1, p2, p3, p4, p5, p6, p7, oP_some, Nat.add_zero]
      refine hK' _ ?_; clear hK' K'
      refine S_call T.hb96 rfl ?_
      refine FC.mono (BitW.put_spec h5 W.T W.tb _ rt5 (1) (1)) ?_
      rintro v' h6 ⟨rfl, rth6, hEh6⟩
      obtain ⟨s6, hs6, rth6⟩ := rt_var rth6
      have pb6 := pb5.ext hEh6 (fun z e => not_T (sp.pt z e))
      try clear p0 p1 p2 p3 p4 p5 p6 p7
      obtain ⟨p0, p1, p2, p3, p4, p5, p6, p7⟩ := pq (pb6.x)
      refine S_nil (hK14 _ _ (V_keep [0, 1, 8, 10] (by simp only [proj, lk, reduceIte, Nat.reduceEqDiff]; rfl) ?_)); clear hK14
      refine V_sr T.mix (by kernel_rfl) (fun K15 hK15 => ?_)
      refine S_mv rfl ?_
      refine S_nc rfl ?_
      first | refine S_fa0 T.f75_0 rfl ?_ | refine S_fa T.f75_0 rfl ?_
      refine S_ldK T.ag47 rfl (fun K' hK' => ?_)
      simp (disch := omega) only [p0, p1, p2, p3, p4, p5, p6, p7, oP_some, Nat.add_zero]
      refine hK' _ ?_; clear hK' K'
      refine S_mv rfl ?_
      refine S_call T.hb96 rfl ?_
      refine FC.mono (BitW.put_spec h6 W.T W.tb _ rth6 ((kd : Int)) (2)) ?_
      rintro v' h7 ⟨rfl, rth7, hEh7⟩
      have hE37 : Ext (fun z => z = W.T ∨ z = W.tb) h3 h7 := ((hE4.trans hE5).trans hEh6).trans hEh7
      have pb7 := pb6.ext hEh7 (fun z e => not_T (sp.pt z e))
      have ca7 := ca3.ext hE37 (fun z e => not_T (sp.at' z e))
      have cb7 := cb3.ext hE37 (fun z e => not_T (sp.bt z e))
      have z7 := z3.ext hE37 (fun z e => not_T (sp.zt z e))
      have hY7 : Ext (WT W) h3 h7 := hE37.mono fun _ e => wt_t e
      have hX7 : Ext (WT W) h h7 := hX3.trans hY7
      have hT7 : LzW.TokB h7 nb Q := B.ext hT3 hY7 hnW
      obtain ⟨s7, hs7, rth7⟩ := rt_var rth7
      try clear p0 p1 p2 p3 p4 p5 p6 p7
      obtain ⟨p0, p1, p2, p3, p4, p5, p6, p7⟩ := pq (pb7.x)
      refine S_nil (hK15 _ _ (V_keep [0, 1, 8, 10] (by simp only [proj, lk, reduceIte, Nat.reduceEqDiff]; rfl) ?_)); clear hK15
      refine V_seqJ (fun l h' => ∃ (h8 : Heap) (s8 : TS) (vc vd : HC), (WS h8 W s8 vc vd st1) ∧ (Hd u level s8 vc vd) ∧ (Ext (WT W) h h8) ∧ l = [(0, .pointer (some ⟨W.P, 0, none⟩))] ∧ h8 = h') ?_ ?_
      · skip
        refine V_sr T.mix (by kernel_rfl) (fun K17 hK17 => ?_)
        refine S_mv rfl ?_
        refine S_bin rfl rfl rfl ?_
        refine S_nil (hK17 _ _ (V_keep [0, 1, 8, 10, 57] (by simp only [proj, lk, reduceIte, Nat.reduceEqDiff]; rfl) ?_)); clear hK17
        refine V_condp rfl (fun c58 => ?_) (fun c58 => ?_)
        · skip
          refine V_reg T.mix (by kernel_rfl) ?_
          refine S_mv rfl ?_
          refine S_mv rfl ?_
          refine S_call T.hb97 rfl ?_
          refine FC.mono (stored_spec h7 W pb7.x s7 rth7 (sp.pt _ ⟨by omega, by omega⟩) u (by omega)) ?_
          rintro v' h8 ⟨rfl, rt8, hE8⟩
          refine S_nilk [0] (by simp only [proj, lk, reduceIte, Nat.reduceEqDiff]; rfl) ?_
          have hk0 : kdF u Q = 0 := by omega
          have hsp := ps_sto hk0
          rw [← hkd, ← hs6, ← hs7, hQ, ps_is (by omega)] at hsp
          have rt9 := rt8.eq hsp.symm
          exact ⟨h8, _, va, vb, ⟨sp, ⟨_, _, _, _, pb7.ext hE8 (fun z e => not_T (sp.pt z e))⟩, rt9, ca7.ext hE8 (fun z e => not_T (sp.at' z e)), cb7.ext hE8 (fun z e => not_T (sp.bt z e)), fa3, fb3, z7.ext hE8 (fun z e => not_T (sp.zt z e)), ri1, n1⟩, ⟨rfl, fun e => absurd (by rw [← hQ]; exact hk0) e⟩, hX7.trans (hE8.mono fun _ e => wt_t e), rfl, rfl⟩
        · skip
          refine V_reg T.mix (by kernel_rfl) ?_
          refine S_mv rfl ?_
          refine S_mv rfl ?_
          refine S_mv rfl ?_
          refine S_call T.hb98 rfl ?_
          refine FC.mono (coded_spec h7 W sp c0 p0_ co wi pb7 s7 rth7 va vb ca7 cb7 nb Q hT7 hnW tk hTl hc0 hp0 kd (by omega)) ?_
          rintro v' h8 ⟨rfl, co8, wi8, vc, vd, pb8, rt8, ca8, cb8, ka8, kb8, na8, nb8, fa8, fb8, hE8⟩
          refine S_nilk [0] (by simp only [proj, lk, reduceIte, Nat.reduceEqDiff]; rfl) ?_
          have hk0 : kdF u Q ≠ 0 := by omega
          have hle : lkd kd c0 = leF u Q := by rw [hkd, hc0]; rfl
          rw [hle] at rt8 pb8 ka8 kb8
          have hsp := ps_cod hk0
          rw [← hkd, ← hs6, ← hs7, hQ, ps_is (by omega), ← hQ] at hsp
          have rt9 := rt8.eq hsp.symm
          rw [hQ] at rt9 ka8 kb8
          exact ⟨h8, _, vc, vd, ⟨sp, ⟨_, _, _, _, pb8⟩, rt9, ca8, cb8, by omega, by omega, z7.ext hE8 (zc sp), ri1, n1⟩, ⟨rfl, fun _ => ⟨ka8, na8, kb8, nb8⟩⟩, hX7.trans (hE8.mono fun _ e => wtc e), rfl, rfl⟩
      rintro l h' ⟨h8, s8, vc, vd, w8, hd8, hX8, rfl, rfl⟩
      obtain ⟨_, _, _, _, pb8⟩ := w8.pb
      try clear p0 p1 p2 p3 p4 p5 p6 p7
      obtain ⟨p0, p1, p2, p3, p4, p5, p6, p7⟩ := pq (pb8.x)
      refine V_sr T.mix (by kernel_rfl) (fun K18 hK18 => ?_)
      refine S_mv rfl ?_
      refine S_nc rfl ?_
      first | refine S_fa0 T.f75_0 rfl ?_ | refine S_fa T.f75_0 rfl ?_
      refine S_ldK T.ag47 rfl (fun K' hK' => ?_)
      simp (disch := omega) only [p0, p1, p2, p3, p4, p5, p6, p7, oP_some, Nat.add_zero]
      refine hK' _ ?_; clear hK' K'
      refine S_call T.hb99 rfl ?_
      refine FC.mono (BitW.text_spec h8 W.T W.tb s8 w8.rt) ?_
      rintro v' h9 ⟨rfl, rfl⟩
      refine S_as rfl ?_
      refine S_nil (hK18 _ _ (V_keep [11] (by simp only [proj, lk, reduceIte, Nat.reduceEqDiff]; rfl) ?_)); clear hK18
      refine V_sr T.mix (by kernel_rfl) (fun K19 hK19 => ?_)
      refine S_mv rfl ?_
      refine S_as rfl ?_
      refine S_as rfl ?_
      refine S_nil (hK19 _ _ (V_keep [6, 7] (by simp only [proj, lk, reduceIte, Nat.reduceEqDiff]; rfl) ?_)); clear hK19
      refine V_ret ?_
      refine hR _ _ (ret2 rfl rfl rfl ?_)
      have he : pkE u level = 0 := by unfold pkE; rw [if_neg (by omega), if_neg (by assumption)]
      have ht : pkT u level = txt s8.N s8.n := by unfold pkT; rw [if_pos he, hd8.s]; unfold pkF; rw [ln_ps (toks_tk u level)]
      rw [he, ht]
      exact ⟨rfl, ⟨_, vc, vd, st1, w8, fun _ => hd8⟩, hX8⟩
set_option maxHeartbeats 3200000 in
theorem bnew_spec (h : Heap) (W : WA) (hP : W.P = h.size) :
    FC Tryz.prog 16 (#[.pointer (some ⟨W.T, 0, none⟩), .pointer (some ⟨W.XA, 0, none⟩), .pointer (some ⟨W.XB, 0, none⟩), .pointer (some ⟨W.Z.m, 0, none⟩)] : Array Value) h fun rv h' => rv = .pointer (some ⟨W.P, 0, none⟩) ∧ PB h' W (fun _ => 0) (fun _ => 0) (fun _ => 0) (fun _ => 0) ∧ Ext (fun _ => False) h h' := by
  refine FC_of [(0, .pointer (some ⟨W.T, 0, none⟩)), (1, .pointer (some ⟨W.XA, 0, none⟩)), (2, .pointer (some ⟨W.XB, 0, none⟩)), (3, .pointer (some ⟨W.Z.m, 0, none⟩))] Tryz.func16 rfl Tryz.ntmps16 (by simp) rfl (fun R hR => ?_)
  refine V_sr T.mix (by kernel_rfl) (fun K1 hK1 => ?_)
  refine S_as rfl ?_
  refine S_nil (hK1 _ _ (V_keep [0, 1, 2, 3] (by simp only [proj, lk, reduceIte, Nat.reduceEqDiff]; rfl) ?_)); clear hK1
  refine V_sr T.mix (by kernel_rfl) (fun K2 hK2 => ?_)
  refine S_bld rfl (T.bld75) ?_
  refine S_boxA rfl ?_
  generalize hh : Array.push h _ = g0
  have bt0 : B g0 h.size #[.pointer none, .pointer none, .pointer none, .pointer none, .slice none 0 0, .slice none 0 0, .slice none 0 0, .slice none 0 0] 75 := by rw [← hh]; exact B.new _ _ _
  have hEg0 : Ext (fun _ => False) h g0 := by rw [← hh]; exact Ext.push _ _ _
  have hsg0 : g0.size = h.size + 1 := by rw [← hh]; simp
  clear hh
  try clear hokN
  have hokN : ∀ j, j < 8 → okPut g0 ⟨h.size, j, none⟩ = true := fun j hj => bt0.ok (by simpa using hj)
  refine S_as rfl ?_
  refine S_nil (hK2 _ _ (V_keep [0, 1, 2, 3, 9] (by simp only [proj, lk, reduceIte, Nat.reduceEqDiff]; rfl) ?_)); clear hK2
  refine V_sr T.mix (by kernel_rfl) (fun K3 hK3 => ?_)
  refine S_mv rfl ?_
  refine S_mv rfl ?_
  refine S_nc rfl ?_
  first | refine S_fa0 T.f75_0 rfl ?_ | refine S_fa T.f75_0 rfl ?_
  refine S_st T.sz47 rfl rfl rfl rfl (by simp (disch := omega) only [hokN]) ?_
  generalize hh : putH _ _ _ = g1
  have bt1 : B g1 h.size #[.pointer (some ⟨W.T, 0, none⟩), .pointer none, .pointer none, .pointer none, .slice none 0 0, .slice none 0 0, .slice none 0 0, .slice none 0 0] 75 := by rw [← hh]; exact (bt0.put 0 _).cong (by simp)
  have hEg1 : Ext (fun b => b = h.size) g0 g1 := by rw [← hh]; exact Ext.put _ _ rfl
  have hsg1 : g1.size = g0.size := by rw [← hh]; exact size_put _ _
  clear hh
  try clear hokN
  have hokN : ∀ j, j < 8 → okPut g1 ⟨h.size, j, none⟩ = true := fun j hj => bt1.ok (by simpa using hj)
  refine S_nil (hK3 _ _ (V_keep [1, 2, 3, 9] (by simp only [proj, lk, reduceIte, Nat.reduceEqDiff]; rfl) ?_)); clear hK3
  refine V_sr T.mix (by kernel_rfl) (fun K4 hK4 => ?_)
  refine S_mv rfl ?_
  refine S_mv rfl ?_
  refine S_nc rfl ?_
  first | refine S_fa0 T.f75_1 rfl ?_ | refine S_fa T.f75_1 rfl ?_
  refine S_st T.sz49 rfl rfl rfl rfl (by simp (disch := omega) only [hokN]) ?_
  generalize hh : putH _ _ _ = g2
  have bt2 : B g2 h.size #[.pointer (some ⟨W.T, 0, none⟩), .pointer (some ⟨W.XA, 0, none⟩), .pointer none, .pointer none, .slice none 0 0, .slice none 0 0, .slice none 0 0, .slice none 0 0] 75 := by rw [← hh]; exact (bt1.put 1 _).cong (by simp)
  have hEg2 : Ext (fun b => b = h.size) g1 g2 := by rw [← hh]; exact Ext.put _ _ rfl
  have hsg2 : g2.size = g1.size := by rw [← hh]; exact size_put _ _
  clear hh
  try clear hokN
  have hokN : ∀ j, j < 8 → okPut g2 ⟨h.size, j, none⟩ = true := fun j hj => bt2.ok (by simpa using hj)
  refine S_nil (hK4 _ _ (V_keep [2, 3, 9] (by simp only [proj, lk, reduceIte, Nat.reduceEqDiff]; rfl) ?_)); clear hK4
  refine V_sr T.mix (by kernel_rfl) (fun K5 hK5 => ?_)
  refine S_mv rfl ?_
  refine S_mv rfl ?_
  refine S_nc rfl ?_
  first | refine S_fa0 T.f75_2 rfl ?_ | refine S_fa T.f75_2 rfl ?_
  refine S_st T.sz49 rfl rfl rfl rfl (by simp (disch := omega) only [hokN]) ?_
  generalize hh : putH _ _ _ = g3
  have bt3 : B g3 h.size #[.pointer (some ⟨W.T, 0, none⟩), .pointer (some ⟨W.XA, 0, none⟩), .pointer (some ⟨W.XB, 0, none⟩), .pointer none, .slice none 0 0, .slice none 0 0, .slice none 0 0, .slice none 0 0] 75 := by rw [← hh]; exact (bt2.put 2 _).cong (by simp)
  have hEg3 : Ext (fun b => b = h.size) g2 g3 := by rw [← hh]; exact Ext.put _ _ rfl
  have hsg3 : g3.size = g2.size := by rw [← hh]; exact size_put _ _
  clear hh
  try clear hokN
  have hokN : ∀ j, j < 8 → okPut g3 ⟨h.size, j, none⟩ = true := fun j hj => bt3.ok (by simpa using hj)
  refine S_nil (hK5 _ _ (V_keep [3, 9] (by simp only [proj, lk, reduceIte, Nat.reduceEqDiff]; rfl) ?_)); clear hK5
  refine V_sr T.mix (by kernel_rfl) (fun K6 hK6 => ?_)
  refine S_mv rfl ?_
  refine S_mv rfl ?_
  refine S_nc rfl ?_
  first | refine S_fa0 T.f75_3 rfl ?_ | refine S_fa T.f75_3 rfl ?_
  refine S_st T.sz51 rfl rfl rfl rfl (by simp (disch := omega) only [hokN]) ?_
  generalize hh : putH _ _ _ = g4
  have bt4 : B g4 h.size #[.pointer (some ⟨W.T, 0, none⟩), .pointer (some ⟨W.XA, 0, none⟩), .pointer (some ⟨W.XB, 0, none⟩), .pointer (some ⟨W.Z.m, 0, none⟩), .slice none 0 0, .slice none 0 0, .slice none 0 0, .slice none 0 0] 75 := by rw [← hh]; exact (bt3.put 3 _).cong (by simp)
  have hEg4 : Ext (fun b => b = h.size) g3 g4 := by rw [← hh]; exact Ext.put _ _ rfl
  have hsg4 : g4.size = g3.size := by rw [← hh]; exact size_put _ _
  clear hh
  try clear hokN
  have hokN : ∀ j, j < 8 → okPut g4 ⟨h.size, j, none⟩ = true := fun j hj => bt4.ok (by simpa using hj)
  refine S_nil (hK6 _ _ (V_keep [9] (by simp only [proj, lk, reduceIte, Nat.reduceEqDiff]; rfl) ?_)); clear hK6
  refine V_sr T.mix (by kernel_rfl) (fun K7 hK7 => ?_)
  refine S_mv rfl ?_
  refine S_mk T.ei56 rfl rfl (by omega) (by omega) (by omega) (by omega) ?_
  rw [show ((273 : Int)).toNat = 273 from rfl, Nat.mul_one, mkZ_one]
  generalize hh : Array.push g4 _ = m4
  have ba4 : B m4 g4.size (ia 273 (fun _ => 0)) 3 := by rw [← hh]; exact B.new _ _ _
  have hEm4 : Ext (fun _ => False) g4 m4 := by rw [← hh]; exact Ext.push _ _ _
  have hsm4 : m4.size = g4.size + 1 := by rw [← hh]; simp
  clear hh
  have bs4 := bt4.ext hEm4 (fun f => f)
  try clear hokN
  have hokN : ∀ j, j < 8 → okPut m4 ⟨h.size, j, none⟩ = true := fun j hj => bs4.ok (by simpa using hj)
  rw [show g4.size = h.size + 1 by omega] at ba4
  rw [show g4.size = h.size + 1 by omega]
  refine S_nc rfl ?_
  first | refine S_fa0 T.f75_4 rfl ?_ | refine S_fa T.f75_4 rfl ?_
  refine S_st T.sz56 rfl rfl rfl rfl (by simp (disch := omega) only [hokN]) ?_
  generalize hh : putH _ _ _ = g5
  have bt5 : B g5 h.size #[.pointer (some ⟨W.T, 0, none⟩), .pointer (some ⟨W.XA, 0, none⟩), .pointer (some ⟨W.XB, 0, none⟩), .pointer (some ⟨W.Z.m, 0, none⟩), .slice (some ⟨h.size + 1, 0, none⟩) 273 273, .slice none 0 0, .slice none 0 0, .slice none 0 0] 75 := by rw [← hh]; exact (bs4.put 4 _).cong (by simp)
  have hEg5 : Ext (fun b => b = h.size) m4 g5 := by rw [← hh]; exact Ext.put _ _ rfl
  have hsg5 : g5.size = m4.size := by rw [← hh]; exact size_put _ _
  clear hh
  refine S_nil (hK7 _ _ (V_keep [9] (by simp only [proj, lk, reduceIte, Nat.reduceEqDiff]; rfl) ?_)); clear hK7
  refine V_sr T.mix (by kernel_rfl) (fun K8 hK8 => ?_)
  refine S_mv rfl ?_
  refine S_mk T.ei56 rfl rfl (by omega) (by omega) (by omega) (by omega) ?_
  rw [show ((273 : Int)).toNat = 273 from rfl, Nat.mul_one, mkZ_one]
  generalize hh : Array.push g5 _ = m5
  have ba5 : B m5 g5.size (ia 273 (fun _ => 0)) 3 := by rw [← hh]; exact B.new _ _ _
  have hEm5 : Ext (fun _ => False) g5 m5 := by rw [← hh]; exact Ext.push _ _ _
  have hsm5 : m5.size = g5.size + 1 := by rw [← hh]; simp
  clear hh
  have bs5 := bt5.ext hEm5 (fun f => f)
  try clear hokN
  have hokN : ∀ j, j < 8 → okPut m5 ⟨h.size, j, none⟩ = true := fun j hj => bs5.ok (by simpa using hj)
  rw [show g5.size = h.size + 2 by omega] at ba5
  rw [show g5.size = h.size + 2 by omega]
  refine S_nc rfl ?_
  first | refine S_fa0 T.f75_5 rfl ?_ | refine S_fa T.f75_5 rfl ?_
  refine S_st T.sz56 rfl rfl rfl rfl (by simp (disch := omega) only [hokN]) ?_
  generalize hh : putH _ _ _ = g6
  have bt6 : B g6 h.size #[.pointer (some ⟨W.T, 0, none⟩), .pointer (some ⟨W.XA, 0, none⟩), .pointer (some ⟨W.XB, 0, none⟩), .pointer (some ⟨W.Z.m, 0, none⟩), .slice (some ⟨h.size + 1, 0, none⟩) 273 273, .slice (some ⟨h.size + 2, 0, none⟩) 273 273, .slice none 0 0, .slice none 0 0] 75 := by rw [← hh]; exact (bs5.put 5 _).cong (by simp)
  have hEg6 : Ext (fun b => b = h.size) m5 g6 := by rw [← hh]; exact Ext.put _ _ rfl
  have hsg6 : g6.size = m5.size := by rw [← hh]; exact size_put _ _
  clear hh
  refine S_nil (hK8 _ _ (V_keep [9] (by simp only [proj, lk, reduceIte, Nat.reduceEqDiff]; rfl) ?_)); clear hK8
  refine V_sr T.mix (by kernel_rfl) (fun K9 hK9 => ?_)
  refine S_mv rfl ?_
  refine S_mk T.ei56 rfl rfl (by omega) (by omega) (by omega) (by omega) ?_
  rw [show ((273 : Int)).toNat = 273 from rfl, Nat.mul_one, mkZ_one]
  generalize hh : Array.push g6 _ = m6
  have ba6 : B m6 g6.size (ia 273 (fun _ => 0)) 3 := by rw [← hh]; exact B.new _ _ _
  have hEm6 : Ext (fun _ => False) g6 m6 := by rw [← hh]; exact Ext.push _ _ _
  have hsm6 : m6.size = g6.size + 1 := by rw [← hh]; simp
  clear hh
  have bs6 := bt6.ext hEm6 (fun f => f)
  try clear hokN
  have hokN : ∀ j, j < 8 → okPut m6 ⟨h.size, j, none⟩ = true := fun j hj => bs6.ok (by simpa using hj)
  rw [show g6.size = h.size + 3 by omega] at ba6
  rw [show g6.size = h.size + 3 by omega]
  refine S_nc rfl ?_
  first | refine S_fa0 T.f75_6 rfl ?_ | refine S_fa T.f75_6 rfl ?_
  refine S_st T.sz56 rfl rfl rfl rfl (by simp (disch := omega) only [hokN]) ?_
  generalize hh : putH _ _ _ = g7
  have bt7 : B g7 h.size #[.pointer (some ⟨W.T, 0, none⟩), .pointer (some ⟨W.XA, 0, none⟩), .pointer (some ⟨W.XB, 0, none⟩), .pointer (some ⟨W.Z.m, 0, none⟩), .slice (some ⟨h.size + 1, 0, none⟩) 273 273, .slice (some ⟨h.size + 2, 0, none⟩) 273 273, .slice (some ⟨h.size + 3, 0, none⟩) 273 273, .slice none 0 0] 75 := by rw [← hh]; exact (bs6.put 6 _).cong (by simp)
  have hEg7 : Ext (fun b => b = h.size) m6 g7 := by rw [← hh]; exact Ext.put _ _ rfl
  have hsg7 : g7.size = m6.size := by rw [← hh]; exact size_put _ _
  clear hh
  refine S_nil (hK9 _ _ (V_keep [9] (by simp only [proj, lk, reduceIte, Nat.reduceEqDiff]; rfl) ?_)); clear hK9
  refine V_sr T.mix (by kernel_rfl) (fun K10 hK10 => ?_)
  refine S_mv rfl ?_
  refine S_mk T.ei56 rfl rfl (by omega) (by omega) (by omega) (by omega) ?_
  rw [show ((273 : Int)).toNat = 273 from rfl, Nat.mul_one, mkZ_one]
  generalize hh : Array.push g7 _ = m7
  have ba7 : B m7 g7.size (ia 273 (fun _ => 0)) 3 := by rw [← hh]; exact B.new _ _ _
  have hEm7 : Ext (fun _ => False) g7 m7 := by rw [← hh]; exact Ext.push _ _ _
  have hsm7 : m7.size = g7.size + 1 := by rw [← hh]; simp
  clear hh
  have bs7 := bt7.ext hEm7 (fun f => f)
  try clear hokN
  have hokN : ∀ j, j < 8 → okPut m7 ⟨h.size, j, none⟩ = true := fun j hj => bs7.ok (by simpa using hj)
  rw [show g7.size = h.size + 4 by omega] at ba7
  rw [show g7.size = h.size + 4 by omega]
  refine S_nc rfl ?_
  first | refine S_fa0 T.f75_7 rfl ?_ | refine S_fa T.f75_7 rfl ?_
  refine S_st T.sz56 rfl rfl rfl rfl (by simp (disch := omega) only [hokN]) ?_
  generalize hh : putH _ _ _ = g8
  have bt8 : B g8 h.size #[.pointer (some ⟨W.T, 0, none⟩), .pointer (some ⟨W.XA, 0, none⟩), .pointer (some ⟨W.XB, 0, none⟩), .pointer (some ⟨W.Z.m, 0, none⟩), .slice (some ⟨h.size + 1, 0, none⟩) 273 273, .slice (some ⟨h.size + 2, 0, none⟩) 273 273, .slice (some ⟨h.size + 3, 0, none⟩) 273 273, .slice (some ⟨h.size + 4, 0, none⟩) 273 273] 75 := by rw [← hh]; exact (bs7.put 7 _).cong (by simp)
  have hEg8 : Ext (fun b => b = h.size) m7 g8 := by rw [← hh]; exact Ext.put _ _ rfl
  have hsg8 : g8.size = m7.size := by rw [← hh]; exact size_put _ _
  clear hh
  refine S_nil (hK10 _ _ (V_keep [9] (by simp only [proj, lk, reduceIte, Nat.reduceEqDiff]; rfl) ?_)); clear hK10
  refine V_sr T.mix (by kernel_rfl) (fun K11 hK11 => ?_)
  refine S_mv rfl ?_
  refine S_as rfl ?_
  refine S_nil (hK11 _ _ (V_keep [8] (by simp only [proj, lk, reduceIte, Nat.reduceEqDiff]; rfl) ?_)); clear hK11
  refine V_ret ?_
  refine hR _ _ (ret1 rfl rfl ?_)
  have hpc : pcs W = #[.pointer (some ⟨W.T, 0, none⟩), .pointer (some ⟨W.XA, 0, none⟩), .pointer (some ⟨W.XB, 0, none⟩), .pointer (some ⟨W.Z.m, 0, none⟩), .slice (some ⟨h.size + 1, 0, none⟩) 273 273, .slice (some ⟨h.size + 2, 0, none⟩) 273 273, .slice (some ⟨h.size + 3, 0, none⟩) 273 273, .slice (some ⟨h.size + 4, 0, none⟩) 273 273] := by unfold pcs; rw [hP]
  rw [← hpc] at bt8
  refine ⟨by rw [hP], ⟨by rw [hP]; exact bt8, ?_, ?_, ?_, ?_⟩, ((((((((((((hEg0).step hEg1 (fun b hb e => by omega)).step hEg2 (fun b hb e => by omega)).step hEg3 (fun b hb e => by omega)).step hEg4 (fun b hb e => by omega)).trans hEm4).step hEg5 (fun b hb e => by omega)).trans hEm5).step hEg6 (fun b hb e => by omega)).trans hEm6).step hEg7 (fun b hb e => by omega)).trans hEm7).step hEg8 (fun b hb e => by omega)⟩
  · rw [hP]; exact ((((((ba4.ext hEg5 (fun e => by omega)).ext hEm5 (fun f => f)).ext hEg6 (fun e => by omega)).ext hEm6 (fun f => f)).ext hEg7 (fun e => by omega)).ext hEm7 (fun f => f)).ext hEg8 (fun e => by omega)
  · rw [hP]; exact ((((ba5.ext hEg6 (fun e => by omega)).ext hEm6 (fun f => f)).ext hEg7 (fun e => by omega)).ext hEm7 (fun f => f)).ext hEg8 (fun e => by omega)
  · rw [hP]; exact ((ba6.ext hEg7 (fun e => by omega)).ext hEm7 (fun f => f)).ext hEg8 (fun e => by omega)
  · rw [hP]; exact ba7.ext hEg8 (fun e => by omega)
end Go.Proofs.Qxb6500404aGreat
