import Derived.Test.Qxb6500409aGreatOc
set_option linter.unusedVariables false
set_option linter.unusedSimpArgs false
namespace Go.Proofs.Qxb6500409aGreat
open Go.Eng Go.Bits Go.Blk HufW

/-- the blocks of the real side lie in the order in which they were made -/
structure Sp (W : WA) : Prop where
  l1 : W.T < W.XA ∧ W.tb < W.XA
  l2 : W.XA + 10 < W.XB
  l3 : ∀ z, LzW.ES W.Z z → W.XB + 10 < z ∧ z < W.P
def WT (W : WA) (z : Nat) : Prop := z = W.T ∨ z = W.tb ∨ CT W.XA z ∨ CT W.XB z ∨ LzW.ES W.Z z ∨ PT W.P z
def WTc (W : WA) (z : Nat) : Prop := z = W.T ∨ z = W.tb ∨ CT W.XA z ∨ CT W.XB z ∨ PT W.P z
theorem wtc {W : WA} {z : Nat} (h : WTc W z) : WT W z := by
  rcases h with h | h | h | h | h
  · exact .inl h
  · exact .inr (.inl h)
  · exact .inr (.inr (.inl h))
  · exact .inr (.inr (.inr (.inl h)))
  · exact .inr (.inr (.inr (.inr (.inr h))))
theorem ct_def {X b : Nat} : CT X b ↔ X ≤ b ∧ b ≤ X + 10 := Iff.rfl
theorem pt_def {X b : Nat} : PT X b ↔ X ≤ b ∧ b ≤ X + 4 := Iff.rfl
section sp
variable {W : WA}
theorem Sp.ln (sp : Sp W) : W.T < W.XA ∧ W.tb < W.XA ∧ W.XA + 10 < W.XB ∧ W.XB + 10 < W.P := by
  have h1 := sp.l1; have h2 := sp.l2; have h3 := sp.l3 W.Z.m (.inl rfl); omega
theorem Sp.pt (sp : Sp W) : ∀ z, PT W.P z → z ≠ W.T ∧ z ≠ W.tb := fun z e => by have h1 := sp.ln; rw [pt_def] at e; omega
theorem Sp.pa (sp : Sp W) : ∀ z, PT W.P z → ¬ CT W.XA z := fun z e => by have h1 := sp.ln; rw [pt_def] at e; rw [ct_def]; omega
theorem Sp.pb (sp : Sp W) : ∀ z, PT W.P z → ¬ CT W.XB z := fun z e => by have h1 := sp.ln; rw [pt_def] at e; rw [ct_def]; omega
theorem Sp.ab (sp : Sp W) : ∀ z, CT W.XA z → ¬ CT W.XB z := fun z e => by have h1 := sp.ln; rw [ct_def] at *; omega
theorem Sp.at' (sp : Sp W) : ∀ z, CT W.XA z → z ≠ W.T ∧ z ≠ W.tb := fun z e => by have h1 := sp.ln; rw [ct_def] at e; omega
theorem Sp.bt (sp : Sp W) : ∀ z, CT W.XB z → z ≠ W.T ∧ z ≠ W.tb := fun z e => by have h1 := sp.ln; rw [ct_def] at e; omega
theorem Sp.zt (sp : Sp W) : ∀ z, LzW.ES W.Z z → z ≠ W.T ∧ z ≠ W.tb := fun z e => by have h1 := sp.ln; have h2 := sp.l3 z e; omega
theorem Sp.za (sp : Sp W) : ∀ z, LzW.ES W.Z z → ¬ CT W.XA z := fun z e => by have h1 := sp.ln; have h2 := sp.l3 z e; rw [ct_def]; omega
theorem Sp.zb (sp : Sp W) : ∀ z, LzW.ES W.Z z → ¬ CT W.XB z := fun z e => by have h1 := sp.ln; have h2 := sp.l3 z e; rw [ct_def]; omega
theorem Sp.zp (sp : Sp W) : ∀ z, LzW.ES W.Z z → ¬ PT W.P z := fun z e => by have h1 := sp.ln; have h2 := sp.l3 z e; rw [pt_def]; omega
end sp
theorem not_T {W : WA} {z : Nat} (h : z ≠ W.T ∧ z ≠ W.tb) : ¬ (z = W.T ∨ z = W.tb) := not_or.2 h
theorem p2_pt {W : WA} : PT W.P (W.P + 2) := ⟨by omega, by omega⟩
theorem kw_pt {W : WA} {z : Nat} (h : z = W.P + 3 ∨ z = W.P + 4) : PT W.P z := by rw [pt_def]; omega
/-- the lengths of the kind -/
def lkd (kd : Nat) (cn : Nat → Nat) : List Nat := if kd = 2 then dyL cn else fixL
theorem lkd_ok (kd : Nat) {cn : Nat → Nat} (h : CO cn) : (lkd kd cn).length = 273 ∧ (∀ x, x ∈ lkd kd cn → x ≤ 10) ∧ coE (lkd kd cn) = 0 ∧ ∀ i, i < 273 → 0 < cn i → 0 < (lkd kd cn).getD i 0 := by
  unfold lkd
  split
  · exact ⟨dy_len _, h.mem, h.coE, fun i hi hp => by have := (h.at hi).2; omega⟩
  · exact ⟨fix_len, fix_le, fix_e, fun i hi hp => by
      rw [fix_at hi]; repeat' split
      all_goals omega⟩
theorem wr_if (s : TS) (kd : Nat) (a b : List (Nat × Nat)) : wr (if kd = 2 then wr s a else s) b = wr s ((if kd = 2 then a else []) ++ b) := by
  split
  · rw [wr_app]
  · rfl

/-- the real side: what it keeps between calls -/
structure WS (h : Heap) (W : WA) (s : TS) (ua ub : HC) (st : Lz.MS) : Prop where
  sp : Sp W
  pb : ∃ cn pl co wi, PB h W cn pl co wi
  rt : BitW.RT h W.T W.tb s
  ca : CB h W.XA ua
  cb : CB h W.XB ub
  fa : ua.fill ≤ 265
  fb : ub.fill ≤ 265
  z : LzW.Mat h W.Z st
  ri : Lz.RI st
  n : st.n ≤ 256
theorem WS.ext {h h' : Heap} {W : WA} {s : TS} {ua ub : HC} {st : Lz.MS} {S : Nat → Prop} (w : WS h W s ua ub st) (he : Ext S h h') (hS : ∀ z, WT W z → ¬ S z) : WS h' W s ua ub st := by
  obtain ⟨cn, pl, co, wi, pb⟩ := w.pb
  exact ⟨w.sp, ⟨cn, pl, co, wi, pb.ext he (fun z e => hS z (.inr (.inr (.inr (.inr (.inr e))))))⟩, w.rt.ext he (hS _ (.inl rfl)) (hS _ (.inr (.inl rfl))), w.ca.ext he (fun z e => hS z (.inr (.inr (.inl e)))), w.cb.ext he (fun z e => hS z (.inr (.inr (.inr (.inl e))))), w.fa, w.fb, w.z.ext he (fun z e => hS z (.inr (.inr (.inr (.inr (.inl e)))))), w.ri, w.n⟩
theorem WS.lt {h : Heap} {W : WA} {s : TS} {ua ub : HC} {st : Lz.MS} (w : WS h W s ua ub st) {z : Nat} (e : WT W z) : z < h.size := by
  obtain ⟨cn, pl, co, wi, pb⟩ := w.pb
  have h1 := pb.lt
  have h2 := w.sp.ln
  rcases e with e | e | e | e | e | e
  · omega
  · omega
  · rw [ct_def] at e; omega
  · rw [ct_def] at e; omega
  · have h3 := w.sp.l3 z e; omega
  · rw [pt_def] at e; omega
/-- what Pack answers, errors too -/
def pkE (u : ByteArray) (level : Int) : Nat := if 256 < u.size then 1 else if level < 0 ∨ 2 < level then 13 else 0
def pkT (u : ByteArray) (level : Int) : ByteArray := if pkE u level = 0 then pkF u level else ⟨#[]⟩
/-- what the handed objects hold behind a Pack -/
structure Hd (u : ByteArray) (level : Int) (s : TS) (ua ub : HC) : Prop where
  s : s = ⟨nm (psF u (Lz.toks u level)), ctF u (Lz.toks u level), 0⟩
  c : kdF u (Lz.toks u level) ≠ 0 → CK ua (Huf.cf (lA (leF u (Lz.toks u level)))) ∧ ua.n = 265 ∧ CK ub (Huf.cf (lB (leF u (Lz.toks u level)))) ∧ ub.n = 8
theorem rt_var {h : Heap} {X b : Nat} {s : TS} (r : BitW.RT h X b s) : ∃ s', s' = s ∧ BitW.RT h X b s' := ⟨s, rfl, r⟩
theorem lk_le {u : ByteArray} {T : List Lz.Tok} : lkd (kdF u T) (cnT T) = leF u T := rfl
theorem pad_put {s : TS} (hs : OK s) (h3 : s.n = 3) : padS s = putS s 0 5 := by
  have := put_is hs (v := 0) (k := 5) (by simp) (by omega) (by omega)
  rw [show ((0 : Nat) : Int) = 0 from rfl, show ((5 : Nat) : Int) = 5 from rfl] at this
  rw [this]; unfold padS; rw [h3]; simp
theorem ps_is {u : ByteArray} {level : Int} (hu : u.size ≤ 256) : wr ⟨0, 0, 0⟩ (psF u (Lz.toks u level)) = ⟨nm (psF u (Lz.toks u level)), ctF u (Lz.toks u level), 0⟩ := by
  have hl : (Lz.toks u level).length ≤ 256 := Nat.le_trans (Lz.toks_len u level) hu
  have hT := toks_tk u level
  have hln := ln_ps (u := u) hT
  have hct := (ct_least u (Lz.toks u level)).1
  unfold cS at hct
  rw [wr_is OK.zero (ps_vd hu hT hl) (by rw [hln]; simp only []; omega), hln]; simp
theorem ps_sto {u : ByteArray} {T : List Lz.Tok} (h : kdF u T = 0) : wr ⟨0, 0, 0⟩ (psF u T) = wr (padS (putS (putS ⟨0, 0, 0⟩ 1 1) (kdF u T : Int) 2)) ((u.size, 16) :: stp u 0 u.size) := by
  have e1 : putS ⟨0, 0, 0⟩ 1 1 = ⟨1, 1, 0⟩ := put_is (v := 1) (k := 1) OK.zero (by decide) (by decide) (by decide)
  have hok : OK ⟨1, 1, 0⟩ := by rw [← e1]; exact OK.zero.put _ _
  have e2 : putS ⟨1, 1, 0⟩ ((0 : Nat) : Int) 2 = ⟨1, 3, 0⟩ := put_is (v := 0) (k := 2) hok (by decide) (by decide) (by decide)
  have hok2 : OK ⟨1, 3, 0⟩ := by rw [← e2]; exact hok.put _ _
  rw [h, e1, e2, pad_put hok2 rfl]
  unfold psF emP
  rw [h, if_pos rfl]
  show wr (putS (putS (putS ⟨0, 0, 0⟩ 1 1) ((0 : Nat) : Int) 2) 0 5) _ = _
  rw [e1, e2]
theorem ps_cod {u : ByteArray} {T : List Lz.Tok} (h : kdF u T ≠ 0) : wr ⟨0, 0, 0⟩ (psF u T) = wr (putS (putS ⟨0, 0, 0⟩ 1 1) (kdF u T : Int) 2) ((if kdF u T = 2 then ips (itG none (leF u T)) else []) ++ bp (Huf.cf (lA (leF u T))) (Huf.cf (lB (leF u T))) T) := by
  unfold psF emP
  rw [if_neg h]; rfl
theorem zc {W : WA} (sp : Sp W) : ∀ z, LzW.ES W.Z z → ¬ WTc W z := fun z e y => by
  have h1 := sp.ln; have h2 := sp.l3 z e; unfold WTc at y; rw [ct_def, ct_def, pt_def] at y; omega
theorem kd_ch (u : ByteArray) (T : List Lz.Tok) : chs (8 * (3 + u.size)) (3 + bdC fixL (cnT T)) (3 + ib (itG none (ra 273 fun i => (dyL (cnT T)).getD i 0)) + bdC (ra 273 fun i => (dyL (cnT T)).getD i 0) (cnT T)) = kdF u T := by
  rw [ra_getD (dy_len _)]; rfl
theorem wt_p {W : WA} {z : Nat} (e : PT W.P z) : WT W z := .inr (.inr (.inr (.inr (.inr e))))
theorem wt_z {W : WA} {z : Nat} (e : LzW.ES W.Z z) : WT W z := .inr (.inr (.inr (.inr (.inl e))))
theorem wt_t {W : WA} {z : Nat} (e : z = W.T ∨ z = W.tb) : WT W z := by rcases e with e | e; (exact .inl e); (exact .inr (.inl e))
theorem p1_pt {W : WA} : PT W.P (W.P + 1) := ⟨by omega, by omega⟩
end Go.Proofs.Qxb6500409aGreat
