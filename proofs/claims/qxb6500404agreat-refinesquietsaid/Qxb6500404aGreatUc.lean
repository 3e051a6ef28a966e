import Derived.Test.Qxb6500404aGreatUb
import Derived.Test.Qxb6500404aGreatTd
set_option linter.unusedVariables false
set_option linter.unusedSimpArgs false
namespace Go.Proofs.Qxb6500404aGreat
open Go.Eng Go.Bits Go.Blk HufW Go.Arc

def PTA (W : WA) (A z : Nat) : Prop := WT W z ∨ AT A z
def WSe (h : Heap) (W : WA) : Prop := ∃ s ua ub st, WS h W s ua ub st
theorem WSe.ext {h h' : Heap} {W : WA} {S : Nat → Prop} (w : WSe h W) (he : Ext S h h') (hS : ∀ z, WT W z → ¬ S z) : WSe h' W := by
  obtain ⟨s, ua, ub, st, w⟩ := w
  exact ⟨s, ua, ub, st, w.ext he hS⟩
theorem WSe.new {h h' : Heap} {W : WA} (w : WSe h W) (he : Ext (fun _ => False) h h') : WSe h' W := w.ext he (fun _ _ f => f)
theorem WSe.lt {h : Heap} {W : WA} (w : WSe h W) {z : Nat} (e : WT W z) : z < h.size := by
  obtain ⟨s, ua, ub, st, w⟩ := w
  exact w.lt e
theorem pk_0 {u : ByteArray} {lv : Int} (hu : u.size ≤ 256) (h0 : 0 ≤ lv) (h2 : lv ≤ 2) : pkE u lv = 0 ∧ pkT u lv = pkF u lv := by
  have : pkE u lv = 0 := by unfold pkE; rw [if_neg (by omega), if_neg (by omega)]
  exact ⟨this, by unfold pkT; rw [if_pos this]⟩
def apT (Q : List En) (lv : Int) : ByteArray := if ckF Q lv = 0 then arF lv Q else ⟨#[]⟩
theorem t2_len (n : Nat) : (t2 n).length = 2 := rfl
theorem ofs_le {lv : Int} {Q : List En} (h : ckL Q = 0) (i : Nat) (h4 : Q.length ≤ 4) : ofs lv Q i ≤ 1096 ∧ (rcs lv Q).length ≤ 1096 ∧ (i < Q.length → ofs lv Q i + (ga Q i).1.size + 7 + (pkF (ga Q i).2 lv).size ≤ 1096) := by
  have h1 := rcs_le (lv := lv) h
  refine ⟨?_, by omega, fun hi => ?_⟩
  · have : (rcs lv (Q.take i)).length ≤ (rcs lv Q).length := by
      conv => rhs; rw [← List.take_append_drop i Q, rcs_app, List.length_append]
      omega
    unfold ofs; omega
  · have : (rcs lv (Q.take (i + 1))).length ≤ (rcs lv Q).length := by
      conv => rhs; rw [← List.take_append_drop (i + 1) Q, rcs_app, List.length_append]
      omega
    have h2 := ofs_succ (lv := lv) hi
    unfold ofs at h2 ⊢; omega
set_option maxHeartbeats 1600000 in
theorem record_spec (h : Heap) (W : WA) (ws : WSe h W) (A D : Nat) (t : List Int) (fo ft : Nat → Nat) (gn : Nat → Int) (ax : AX h A W.P D t fo ft gn) (hW : ∀ z, WT W z → z < A) (nm dt : ByteArray) (lv : Int) (hd : dt.size ≤ 256) (hnm : nm.size ≤ 8) (l0 : 0 ≤ lv) (l2 : lv ≤ 2) (hl : t.length + nm.size + 7 + (pkF dt lv).size < 1200) :
    FC Tryz.prog 50 (#[.pointer (some ⟨A, 0, none⟩), .string nm, .string dt, .int .i64 lv] : Array Value) h fun rv h' => rv = .tuple #[] ∧ WSe h' W ∧ AX h' A W.P D (t ++ rcd lv (nm, dt)) fo ft gn ∧ Ext (PTA W A) h h' := by
  obtain ⟨g, x0, _⟩ := ax.x
  have a0 := (aq x0).1
  obtain ⟨s, ua, ub, st, w0⟩ := ws
  obtain ⟨pe, pt⟩ := pk_0 hd l0 l2
  have hpz := (pk_size (u := dt) lv).2
  obtain ⟨tx, etx⟩ : ∃ x, x = pkF dt lv := ⟨_, rfl⟩
  rw [← etx] at pt hl hpz
  have hsm := smL_lt (bz dt)
  refine FC_of [(0, .pointer (some ⟨A, 0, none⟩)), (1, .string nm), (2, .string dt), (3, .int .i64 lv)] Tryz.func50 rfl Tryz.ntmps50 (by simp) rfl (fun R hR => ?_)
  refine V_sr T.mix (by kernel_rfl) (fun K1 hK1 => ?_)
  refine S_mv rfl ?_
  refine S_nc rfl ?_
  first | refine S_fa0 T.f59_0 rfl ?_ | refine S_fa T.f59_0 rfl ?_
  refine S_ldK T.ag27 rfl (fun K' hK' => ?_)
  simp (disch := omega) only [a0, oP_some, Nat.add_zero]
  refine hK' _ ?_; clear hK' K'
  refine S_mv rfl ?_
  refine S_mv rfl ?_
  refine S_call T.hb67 rfl ?_
  have hpk := bpack_spec h W s ua ub st w0 dt lv
  rw [pt, pe] at hpk
  refine FC.mono hpk ?_
  rintro v' h1 ⟨rfl, ⟨s1, va, vb, st1, w1, _⟩, hE1⟩
  have wh1 : WSe h1 W := ⟨s1, va, vb, st1, w1⟩
  have xh1 := ax.ext hE1 (fun z e y => by have h9 := hW z y; rw [at_def] at e; omega)
  have hXh1 : Ext (PTA W A) h h1 := hE1.mono fun _ e => .inl e
  refine S_mv rfl ?_
  refine S_ex rfl rfl ?_
  refine S_ex rfl rfl ?_
  refine S_as rfl ?_
  refine S_as rfl ?_
  refine S_nil (hK1 _ _ (V_keep [0, 1, 2, 8] (by simp only [proj, lk, reduceIte, Nat.reduceEqDiff]; rfl) ?_)); clear hK1
  refine V_sr T.mix (by kernel_rfl) (fun K2 hK2 => ?_)
  refine S_mv rfl ?_
  refine S_call T.hb56 rfl ?_
  refine FC.mono (sum_spec h1 dt (by omega)) ?_
  rintro v' h' ⟨rfl, rfl⟩
  refine S_as rfl ?_
  refine S_nil (hK2 _ _ (V_keep [0, 1, 2, 8, 10] (by simp only [proj, lk, reduceIte, Nat.reduceEqDiff]; rfl) ?_)); clear hK2
  refine V_sr T.mix (by kernel_rfl) (fun K3 hK3 => ?_)
  refine S_mv rfl ?_
  refine S_mv rfl ?_
  refine S_lens T.kd9 rfl ?_
  refine S_call T.hb52 rfl ?_
  refine FC.mono (one_spec h1 A W.P D t fo ft gn xh1 nm.size (by omega) (by first | omega | (simp only [List.length_append, bz_len, List.length_cons, List.length_nil, t2_len]; omega))) ?_
  rintro v' h2 ⟨rfl, xh2, hEh2⟩
  have wh2 := wh1.ext hEh2 (fun z e y => by have h9 := hW z e; rw [at_def] at y; omega)
  have hXh2 := hXh1.trans (hEh2.mono fun _ e => Or.inr (b := AT A _) e)
  refine S_nil (hK3 _ _ (V_keep [0, 1, 2, 8, 10] (by simp only [proj, lk, reduceIte, Nat.reduceEqDiff]; rfl) ?_)); clear hK3
  refine V_sr T.mix (by kernel_rfl) (fun K4 hK4 => ?_)
  refine S_mv rfl ?_
  refine S_mv rfl ?_
  refine S_call T.hb68 rfl ?_
  refine FC.mono (lay_spec h2 A W.P D (t ++ [((nm.size : Nat) : Int)]) fo ft gn xh2 nm (by first | omega | (simp only [List.length_append, bz_len, List.length_cons, List.length_nil, t2_len]; omega)) (by first | omega | (simp only [List.length_append, bz_len, List.length_cons, List.length_nil, t2_len]; omega))) ?_
  rintro v' h3 ⟨rfl, xh3, hEh3⟩
  have wh3 := wh2.ext hEh3 (fun z e y => by have h9 := hW z e; rw [at_def] at y; omega)
  have hXh3 := hXh2.trans (hEh3.mono fun _ e => Or.inr (b := AT A _) e)
  refine S_nil (hK4 _ _ (V_keep [0, 2, 8, 10] (by simp only [proj, lk, reduceIte, Nat.reduceEqDiff]; rfl) ?_)); clear hK4
  refine V_sr T.mix (by kernel_rfl) (fun K5 hK5 => ?_)
  refine S_mv rfl ?_
  refine S_mv rfl ?_
  refine S_lens T.kd9 rfl ?_
  refine S_call T.hb51 rfl ?_
  refine FC.mono (two_spec h3 A W.P D ((t ++ [((nm.size : Nat) : Int)]) ++ bz nm) fo ft gn xh3 dt.size (by omega) (by first | omega | (simp only [List.length_append, bz_len, List.length_cons, List.length_nil, t2_len]; omega))) ?_
  rintro v' h4 ⟨rfl, xh4, hEh4⟩
  have wh4 := wh3.ext hEh4 (fun z e y => by have h9 := hW z e; rw [at_def] at y; omega)
  have hXh4 := hXh3.trans (hEh4.mono fun _ e => Or.inr (b := AT A _) e)
  refine S_nil (hK5 _ _ (V_keep [0, 8, 10] (by simp only [proj, lk, reduceIte, Nat.reduceEqDiff]; rfl) ?_)); clear hK5
  refine V_sr T.mix (by kernel_rfl) (fun K6 hK6 => ?_)
  refine S_mv rfl ?_
  refine S_mv rfl ?_
  refine S_lens T.kd9 rfl ?_
  refine S_call T.hb51 rfl ?_
  refine FC.mono (two_spec h4 A W.P D (((t ++ [((nm.size : Nat) : Int)]) ++ bz nm) ++ t2 dt.size) fo ft gn xh4 tx.size (by omega) (by first | omega | (simp only [List.length_append, bz_len, List.length_cons, List.length_nil, t2_len]; omega))) ?_
  rintro v' h5 ⟨rfl, xh5, hEh5⟩
  have wh5 := wh4.ext hEh5 (fun z e y => by have h9 := hW z e; rw [at_def] at y; omega)
  have hXh5 := hXh4.trans (hEh5.mono fun _ e => Or.inr (b := AT A _) e)
  refine S_nil (hK6 _ _ (V_keep [0, 8, 10] (by simp only [proj, lk, reduceIte, Nat.reduceEqDiff]; rfl) ?_)); clear hK6
  refine V_sr T.mix (by kernel_rfl) (fun K7 hK7 => ?_)
  refine S_mv rfl ?_
  refine S_mv rfl ?_
  refine S_call T.hb51 rfl ?_
  refine FC.mono (two_spec h5 A W.P D ((((t ++ [((nm.size : Nat) : Int)]) ++ bz nm) ++ t2 dt.size) ++ t2 tx.size) fo ft gn xh5 (smF dt) hsm (by first | omega | (simp only [List.length_append, bz_len, List.length_cons, List.length_nil, t2_len]; omega))) ?_
  rintro v' h6 ⟨rfl, xh6, hEh6⟩
  have wh6 := wh5.ext hEh6 (fun z e y => by have h9 := hW z e; rw [at_def] at y; omega)
  have hXh6 := hXh5.trans (hEh6.mono fun _ e => Or.inr (b := AT A _) e)
  refine S_nil (hK7 _ _ (V_keep [0, 8] (by simp only [proj, lk, reduceIte, Nat.reduceEqDiff]; rfl) ?_)); clear hK7
  refine V_reg T.mix (by kernel_rfl) ?_
  refine S_mv rfl ?_
  refine S_mv rfl ?_
  refine S_call T.hb68 rfl ?_
  refine FC.mono (lay_spec h6 A W.P D (((((t ++ [((nm.size : Nat) : Int)]) ++ bz nm) ++ t2 dt.size) ++ t2 tx.size) ++ t2 (smF dt)) fo ft gn xh6 tx (by first | omega | (simp only [List.length_append, bz_len, List.length_cons, List.length_nil, t2_len]; omega)) (by first | omega | (simp only [List.length_append, bz_len, List.length_cons, List.length_nil, t2_len]; omega))) ?_
  rintro v' h7 ⟨rfl, xh7, hEh7⟩
  have wh7 := wh6.ext hEh7 (fun z e y => by have h9 := hW z e; rw [at_def] at y; omega)
  have hXh7 := hXh6.trans (hEh7.mono fun _ e => Or.inr (b := AT A _) e)
  refine S_nilk [] (by simp only [proj, lk, reduceIte, Nat.reduceEqDiff]; rfl) ?_
  -- end
  refine hR _ _ (ret0 rfl ?_)
  exact ⟨rfl, wh7, by unfold rcd; rw [← etx]; simp only [List.append_assoc] at xh7 ⊢; exact xh7, hXh7⟩
set_option maxHeartbeats 3200000 in
theorem apack_spec (h : Heap) (W : WA) (ws : WSe h W) (A D : Nat) (t : List Int) (fo ft : Nat → Nat) (gn : Nat → Int) (ax : AX h A W.P D t fo ft gn) (hW : ∀ z, WT W z → z < A) (lo : Nat) (a : Option Addr) (cp : Nat) (Q : List En) (ev : EV lo h a Q) (hQ : Q.length ≤ 5) (hlo : ∀ z, lo ≤ z → ¬ PTA W A z) (lv : Int) :
    FC Tryz.prog 29 (#[.pointer (some ⟨A, 0, none⟩), .slice a Q.length cp, .int .i64 lv] : Array Value) h fun rv h' => rv = .tuple #[.string (apT Q lv), .int .i64 ((ckF Q lv : Nat) : Int)] ∧ WSe h' W ∧ (∃ t' fo', AX h' A W.P D t' fo' ft gn) ∧ Ext (PTA W A) h h' := by
  obtain ⟨g, x0, pr⟩ := ax.x
  try clear a0 a1 a2 a3 a4 a5 a6 ao ab aok pok ook tok gok
  obtain ⟨a0, a1, a2, a3, a4, a5, a6, ao, ab, aok, pok, ook, tok, gok⟩ := aq (x0)
  refine FC_of [(0, .pointer (some ⟨A, 0, none⟩)), (1, .slice a Q.length cp), (2, .int .i64 lv)] Tryz.func29 rfl Tryz.ntmps29 (by simp) rfl (fun R hR => ?_)
  refine V_sr T.mix (by kernel_rfl) (fun K1 hK1 => ?_)
  refine S_as rfl ?_
  refine S_as rfl ?_
  refine S_nil (hK1 _ _ (V_keep [0, 1, 2] (by simp only [proj, lk, reduceIte, Nat.reduceEqDiff]; rfl) ?_)); clear hK1
  refine V_seq (fun K2 hK2 => ?_)
  refine V_sr T.mix (by kernel_rfl) (fun K3 hK3 => ?_)
  refine S_mv rfl ?_
  refine S_lenl T.el37 rfl ?_
  refine S_bin rfl rfl rfl ?_
  refine S_nil (hK3 _ _ (V_keep [0, 1, 2, 14] (by simp only [proj, lk, reduceIte, Nat.reduceEqDiff]; rfl) ?_)); clear hK3
  refine V_condp rfl (fun c67 => ?_) (fun c67 => ?_)
  · skip
    refine V_sr T.mix (by kernel_rfl) (fun K4 hK4 => ?_)
    refine S_as rfl ?_
    refine S_as rfl ?_
    refine S_nil (hK4 _ _ (V_keep [6, 7] (by simp only [proj, lk, reduceIte, Nat.reduceEqDiff]; rfl) ?_)); clear hK4
    refine V_ret ?_
    refine hR _ _ (ret2 rfl rfl rfl ?_)
    have hv : ckF Q lv = 17 := by unfold ckF; rw [if_pos (by omega)]
    exact ⟨by unfold apT; rw [hv]; rfl, ws, ⟨_, _, ax⟩, Ext.refl _ _⟩
  · skip
    refine V_skipk [0, 1, 2] (by simp only [proj, lk, reduceIte, Nat.reduceEqDiff]; rfl) ?_
    refine hK2 _ _ ?_; clear hK2
    refine V_seq (fun K5 hK5 => ?_)
    refine V_sr T.mix (by kernel_rfl) (fun K6 hK6 => ?_)
    refine S_mv rfl ?_
    refine S_bin rfl rfl rfl ?_
    refine S_mv rfl ?_
    refine S_dec (fun g70 => ?_) (fun g70 => ?_)
    · skip
      refine S_gf rfl ?_
      refine S_gf rfl ?_
      refine S_pt rfl rfl ?_
      refine S_nil (hK6 _ _ (V_keep [0, 1, 2, 20] (by simp only [proj, lk, reduceIte, Nat.reduceEqDiff]; rfl) ?_)); clear hK6
      refine V_condt rfl ?_
      refine V_sr T.mix (by kernel_rfl) (fun K7 hK7 => ?_)
      refine S_as rfl ?_
      refine S_as rfl ?_
      refine S_nil (hK7 _ _ (V_keep [6, 7] (by simp only [proj, lk, reduceIte, Nat.reduceEqDiff]; rfl) ?_)); clear hK7
      refine V_ret ?_
      refine hR _ _ (ret2 rfl rfl rfl ?_)
      have hv : ckF Q lv = 13 := by unfold ckF; rw [if_neg (by omega), if_pos (by omega)]
      exact ⟨by unfold apT; rw [hv]; rfl, ws, ⟨_, _, ax⟩, Ext.refl _ _⟩
    · skip
      refine S_gt rfl ?_
      refine S_mv rfl ?_
      refine S_gt rfl ?_
      refine S_bin rfl rfl rfl ?_
      refine S_pf rfl rfl ?_
      refine S_nil (hK6 _ _ (V_keep [0, 1, 2, 20] (by simp only [proj, lk, reduceIte, Nat.reduceEqDiff]; rfl) ?_)); clear hK6
      refine V_condp rfl (fun c70 => ?_) (fun c70 => ?_)
      · skip
        refine V_sr T.mix (by kernel_rfl) (fun K8 hK8 => ?_)
        refine S_as rfl ?_
        refine S_as rfl ?_
        refine S_nil (hK8 _ _ (V_keep [6, 7] (by simp only [proj, lk, reduceIte, Nat.reduceEqDiff]; rfl) ?_)); clear hK8
        refine V_ret ?_
        refine hR _ _ (ret2 rfl rfl rfl ?_)
        have hv : ckF Q lv = 13 := by unfold ckF; rw [if_neg (by omega), if_pos (by omega)]
        exact ⟨by unfold apT; rw [hv]; rfl, ws, ⟨_, _, ax⟩, Ext.refl _ _⟩
      · skip
        refine V_skipk [0, 1, 2] (by simp only [proj, lk, reduceIte, Nat.reduceEqDiff]; rfl) ?_
        refine hK5 _ _ ?_; clear hK5
        refine V_sr T.mix (by kernel_rfl) (fun K9 hK9 => ?_)
        refine S_mv rfl ?_
        refine S_call T.hb49 rfl ?_
        refine FC.mono (judge_spec h lo a cp Q ev hQ) ?_
        rintro v' h' ⟨rfl, rfl⟩
        refine S_as rfl ?_
        refine S_nil (hK9 _ _ (V_keep [0, 1, 2, 8] (by simp only [proj, lk, reduceIte, Nat.reduceEqDiff]; rfl) ?_)); clear hK9
        refine V_seq (fun K10 hK10 => ?_)
        refine V_sr T.mix (by kernel_rfl) (fun K11 hK11 => ?_)
        refine S_mv rfl ?_
        refine S_bin rfl rfl rfl ?_
        refine S_nil (hK11 _ _ (V_keep [0, 1, 2, 8, 24] (by simp only [proj, lk, reduceIte, Nat.reduceEqDiff]; rfl) ?_)); clear hK11
        refine V_condp rfl (fun c74 => ?_) (fun c74 => ?_)
        · skip
          refine V_sr T.mix (by kernel_rfl) (fun K12 hK12 => ?_)
          refine S_mv rfl ?_
          refine S_as rfl ?_
          refine S_as rfl ?_
          refine S_nil (hK12 _ _ (V_keep [6, 7] (by simp only [proj, lk, reduceIte, Nat.reduceEqDiff]; rfl) ?_)); clear hK12
          refine V_ret ?_
          refine hR _ _ (ret2 rfl rfl rfl ?_)
          have hv : ckF Q lv = ckL Q := by unfold ckF; rw [if_neg (by omega), if_neg (by omega)]
          exact ⟨by unfold apT; rw [hv, if_neg (by omega)], ws, ⟨_, _, ax⟩, Ext.refl _ _⟩
        · skip
          refine V_skipk [0, 1, 2] (by simp only [proj, lk, reduceIte, Nat.reduceEqDiff]; rfl) ?_
          refine hK10 _ _ ?_; clear hK10
          refine V_sr T.mix (by kernel_rfl) (fun K13 hK13 => ?_)
          refine S_mv rfl ?_
          refine S_nc rfl ?_
          first | refine S_fa0 T.f59_3 rfl ?_ | refine S_fa T.f59_3 rfl ?_
          refine S_st T.sz3 rfl rfl rfl rfl (by simp (disch := omega) only [aok, pok, ook, tok, gok]) ?_
          generalize hh : putH _ _ _ = h0
          have y0 : A0 h0 A W.P D 0 g fo ft gn := by rw [← hh]; exact x0.pf 0
          have hEh0 : Ext (AT A) h h0 := by rw [← hh]; exact Ext.put _ _ ⟨by omega, by omega⟩
          clear hh
          have hck : ckL Q = 0 := by omega
          have l0 : 0 ≤ lv := by omega
          have l2 : lv ≤ 2 := by omega
          have h4 : Q.length ≤ 4 := by omega
          have hcf : ckF Q lv = 0 := by unfold ckF; rw [if_neg (by omega), if_neg (by omega)]; exact hck
          refine S_nil (hK13 _ _ (V_keep [0, 1, 2] (by simp only [proj, lk, reduceIte, Nat.reduceEqDiff]; rfl) ?_)); clear hK13
          refine V_seq (fun K14 hK14 => ?_)
          refine V_sr T.mix (by kernel_rfl) (fun K15 hK15 => ?_)
          refine S_as rfl ?_
          refine S_nil (hK15 _ _ (V_keep [0, 1, 2, 9] (by simp only [proj, lk, reduceIte, Nat.reduceEqDiff]; rfl) ?_)); clear hK15
          refine V_block ?_
          refine V_loop (fun m l h' => ∃ (i : Nat) (hk : Heap) (fok : Nat → Nat), (i ≤ Q.length) ∧ (AX hk A W.P D (rcs lv (Q.take i)) fok ft gn) ∧ (∀ j, j < i → fok j = ofs lv Q j) ∧ (WSe hk W) ∧ (EV lo hk a Q) ∧ (Ext (PTA W A) h hk) ∧ m = Q.length - i ∧ l = [(0, .pointer (some ⟨A, 0, none⟩)), (1, .slice a Q.length cp), (2, .int .i64 lv), (9, .int .i64 (i : Int))] ∧ hk = h') _ ⟨0, h0, fo, Nat.zero_le _, ⟨Nat.zero_le _, g, by rw [List.take_zero]; exact y0, fun j hj => absurd hj (Nat.not_lt_zero _)⟩, fun j hj => absurd hj (Nat.not_lt_zero _), ws.ext hEh0 (fun z e y => by have h9 := hW z e; rw [at_def] at y; omega), ev.ext hEh0 (fun z hz e => hlo z hz (.inr e)), hEh0.mono fun _ e => .inr e, rfl, rfl, rfl⟩ ?_
          rintro m l h' ⟨i, hk, fok, hi, axk, hfo, wk, evk, hEk, rfl, rfl, rfl⟩ K16 hK16
          try clear x0 pr g
          obtain ⟨g, x0, pr⟩ := axk.x
          try clear a0 a1 a2 a3 a4 a5 a6 ao ab aok pok ook tok gok
          obtain ⟨a0, a1, a2, a3, a4, a5, a6, ao, ab, aok, pok, ook, tok, gok⟩ := aq (x0)
          refine V_seq (fun K17 hK17 => ?_)
          refine V_sr T.mix (by kernel_rfl) (fun K18 hK18 => ?_)
          refine S_mv rfl ?_
          refine S_mv rfl ?_
          refine S_lenl T.el37 rfl ?_
          refine S_bin rfl rfl rfl ?_
          refine S_nil (hK18 _ _ (V_keep [0, 1, 2, 9, 32] (by simp only [proj, lk, reduceIte, Nat.reduceEqDiff]; rfl) ?_)); clear hK18
          refine V_condp rfl (fun c78 => ?_) (fun c78 => ?_)
          · skip
            refine V_skipk [0, 1, 2, 9] (by simp only [proj, lk, reduceIte, Nat.reduceEqDiff]; rfl) ?_
            refine hK17 _ _ ?_; clear hK17
            refine V_seq (fun K19 hK19 => ?_)
            refine V_block ?_
            refine V_sr T.mix (by kernel_rfl) (fun K20 hK20 => ?_)
            refine S_mv rfl ?_
            refine S_nc rfl ?_
            first | refine S_fa0 T.f59_4 rfl ?_ | refine S_fa T.f59_4 rfl ?_
            refine S_ldK T.ag56 rfl (fun K' hK' => ?_)
            simp (disch := omega) only [a0, a1, a2, a3, a4, a5, a6, ao, ab, oP_some, Nat.add_zero]
            refine hK' _ ?_; clear hK' K'
            refine S_mv rfl ?_
            refine S_mv rfl ?_
            refine S_nc rfl ?_
            first | refine S_fa0 T.f59_3 rfl ?_ | refine S_fa T.f59_3 rfl ?_
            refine S_ldK T.ag3 rfl (fun K' hK' => ?_)
            simp (disch := omega) only [a0, a1, a2, a3, a4, a5, a6, ao, ab, oP_some, Nat.add_zero]
            refine hK' _ ?_; clear hK' K'
            refine S_ixN i T.el56 rfl rfl rfl (by omega) ?_
            refine S_st T.sz3 rfl rfl rfl rfl (by simp (disch := omega) only [aok, pok, ook, tok, gok]) ?_
            generalize hh : putH _ _ _ = h1
            have ax1 : AX h1 A W.P D (rcs lv (Q.take i)) (Huf.ups fok i (rcs lv (Q.take i)).length) ft gn := by rw [← hh]; exact ⟨axk.le, g, x0.po i _, pr⟩
            have hEh1 : Ext (AT A) hk h1 := by rw [← hh]; exact Ext.put _ _ ⟨by omega, by omega⟩
            clear hh
            have w1 := wk.ext hEh1 (fun z e y => by have h9 := hW z e; rw [at_def] at y; omega)
            refine S_nil (hK20 _ _ (V_keep [0, 1, 2, 9] (by simp only [proj, lk, reduceIte, Nat.reduceEqDiff]; rfl) ?_)); clear hK20
            refine V_reg T.mix (by kernel_rfl) ?_
            refine S_mv rfl ?_
            refine S_mv rfl ?_
            refine S_mv rfl ?_
            have hc4 := (evk.ext hEh1 (fun z hz e => hlo z hz (.inr e)))
            obtain ⟨b, rfl, hb1, hb2, hc⟩ := hc4.get (i := i) (by omega)
            have n0 := (hc i (by omega)).1
            have n1 := (hc i (by omega)).2
            refine S_ix T.el37 rfl rfl (by omega) (by omega) ?_
            rw [Nat.zero_add, Int.toNat_natCast]
            first | refine S_fa0 T.f104_0 rfl ?_ | refine S_fa T.f104_0 rfl ?_
            refine S_ldK T.ag9 rfl (fun K' hK' => ?_)
            simp (disch := omega) only [a0, a1, a2, a3, a4, a5, a6, ao, ab, n0, n1, oP_some, Nat.add_zero]
            refine hK' _ ?_; clear hK' K'
            refine S_mv rfl ?_
            refine S_mv rfl ?_
            refine S_ix T.el37 rfl rfl (by omega) (by omega) ?_
            rw [Nat.zero_add, Int.toNat_natCast]
            first | refine S_fa0 T.f104_1 rfl ?_ | refine S_fa T.f104_1 rfl ?_
            refine S_ldK T.ag9 rfl (fun K' hK' => ?_)
            simp (disch := omega) only [a0, a1, a2, a3, a4, a5, a6, ao, ab, n0, n1, oP_some, Nat.add_zero]
            refine hK' _ ?_; clear hK' K'
            refine S_mv rfl ?_
            refine S_call T.hb50 rfl ?_
            have hqi := ckL_at hck _ (ga_mem (E := Q) (i := i) (by omega))
            have hof := ofs_le (lv := lv) hck i (by omega)
            refine FC.mono (record_spec h1 W w1 A D _ _ ft gn ax1 hW (ga Q i).1 (ga Q i).2 lv (by omega) (by omega) l0 l2 (by have h8 := hof.2.2 (by omega); unfold ofs at h8; omega)) ?_
            rintro v' h2 ⟨rfl, w2, ax2, hE2⟩
            refine S_nilk [0, 1, 2, 9] (by simp only [proj, lk, reduceIte, Nat.reduceEqDiff]; rfl) ?_
            refine hK19 _ _ ?_; clear hK19
            refine V_reg T.mix (by kernel_rfl) ?_
            refine S_mv rfl ?_
            refine S_addN (i + 1) rfl rfl (by omega) (by omega) ?_
            refine S_as rfl ?_
            refine S_nilk [0, 1, 2, 9] (by simp only [proj, lk, reduceIte, Nat.reduceEqDiff]; rfl) ?_
            exact hK16 _ _ ⟨_, by omega, i + 1, h2, Huf.ups fok i (rcs lv (Q.take i)).length, by omega, by rw [ga_take (by omega), rcs_app, rcs_one]; exact ax2, fun j hj => by unfold Huf.ups; by_cases e : j = i; (rw [if_pos e, e]; rfl); (rw [if_neg e]; exact hfo j (by omega)), w2, hc4.ext hE2 hlo, (hEk.trans (hEh1.mono fun _ e => .inr e)).trans hE2, rfl, rfl, rfl⟩
          · skip
            refine V_exitk [0, 1] rfl (by simp only [proj, lk, reduceIte, Nat.reduceEqDiff]; rfl) ?_
            refine hK14 _ _ ?_; clear hK14
            refine V_sr T.mix (by kernel_rfl) (fun K21 hK21 => ?_)
            refine S_mv rfl ?_
            refine S_nc rfl ?_
            first | refine S_fa0 T.f59_3 rfl ?_ | refine S_fa T.f59_3 rfl ?_
            refine S_ldK T.ag3 rfl (fun K' hK' => ?_)
            simp (disch := omega) only [a0, a1, a2, a3, a4, a5, a6, ao, ab, oP_some, Nat.add_zero]
            refine hK' _ ?_; clear hK' K'
            refine S_as rfl ?_
            refine S_nil (hK21 _ _ (V_keep [0, 1, 10] (by simp only [proj, lk, reduceIte, Nat.reduceEqDiff]; rfl) ?_)); clear hK21
            refine V_seq (fun K22 hK22 => ?_)
            refine V_sr T.mix (by kernel_rfl) (fun K23 hK23 => ?_)
            refine S_as rfl ?_
            refine S_nil (hK23 _ _ (V_keep [0, 1, 10, 11] (by simp only [proj, lk, reduceIte, Nat.reduceEqDiff]; rfl) ?_)); clear hK23
            refine V_block ?_
            refine V_loop (fun m l h' => ∃ (k : Nat) (hm : Heap), (k ≤ Q.length) ∧ (AX hm A W.P D (rcs lv (Q.take i) ++ drL lv Q k) fok ft gn) ∧ (WSe hm W) ∧ (Ext (PTA W A) h hm) ∧ m = Q.length - k ∧ l = [(0, .pointer (some ⟨A, 0, none⟩)), (1, .slice a Q.length cp), (10, .int .i64 (((rcs lv (Q.take i)).length : Nat) : Int)), (11, .int .i64 (k : Int))] ∧ hm = h') _ ⟨0, hk, Nat.zero_le _, by unfold drL; rw [List.append_nil]; exact axk, wk, hEk, rfl, rfl, rfl⟩ ?_
            rintro m l h' ⟨k, hm, hk2, axm, wm, hEm, rfl, rfl, rfl⟩ K24 hK24
            try clear x0 pr g
            obtain ⟨g, x0, pr⟩ := axm.x
            try clear a0 a1 a2 a3 a4 a5 a6 ao ab aok pok ook tok gok
            obtain ⟨a0, a1, a2, a3, a4, a5, a6, ao, ab, aok, pok, ook, tok, gok⟩ := aq (x0)
            refine V_seq (fun K25 hK25 => ?_)
            refine V_sr T.mix (by kernel_rfl) (fun K26 hK26 => ?_)
            refine S_mv rfl ?_
            refine S_mv rfl ?_
            refine S_lenl T.el37 rfl ?_
            refine S_bin rfl rfl rfl ?_
            refine S_nil (hK26 _ _ (V_keep [0, 1, 10, 11, 65] (by simp only [proj, lk, reduceIte, Nat.reduceEqDiff]; rfl) ?_)); clear hK26
            refine V_condp rfl (fun c83 => ?_) (fun c83 => ?_)
            · skip
              refine V_skipk [0, 1, 10, 11] (by simp only [proj, lk, reduceIte, Nat.reduceEqDiff]; rfl) ?_
              refine hK25 _ _ ?_; clear hK25
              refine V_seq (fun K27 hK27 => ?_)
              refine V_block ?_
              refine V_reg T.mix (by kernel_rfl) ?_
              refine S_mv rfl ?_
              refine S_mv rfl ?_
              refine S_nc rfl ?_
              first | refine S_fa0 T.f59_4 rfl ?_ | refine S_fa T.f59_4 rfl ?_
              refine S_ldK T.ag56 rfl (fun K' hK' => ?_)
              simp (disch := omega) only [a0, a1, a2, a3, a4, a5, a6, ao, ab, oP_some, Nat.add_zero]
              refine hK' _ ?_; clear hK' K'
              refine S_mv rfl ?_
              refine S_ixN k T.el56 rfl rfl rfl (by omega) ?_
              refine S_ldK T.ag3 rfl (fun K' hK' => ?_)
              simp (disch := omega) only [a0, a1, a2, a3, a4, a5, a6, ao, ab, oP_some, Nat.add_zero]
              refine hK' _ ?_; clear hK' K'
              refine S_call T.hb51 rfl ?_
              refine FC.mono (two_spec hm A W.P D _ fok ft gn axm (fok k) (by rw [hfo k (by omega)]; have h8 := (ofs_le (lv := lv) hck k (by omega)).1; omega) (by rw [List.length_append, drL_len]; have h8 := (ofs_le (lv := lv) hck i (by omega)).1; unfold ofs at h8; omega)) ?_
              rintro v' h1 ⟨rfl, ax1, hEh1⟩
              refine S_nilk [0, 1, 10, 11] (by simp only [proj, lk, reduceIte, Nat.reduceEqDiff]; rfl) ?_
              refine hK27 _ _ ?_; clear hK27
              refine V_reg T.mix (by kernel_rfl) ?_
              refine S_mv rfl ?_
              refine S_addN (k + 1) rfl rfl (by omega) (by omega) ?_
              refine S_as rfl ?_
              refine S_nilk [0, 1, 10, 11] (by simp only [proj, lk, reduceIte, Nat.reduceEqDiff]; rfl) ?_
              exact hK24 _ _ ⟨_, by omega, k + 1, h1, by omega, by unfold drL; rw [← List.append_assoc, ← hfo k (by omega)]; exact ax1, wm.ext hEh1 (fun z e y => by have h9 := hW z e; rw [at_def] at y; omega), hEm.trans (hEh1.mono fun _ e => .inr e), rfl, rfl, rfl⟩
            · skip
              refine V_exitk [0, 1, 10] rfl (by simp only [proj, lk, reduceIte, Nat.reduceEqDiff]; rfl) ?_
              refine hK22 _ _ ?_; clear hK22
              refine V_sr T.mix (by kernel_rfl) (fun K28 hK28 => ?_)
              refine S_mv rfl ?_
              refine S_mv rfl ?_
              refine S_lenl T.el37 rfl ?_
              refine S_call T.hb52 rfl ?_
              have hR0 := (ofs_le (lv := lv) hck i (by omega)).1
              unfold ofs at hR0
              have hR2 := (ofs_le (lv := lv) hck i (by omega)).2.1
              refine FC.mono (one_spec hm A W.P D _ fok ft gn axm Q.length (by omega) (by rw [List.length_append, drL_len]; omega)) ?_
              rintro v' j1 ⟨rfl, axj1, hEj1⟩
              refine S_nil (hK28 _ _ (V_keep [0, 10] (by simp only [proj, lk, reduceIte, Nat.reduceEqDiff]; rfl) ?_)); clear hK28
              refine V_sr T.mix (by kernel_rfl) (fun K29 hK29 => ?_)
              refine S_mv rfl ?_
              refine S_mv rfl ?_
              refine S_call T.hb51 rfl ?_
              refine FC.mono (two_spec j1 A W.P D _ fok ft gn axj1 (rcs lv (Q.take i)).length (by omega) (by simp only [List.length_append, drL_len, List.length_cons, List.length_nil]; omega)) ?_
              rintro v' j2 ⟨rfl, axj2, hEj2⟩
              refine S_nil (hK29 _ _ (V_keep [0] (by simp only [proj, lk, reduceIte, Nat.reduceEqDiff]; rfl) ?_)); clear hK29
              refine V_sr T.mix (by kernel_rfl) (fun K30 hK30 => ?_)
              refine S_mv rfl ?_
              refine S_call T.hb52 rfl ?_
              refine FC.mono (one_spec j2 A W.P D _ fok ft gn axj2 90 (by omega) (by simp only [List.length_append, drL_len, List.length_cons, List.length_nil, t2_len]; omega)) ?_
              rintro v' j3 ⟨rfl, axj3, hEj3⟩
              have hii : i = Q.length := by omega
              have hkk : k = Q.length := by omega
              obtain ⟨g9, y0, pr9⟩ := axj3.x
              have eL : (rcs lv (Q.take i) ++ drL lv Q k ++ [((Q.length : Nat) : Int)] ++ t2 (rcs lv (Q.take i)).length ++ [((90 : Nat) : Int)]) = arL lv Q := by rw [hii, hkk, List.take_length]; rfl
              rw [eL] at pr9 y0
              have h1200 : (arL lv Q).length ≤ 1200 := by rw [arL_len]; omega
              have eg9 : g9 = g9 := rfl
              try clear a0 a1 a2 a3 a4 a5 a6 ao ab aok pok ook tok gok
              obtain ⟨a0, a1, a2, a3, a4, a5, a6, ao, ab, aok, pok, ook, tok, gok⟩ := aq (y0)
              refine S_nil (hK30 _ _ (V_keep [0] (by simp only [proj, lk, reduceIte, Nat.reduceEqDiff]; rfl) ?_)); clear hK30
              refine V_sr T.mix (by kernel_rfl) (fun K31 hK31 => ?_)
              refine S_mv rfl ?_
              refine S_nc rfl ?_
              first | refine S_fa0 T.f59_2 rfl ?_ | refine S_fa T.f59_2 rfl ?_
              refine S_ldK T.ag55 rfl (fun K' hK' => ?_)
              simp (disch := omega) only [a0, a1, a2, a3, a4, a5, a6, ao, ab, oP_some, Nat.add_zero]
              refine hK' _ ?_; clear hK' K'
              refine S_mv rfl ?_
              refine S_nc rfl ?_
              first | refine S_fa0 T.f59_3 rfl ?_ | refine S_fa T.f59_3 rfl ?_
              refine S_ldK T.ag3 rfl (fun K' hK' => ?_)
              simp (disch := omega) only [a0, a1, a2, a3, a4, a5, a6, ao, ab, oP_some, Nat.add_zero]
              refine hK' _ ?_; clear hK' K'
              refine S_sl rfl rfl rfl (sliceV_hi T.el55 (by omega) (by omega)) ?_
              refine S_str T.kd55 T.kd9 T.in9 rfl (srcV_u8p y0.p (by omega)) ?_
              rw [Int.toNat_natCast, ← eg9, pre_list pr9]
              refine S_as rfl ?_
              refine S_as rfl ?_
              refine S_nil (hK31 _ _ (V_keep [6, 7] (by simp only [proj, lk, reduceIte, Nat.reduceEqDiff]; rfl) ?_)); clear hK31
              refine V_ret ?_
              refine hR _ _ (ret2 rfl rfl rfl ?_)
              have wj := ((wm.ext hEj1 (fun z e y => by have h9 := hW z e; rw [at_def] at y; omega)).ext hEj2 (fun z e y => by have h9 := hW z e; rw [at_def] at y; omega)).ext hEj3 (fun z e y => by have h9 := hW z e; rw [at_def] at y; omega)
              exact ⟨by unfold apT; rw [hcf]; rfl, wj, ⟨_, _, axj3⟩, ((hEm.trans (hEj1.mono fun _ e => .inr e)).trans (hEj2.mono fun _ e => .inr e)).trans (hEj3.mono fun _ e => .inr e)⟩
end Go.Proofs.Qxb6500404aGreat
