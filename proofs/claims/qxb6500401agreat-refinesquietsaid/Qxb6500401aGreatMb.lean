import Derived.Test.Qxb6500401aGreatMa
set_option linter.unusedVariables false
set_option linter.unusedSimpArgs false
namespace Go.Proofs.Qxb6500401aGreat
open Go.Eng Go.Trl Go.Chk Go.Wat

section sx
variable {h h' : Heap} {V P X C K : Nat} {la : Option Addr} {lc : Nat} {Q : SR} {lg : List Int} {W : WC} {cl : Nat → Option (List Int)} {s : TS} {p : Nat}
theorem SX.logged (w : SX h V P X C K la lc Q lg W cl s p) {a' : Option Addr} {c' : Nat} {lg' : List Int} (he : Ext (fun z => z = V ∨ blkA la = some z) h h') (hb : SB h' V P X C K a' lg'.length c' Q) (hI : IL h' a' c' lg') (hnb : ∀ z, blkA a' = some z → blkA la = some z ∨ h.size ≤ z) : SX h' V P X C K a' c' Q lg' W cl s p ∧ SEx V X C K h h' la a' := by
  obtain ⟨l1, l2, l3, l4⟩ := w.lt
  have ne := w.ne
  have nl : ∀ b, b < h.size → b = X ∨ b = C ∨ b = K → ¬ (b = V ∨ blkA la = some b) := fun b _ hb f => by
    rcases f with f | f
    · omega
    · have := w.lne b f; omega
  refine ⟨⟨hb, w.wx.ext he (nl C l3 (by simp)) (nl X l2 (by simp)), w.lb.ext he (nl K l4 (by simp)), hI, ne, fun b hb => ?_⟩, he.mono (fun z q => ?_), hnb⟩
  · rcases hnb b hb with q | q
    · exact w.lne b q
    · omega
  · rcases q with q | q
    · exact .inl q
    · exact .inr (.inr (.inr (.inr q)))
end sx
theorem ints_snoc0 (l : List Int) (x : Int) : ints (l ++ [x]) = ints l ++ [.int .i64 x] := by simp [ints]

structure AI (Q : SR) : Prop where
  a0 : Q.act 0 = 0
  p0 : Q.ph 0 = -1
  ac : ∀ v, v < 13 → 0 ≤ Q.act v ∧ Q.act v ≤ 60000 * (Q.inc : Int)
  ph : ∀ v, v < 13 → Q.ph v = 1 ∨ Q.ph v = -1
  i1 : 1 ≤ Q.inc
  i2 : Q.inc ≤ 4107
def Sf (Q Q' : SR) : Prop := Q'.al = Q.al ∧ Q'.ct = Q.ct ∧ Q'.cf = Q.cf ∧ Q'.rs = Q.rs ∧ Q'.si = Q.si
theorem wi_bj {W : WC} {cl : Nat → Option (List Int)} {s : TS} (h : WI W cl (lits s.L) s.c) (j : Int) : WI W cl (lits (bjS s j).L) (bjS s j).c := by
  unfold bjS; split
  · simp only []; unfold backL; rw [lits_take]; exact h.ls (fun a b hh => hh.take)
  · exact h
theorem wi_dec {W : WC} {cl : Nat → Option (List Int)} {s : TS} (hok : Ok s) (h : WI W cl (lits s.L) s.c) (x : Int) : WI W cl (lits (decS s x).L) (decS s x).c := by
  unfold decS; split
  · simp only []; rw [lits_app]; exact h.ls (fun a b hh => hh.app (by rw [lits_len]; exact hok.c))
  · exact h
theorem wi_zero {W : WC} (h1 : W.used = 0) (h2 : W.fresh = 0) (h3 : W.weak = 0) (h4 : ∀ q, q < 26 → W.list q = 0) (h5 : ∀ i, i < 52 → W.size i = 0) : WI W (fun _ => none) [] 0 := by
  have hb : ∀ i, (vw W i).u = false ∧ (vw W i).f = false ∧ (vw W i).k = false ∧ ∀ q, (vw W i).l q = false := fun i => by
    unfold vw; simp only [h1, h2, h3, Nat.zero_testBit, true_and]
    intro q; split
    · rename_i e; rw [h4 q e, Nat.zero_testBit]
    · rfl
  exact ⟨fun i _ => hb i, fun i hi => Loc.dead (hb i).1 (hb i).2.1 (hb i).2.2.1 (h5 i hi) (fun q _ => (hb i).2.2.2 q)⟩
theorem all_set {s : TS} (h : ∀ v : Nat, 1 ≤ v → v ≤ 12 → valO s (v : Int) ≠ 0) : 12 ≤ s.L.length := by
  have hnd : ([1, 2, 3, 4, 5, 6, 7, 8, 9, 10, 11, 12] : List Int).Nodup := by decide
  have := hnd.length_le_of_subset (l₂ := s.L.map (fun x => vr x.lit)) (fun v hv => by
    simp only [List.mem_cons, List.not_mem_nil, or_false] at hv
    have hg : gd v := by unfold gd; omega
    have h1 := h v.toNat (by omega) (by omega)
    rw [show ((v.toNat : Nat) : Int) = v by omega] at h1
    have key : ∀ l : Int, l ∈ lits s.L → vr l = v → v ∈ s.L.map (fun x => vr x.lit) := fun l hl e => by
      unfold lits at hl; rw [List.mem_map] at hl ⊢
      obtain ⟨x, hx, q⟩ := hl; exact ⟨x, hx, by rw [q, e]⟩
    rcases vO3 (s := s) hg with q | q | q
    · exact key v q.2 (by unfold vr; rw [if_neg (by omega)])
    · exact key (-v) q.2 (by unfold vr; rw [if_pos (by omega)]; omega)
    · exact absurd q.1 h1)
  simpa using this
theorem dec_ok {s : TS} {v : Nat} (h1 : 1 ≤ v) (h2 : v ≤ 12) (hv : valO s (v : Int) = 0) {d : Int} (hd : d = v ∨ d = -(v : Int)) : decE s d = 0 := by
  have hg : gd d := by unfold gd; omega
  have hvr : vr d = v := by unfold vr; split <;> omega
  unfold decE; rw [if_pos (show d ≠ 0 ∧ -12 ≤ d ∧ d ≤ 12 from hg), if_neg]
  rw [hvr]
  unfold valO valL at hv
  rw [if_pos (by omega), if_neg (by omega)] at hv
  omega
theorem lev_at {s : TS} (hok : Ok s) {i : Nat} (hi : i < s.L.length) : gd (atL s.L (i : Int)) := by
  obtain ⟨x, hx⟩ := item hok hi
  rw [(lt_at hok hx).2.1]; exact (lt_at hok hx).2.2.2.2
set_option maxHeartbeats 400000 in
theorem note_spec (h : Heap) (V P X C K : Nat) (la : Option Addr) (lc : Nat) (Q : SR) (lg : List Int) (W : WC) (cl : Nat → Option (List Int)) (s : TS) (p : Nat) (w : SX h V P X C K la lc Q lg W cl s p) (hll : lg.length ≤ 250000) (d : Bool) (ac : Option Addr) (cc : Nat) (c : List Int) (hc : IL h ac cc c) (hcl : c.length ≤ 12) (hne : ∀ z, blkA ac = some z → z ≠ V ∧ blkA la ≠ some z) :
    FC Tryz.prog 94 (#[.pointer (some ⟨V, 0, none⟩), .bool (decide (d = true)), .slice ac c.length cc] : Array Value) h fun rv h' => rv = .tuple #[] ∧ ∃ a' c', SX h' V P X C K a' c' Q (lg ++ oneR (d, c)) W cl s p ∧ SEx V X C K h h' la a' ∧ Ext (fun z => z = V ∨ blkA la = some z) h h' := by
  have hB := w.sb
  have hI0 := w.lo
  have hlV : ∀ z, blkA la = some z → z ≠ V := fun z e => (w.lne z e).1
  have hVl := w.lt.1
  refine FC_of [(0, .pointer (some ⟨V, 0, none⟩)), (1, .bool (decide (d = true))), (2, .slice ac c.length cc)] Tryz.func94 rfl Tryz.ntmps94 (by simp) rfl (fun R hR => ?_)
  refine V_seqJ (fun l h' => ∃ (h5 : Heap) (a5 : Option Addr) (c5 : Nat) (gl : List Int), (SB h5 V P X C K a5 gl.length c5 Q) ∧ (IL h5 a5 c5 gl) ∧ (IL h5 ac cc c) ∧ (Ext (fun z => z = V ∨ blkA la = some z) h h5) ∧ (gl = lg ++ (if d then [13] else [])) ∧ (gl.length ≤ lg.length + 1) ∧ (∀ z, blkA a5 = some z → blkA la = some z ∨ h.size ≤ z) ∧ l = [(0, .pointer (some ⟨V, 0, none⟩)), (2, .slice ac c.length cc)] ∧ h5 = h') ?_ ?_
  · skip
    refine V_sr T.mix (by kernel_rfl) (fun K2 hK2 => ?_)
    refine S_mv rfl ?_
    refine S_nil (hK2 _ _ (V_keep [0, 2, 6] (by simp only [proj, lk, reduceIte, Nat.reduceEqDiff]; rfl) ?_)); clear hK2
    refine V_condp rfl (fun c9 => ?_) (fun c9 => ?_)
    · skip
      refine V_reg T.mix (by kernel_rfl) ?_
      refine S_mv rfl ?_
      refine S_mv rfl ?_
      refine S_nc rfl ?_
      first | refine S_fa0 T.f53_4 rfl ?_ | refine S_fa T.f53_4 rfl ?_
      refine S_ldK T.ag49 rfl (fun K' hK' => ?_)
      simp (disch := omega) only [slP hB, slT hB, slW hB, slL hB, slLog hB, slAct hB, slPh hB, slInc hB, slAl hB, slCt hB, slCf hB, slRs hB, slSi hB, oP_some, Nat.add_zero]
      refine hK' _ ?_; clear hK' K'
      refine S_bs T.ei49 rfl (by decide) (by decide) (T.bs49_1_0 _) ?_
      refine S_appx (lo := 0) T.ei49 T.ni49 T.us49 rfl rfl rfl (OwnR.ext hI0 (Ext.push (fun _ => False) _ _) (fun _ _ f => f)) (Nat.zero_le _) (cellsH_new _ _ _) rfl (by omega) (by decide) (by decide) rfl (fun a4 c4 h4 ho4 hE4x hb4x => ?_)
      have hE4 : Ext (fun z => blkA la = some z) h h4 := (Ext.push _ _ _).trans hE4x
      have hb4 := new_blk2 (h := h) hb4x (by simp)
      have hs4 := hE4.1
      have hBh4 := hB.ext hE4 (fun e => hlV V e rfl)
      clear hB
      have hB := hBh4
      refine S_nc rfl ?_
      first | refine S_fa0 T.f53_4 rfl ?_ | refine S_fa T.f53_4 rfl ?_
      refine S_st T.sz49 rfl rfl rfl rfl (by simp (disch := omega) only [sok hB]) ?_
      generalize hh : putH _ _ _ = h5_
      have hBh5_ : SB h5_ V P X C K a4 (lg.length + 1) c4 Q := by rw [← hh]; exact ssLog hB _ _ _
      have hEh5_ : Ext (fun z => z = V) h4 h5_ := by rw [← hh]; exact Ext.put _ _ rfl
      clear hh
      clear hB
      have hB := hBh5_
      refine S_nilk [0, 2] (by simp only [proj, lk, reduceIte, Nat.reduceEqDiff]; rfl) ?_
      exact ⟨h5_, a4, c4, lg ++ [13], by rw [List.length_append]; exact hB, IL.ext (l := lg ++ [13]) (by unfold IL; rw [ints_snoc0, List.length_append]; exact ho4) hEh5_ (fun z e f => by subst f; rcases hb4 z e with q | q; (exact hlV z q rfl); (omega)), (hc.ext hE4 (fun z e x => (hne z e).2 x)).ext hEh5_ (fun z e f => (hne z e).1 f), (hE4.mono fun z e => .inr e).trans (hEh5_.mono fun z e => .inl e), by rw [if_pos c9], by simp, hb4, rfl, rfl⟩
    · skip
      refine V_skipk [0, 2] (by simp only [proj, lk, reduceIte, Nat.reduceEqDiff]; rfl) ?_
      exact ⟨h, la, lc, lg, hB, hI0, hc, Ext.refl _ _, by rw [if_neg c9]; simp, by omega, fun z e => .inl e, rfl, rfl⟩
  rintro l h' ⟨h5, a5, c5, gl, hB5, hI5, hc5, hE5, hgl, hgn, hb5, rfl, rfl⟩
  try clear hB
  have hB := hB5
  have hl5 := hE5.1
  have hV5 : ∀ z, blkA a5 = some z → z ≠ V := fun z e => by rcases hb5 z e with q | q; (exact hlV z q); (omega)
  have hne5 : ∀ z, blkA a5 = some z → blkA ac ≠ some z := fun z e x => by rcases hb5 z e with q | q; (exact (hne z x).2 q); (have h9 := hc.lt x; omega)
  refine V_sr T.mix (by kernel_rfl) (fun K3 hK3 => ?_)
  refine S_mv rfl ?_
  refine S_mv rfl ?_
  refine S_nc rfl ?_
  first | refine S_fa0 T.f53_4 rfl ?_ | refine S_fa T.f53_4 rfl ?_
  refine S_ldK T.ag49 rfl (fun K' hK' => ?_)
  simp (disch := omega) only [slP hB, slT hB, slW hB, slL hB, slLog hB, slAct hB, slPh hB, slInc hB, slAl hB, slCt hB, slCf hB, slRs hB, slSi hB, oP_some, Nat.add_zero]
  refine hK' _ ?_; clear hK' K'
  refine S_mv rfl ?_
  refine S_appx (lo := 0) T.ei49 T.ni49 T.us49 rfl rfl rfl hI5 (Nat.zero_le _) (OwnR.cells hc5) (by simp [ints]) (by omega) (by decide) (by decide) (List.all_eq_true.2 (ints_one _)) (fun a6 c6 h6 ho6 hE6 hb6x => ?_)
  have hb6 := new_blk2 (h := h5) hb6x (Nat.le_refl _)
  have hs6 := hE6.1
  have hBh6 := hB.ext hE6 (fun e => hV5 V e rfl)
  clear hB
  have hB := hBh6
  have hb6b : ∀ z, blkA a6 = some z → blkA la = some z ∨ h.size ≤ z := fun z e => by rcases hb6 z e with q | q; (exact hb5 z q); (exact .inr (by omega))
  have hE6b : Ext (fun z => z = V ∨ blkA la = some z) h h6 := hE5.step hE6 (fun z hz e => by rcases hb5 z e with q | q; (exact .inr q); (omega))
  have hV6 : ∀ z, blkA a6 = some z → z ≠ V := fun z e => by rcases hb6b z e with q | q; (exact hlV z q); (omega)
  refine S_nc rfl ?_
  first | refine S_fa0 T.f53_4 rfl ?_ | refine S_fa T.f53_4 rfl ?_
  refine S_st T.sz49 rfl rfl rfl rfl (by simp (disch := omega) only [sok hB]) ?_
  generalize hh : putH _ _ _ = h7
  have hBh7 : SB h7 V P X C K a6 (gl.length + c.length) c6 Q := by rw [← hh]; exact ssLog hB _ _ _
  have hEh7 : Ext (fun z => z = V) h6 h7 := by rw [← hh]; exact Ext.put _ _ rfl
  clear hh
  clear hB
  have hB := hBh7
  have ho7 := OwnR.ext ho6 hEh7 (fun b e f => hV6 b (by rw [e]; rfl) f)
  refine S_nil (hK3 _ _ (V_keep [0] (by simp only [proj, lk, reduceIte, Nat.reduceEqDiff]; rfl) ?_)); clear hK3
  refine V_reg T.mix (by kernel_rfl) ?_
  refine S_mv rfl ?_
  refine S_mv rfl ?_
  refine S_nc rfl ?_
  first | refine S_fa0 T.f53_4 rfl ?_ | refine S_fa T.f53_4 rfl ?_
  refine S_ldK T.ag49 rfl (fun K' hK' => ?_)
  simp (disch := omega) only [slP hB, slT hB, slW hB, slL hB, slLog hB, slAct hB, slPh hB, slInc hB, slAl hB, slCt hB, slCf hB, slRs hB, slSi hB, oP_some, Nat.add_zero]
  refine hK' _ ?_; clear hK' K'
  refine S_bs T.ei49 rfl (by decide) (by decide) (T.bs49_1_0 _) ?_
  refine S_appx (lo := 0) T.ei49 T.ni49 T.us49 rfl rfl rfl (OwnR.ext ho7 (Ext.push (fun _ => False) _ _) (fun _ _ f => f)) (Nat.zero_le _) (cellsH_new _ _ _) rfl (by omega) (by decide) (by decide) rfl (fun a8 c8 h8 ho8 hE8x hb8x => ?_)
  have hE8 : Ext (fun z => blkA a6 = some z) h7 h8 := (Ext.push _ _ _).trans hE8x
  have hb8 := new_blk2 (h := h7) hb8x (by simp)
  have hs8 := hE8.1
  have hBh8 := hB.ext hE8 (fun e => hV6 V e rfl)
  clear hB
  have hB := hBh8
  refine S_nc rfl ?_
  first | refine S_fa0 T.f53_4 rfl ?_ | refine S_fa T.f53_4 rfl ?_
  refine S_st T.sz49 rfl rfl rfl rfl (by simp (disch := omega) only [sok hB]) ?_
  generalize hh : putH _ _ _ = h9
  have hBh9 : SB h9 V P X C K a8 (gl.length + c.length + 1) c8 Q := by rw [← hh]; exact ssLog hB _ _ _
  have hEh9 : Ext (fun z => z = V) h8 h9 := by rw [← hh]; exact Ext.put _ _ rfl
  clear hh
  clear hB
  have hB := hBh9
  refine S_nilk [] (by simp only [proj, lk, reduceIte, Nat.reduceEqDiff]; rfl) ?_
  -- end
  refine hR _ _ (ret0 rfl ?_)
  have hol : lg ++ oneR (d, c) = gl ++ c ++ [0] := by rw [hgl]; simp [oneR]
  rw [hol]
  have hs7 := hEh7.1
  have hb8b : ∀ z, blkA a8 = some z → blkA la = some z ∨ h.size ≤ z := fun z e => by rcases hb8 z e with q | q; (exact hb6b z q); (exact .inr (by omega))
  have hE9 : Ext (fun z => z = V ∨ blkA la = some z) h h9 := ((hE6b.step hEh7 (fun z hz e => .inl e)).step hE8 (fun z hz e => by rcases hb6b z e with q | q; (exact .inr q); (omega))).step hEh9 (fun z hz e => .inl e)
  have hV8 : ∀ z, blkA a8 = some z → z ≠ V := fun z e => by rcases hb8b z e with q | q; (exact hlV z q); (omega)
  have hI9 : IL h9 a8 c8 (gl ++ c ++ [0]) := IL.ext (l := gl ++ c ++ [0]) (by unfold IL; rw [ints_snoc0, ints_app, List.length_append, List.length_append]; exact ho8) hEh9 (fun z e f => hV8 z e f)
  obtain ⟨r1, r2⟩ := w.logged hE9 (by rw [List.length_append, List.length_append]; exact hB) hI9 hb8b
  exact ⟨rfl, a8, c8, r1, r2, hE9⟩
set_option maxHeartbeats 400000 in
theorem bump_spec (h : Heap) (V P X C K : Nat) (la : Option Addr) (lc : Nat) (Q : SR) (lg : List Int) (W : WC) (cl : Nat → Option (List Int)) (s : TS) (p : Nat) (w : SX h V P X C K la lc Q lg W cl s p) (ai : AI Q) (hi6 : Q.inc ≤ 4106) (ac : Option Addr) (cc : Nat) (c : List Int) (hc : IL h ac cc c) (hnr : Nrm c) (hcV : ∀ z, blkA ac = some z → z ≠ V) :
    FC Tryz.prog 97 (#[.pointer (some ⟨V, 0, none⟩), .slice ac c.length cc] : Array Value) h fun rv h' => rv = .tuple #[] ∧ ∃ Q', SX h' V P X C K la lc Q' lg W cl s p ∧ AI Q' ∧ Q'.inc = Q.inc + 1 ∧ Sf Q Q' ∧ Ext (fun z => z = V) h h' := by
  have hB := w.sb
  have hcl := hnr.len
  refine FC_of [(0, .pointer (some ⟨V, 0, none⟩)), (1, .slice ac c.length cc)] Tryz.func97 rfl Tryz.ntmps97 (by simp) rfl (fun R hR => ?_)
  refine V_seq (fun K1 hK1 => ?_)
  refine V_sr T.mix (by kernel_rfl) (fun K2 hK2 => ?_)
  refine S_as rfl ?_
  refine S_nil (hK2 _ _ (V_keep [0, 1, 4] (by simp only [proj, lk, reduceIte, Nat.reduceEqDiff]; rfl) ?_)); clear hK2
  refine V_block ?_
  refine V_loop (fun m l h' => ∃ (i : Nat) (hk : Heap) (A : Nat → Int), (i ≤ c.length) ∧ (SB hk V P X C K la lg.length lc { Q with act := A }) ∧ (A 0 = 0) ∧ (∀ v, v < 13 → 0 ≤ A v ∧ A v ≤ 60000 * (Q.inc : Int) + 4107 * (i : Int)) ∧ (Ext (fun z => z = V) h hk) ∧ m = c.length - i ∧ l = [(0, .pointer (some ⟨V, 0, none⟩)), (1, .slice ac c.length cc), (4, .int .i64 (i : Int))] ∧ hk = h') _ ⟨0, h, Q.act, by omega, hB, ai.a0, fun v hv => by have h9 := ai.ac v hv; omega, Ext.refl _ _, rfl, rfl, rfl⟩ ?_
  rintro m l h' ⟨i, hk, A, hi, hBk, hA0, hA, hEk, rfl, rfl, rfl⟩ K3 hK3
  clear hB
  have hB := hBk
  refine V_seq (fun K4 hK4 => ?_)
  refine V_sr T.mix (by kernel_rfl) (fun K5 hK5 => ?_)
  refine S_mv rfl ?_
  refine S_mv rfl ?_
  refine S_lenl T.el49 rfl ?_
  refine S_bin rfl rfl rfl ?_
  refine S_nil (hK5 _ _ (V_keep [0, 1, 4, 9] (by simp only [proj, lk, reduceIte, Nat.reduceEqDiff]; rfl) ?_)); clear hK5
  refine V_condp rfl (fun c23 => ?_) (fun c23 => ?_)
  · skip
    obtain ⟨bb, rfl, _, _, _⟩ := hc.get (by omega)
    have hcc := (hc.ext hEk (fun b e => hcV b e)).at (show i < c.length by omega)
    have hgx := gd_getD hnr.1 (show i < c.length by omega)
    unfold gd at hgx
    have hAx := hA (c.getD i 0).natAbs (by omega)
    refine V_skipk [0, 1, 4] (by simp only [proj, lk, reduceIte, Nat.reduceEqDiff]; rfl) ?_
    refine hK4 _ _ ?_; clear hK4
    refine V_seq (fun K6 hK6 => ?_)
    refine V_block ?_
    refine V_sr T.mix (by kernel_rfl) (fun K7 hK7 => ?_)
    refine S_mv rfl ?_
    refine S_mv rfl ?_
    first | refine S_ixn T.el49 rfl rfl (by omega) ?_ | refine S_ix1 T.el49 rfl rfl (by omega) (by omega) ?_ | refine S_ix T.el49 rfl rfl (by omega) (by omega) ?_
    refine S_ldK T.ag3 rfl (fun K' hK' => ?_)
    simp (disch := omega) only [slP hB, slT hB, slW hB, slL hB, slLog hB, slAct hB, slPh hB, slInc hB, slAl hB, slCt hB, slCf hB, slRs hB, slSi hB, hcc, oP_some, Nat.add_zero]
    refine hK' _ ?_; clear hK' K'
    refine S_call T.hb52 rfl ?_
    refine FC.mono (var_spec _ (c.getD i 0) (by omega) (by omega)) ?_
    rintro v' h' ⟨rfl, rfl⟩
    refine S_as rfl ?_
    refine S_nil (hK7 _ _ (V_keep [0, 1, 4, 5] (by simp only [proj, lk, reduceIte, Nat.reduceEqDiff]; rfl) ?_)); clear hK7
    refine V_reg T.mix (by kernel_rfl) ?_
    refine S_mv rfl ?_
    refine S_mv rfl ?_
    refine S_mv rfl ?_
    refine S_mv rfl ?_
    refine S_nc rfl ?_
    first | refine S_fa0 T.f53_5 rfl ?_ | refine S_fa T.f53_5 rfl ?_
    first | refine S_ixan T.ar50 rfl rfl (by omega) ?_ | refine S_ixa1 T.ar50 rfl rfl (by omega) (by omega) ?_
    refine S_ldK T.ag3 rfl (fun K' hK' => ?_)
    simp (disch := omega) only [slP hB, slT hB, slW hB, slL hB, slLog hB, slAct hB, slPh hB, slInc hB, slAl hB, slCt hB, slCf hB, slRs hB, slSi hB, hcc, oP_some, Nat.add_zero]
    refine hK' _ ?_; clear hK' K'
    refine S_mv rfl ?_
    refine S_nc rfl ?_
    first | refine S_fa0 T.f53_7 rfl ?_ | refine S_fa T.f53_7 rfl ?_
    refine S_ldK T.ag3 rfl (fun K' hK' => ?_)
    simp (disch := omega) only [slP hB, slT hB, slW hB, slL hB, slLog hB, slAct hB, slPh hB, slInc hB, slAl hB, slCt hB, slCf hB, slRs hB, slSi hB, hcc, oP_some, Nat.add_zero]
    refine hK' _ ?_; clear hK' K'
    first | refine S_add rfl rfl (by omega) (by omega) ?_ | refine S_bin rfl rfl rfl ?_
    refine S_nc rfl ?_
    first | refine S_fa0 T.f53_5 rfl ?_ | refine S_fa T.f53_5 rfl ?_
    first | refine S_ixan T.ar50 rfl rfl (by omega) ?_ | refine S_ixa1 T.ar50 rfl rfl (by omega) (by omega) ?_
    refine S_st T.sz3 rfl rfl rfl rfl (by simp (disch := omega) only [sok hB]) ?_
    generalize hh : putH _ _ _ = hk1
    have hBhk1 : SB hk1 V P X C K la lg.length lc { Q with act := upI A (c.getD i 0).natAbs (A (c.getD i 0).natAbs + (Q.inc : Int)) } := by rw [← hh]; exact ssAct hB (c.getD i 0).natAbs _ (by omega)
    have hEhk1 : Ext (fun z => z = V) hk hk1 := by rw [← hh]; exact Ext.put _ _ rfl
    clear hh
    clear hB
    have hB := hBhk1
    refine S_nilk [0, 1, 4] (by simp only [proj, lk, reduceIte, Nat.reduceEqDiff]; rfl) ?_
    refine hK6 _ _ ?_; clear hK6
    refine V_reg T.mix (by kernel_rfl) ?_
    refine S_mv rfl ?_
    first | refine S_add rfl rfl (by omega) (by omega) ?_ | refine S_bin rfl rfl rfl ?_
    refine S_as rfl ?_
    refine S_nilk [0, 1, 4] (by simp only [proj, lk, reduceIte, Nat.reduceEqDiff]; rfl) ?_
    exact hK3 _ _ ⟨_, by omega, i + 1, hk1, _, by omega, hB, by simp only [upI]; rw [if_neg (by omega)]; exact hA0, fun v hv => by have h9 := hA v hv; simp only [upI]; split; (omega); (omega), hEk.trans hEhk1, rfl, rfl, rfl⟩
  · skip
    have hcc := slP hB
    refine V_exitk [0] rfl (by simp only [proj, lk, reduceIte, Nat.reduceEqDiff]; rfl) ?_
    refine hK1 _ _ ?_; clear hK1
    refine V_reg T.mix (by kernel_rfl) ?_
    refine S_mv rfl ?_
    refine S_mv rfl ?_
    refine S_nc rfl ?_
    first | refine S_fa0 T.f53_7 rfl ?_ | refine S_fa T.f53_7 rfl ?_
    refine S_ldK T.ag3 rfl (fun K' hK' => ?_)
    simp (disch := omega) only [slP hB, slT hB, slW hB, slL hB, slLog hB, slAct hB, slPh hB, slInc hB, slAl hB, slCt hB, slCf hB, slRs hB, slSi hB, hcc, oP_some, Nat.add_zero]
    refine hK' _ ?_; clear hK' K'
    first | refine S_add rfl rfl (by omega) (by omega) ?_ | refine S_bin rfl rfl rfl ?_
    refine S_nc rfl ?_
    first | refine S_fa0 T.f53_7 rfl ?_ | refine S_fa T.f53_7 rfl ?_
    refine S_st T.sz3 rfl rfl rfl rfl (by simp (disch := omega) only [sok hB]) ?_
    generalize hh : putH _ _ _ = hz
    have hBhz : SB hz V P X C K la lg.length lc { Q with act := A, inc := Q.inc + 1 } := by rw [← hh]; exact ssInc hB (Q.inc + 1)
    have hEhz : Ext (fun z => z = V) hk hz := by rw [← hh]; exact Ext.put _ _ rfl
    clear hh
    clear hB
    have hB := hBhz
    refine S_nilk [] (by simp only [proj, lk, reduceIte, Nat.reduceEqDiff]; rfl) ?_
    -- end
    refine hR _ _ (ret0 rfl ?_)
    have hE9 := hEk.trans hEhz
    exact ⟨rfl, _, w.own hE9 hB, ⟨hA0, ai.p0, fun v hv => by have h9 := hA v hv; simp only []; omega, ai.ph, by simp only []; omega, by simp only []; omega⟩, rfl, ⟨rfl, rfl, rfl, rfl, rfl⟩, hE9⟩
set_option maxHeartbeats 400000 in
theorem pick_spec (h : Heap) (V P X C K : Nat) (la : Option Addr) (lc : Nat) (Q : SR) (lg : List Int) (W : WC) (cl : Nat → Option (List Int)) (s : TS) (p : Nat) (w : SX h V P X C K la lc Q lg W cl s p) (ai : AI Q) (hl : s.L.length < 12) :
    FC Tryz.prog 63 (#[.pointer (some ⟨V, 0, none⟩)] : Array Value) h fun rv h' => ∃ d : Int, rv = .int .i64 d ∧ decE s d = 0 ∧ h = h' := by
  have hB := w.sb
  refine FC_of [(0, .pointer (some ⟨V, 0, none⟩))] Tryz.func63 rfl Tryz.ntmps63 (by simp) rfl (fun R hR => ?_)
  refine V_sr T.mix (by kernel_rfl) (fun K1 hK1 => ?_)
  refine S_as rfl ?_
  refine S_nil (hK1 _ _ (V_keep [0] (by simp only [proj, lk, reduceIte, Nat.reduceEqDiff]; rfl) ?_)); clear hK1
  refine V_sr T.mix (by kernel_rfl) (fun K2 hK2 => ?_)
  refine S_as rfl ?_
  refine S_nil (hK2 _ _ (V_keep [0, 3] (by simp only [proj, lk, reduceIte, Nat.reduceEqDiff]; rfl) ?_)); clear hK2
  refine V_seq (fun K3 hK3 => ?_)
  refine V_sr T.mix (by kernel_rfl) (fun K4 hK4 => ?_)
  refine S_as rfl ?_
  refine S_nil (hK4 _ _ (V_keep [0, 3, 4] (by simp only [proj, lk, reduceIte, Nat.reduceEqDiff]; rfl) ?_)); clear hK4
  refine V_block ?_
  refine V_loop (fun m l h' => ∃ (v b : Nat), (1 ≤ v) ∧ (v ≤ 13) ∧ ((b = 0 ∧ ∀ u : Nat, 1 ≤ u → u < v → valO s (u : Int) ≠ 0) ∨ (1 ≤ b ∧ b < v ∧ valO s (b : Int) = 0)) ∧ m = 13 - v ∧ l = [(0, .pointer (some ⟨V, 0, none⟩)), (3, .int .i64 (b : Int)), (4, .int .i64 (v : Int))] ∧ h = h') _ ⟨1, 0, by omega, by omega, .inl ⟨rfl, fun u h1 h2 => by omega⟩, rfl, rfl, rfl⟩ ?_
  rintro m l h' ⟨v, b, hv1, hv2, hb, rfl, rfl, rfl⟩ K5 hK5
  have hb13 : b < 13 := by rcases hb with q | q <;> omega
  refine V_seq (fun K6 hK6 => ?_)
  refine V_sr T.mix (by kernel_rfl) (fun K7 hK7 => ?_)
  refine S_mv rfl ?_
  refine S_bin rfl rfl rfl ?_
  refine S_nil (hK7 _ _ (V_keep [0, 3, 4, 7] (by simp only [proj, lk, reduceIte, Nat.reduceEqDiff]; rfl) ?_)); clear hK7
  refine V_condp rfl (fun c10 => ?_) (fun c10 => ?_)
  · skip
    refine V_skipk [0, 3, 4] (by simp only [proj, lk, reduceIte, Nat.reduceEqDiff]; rfl) ?_
    refine hK6 _ _ ?_; clear hK6
    refine V_seq (fun K8 hK8 => ?_)
    refine V_block ?_
    refine V_sr T.mix (by kernel_rfl) (fun K9 hK9 => ?_)
    refine S_mv rfl ?_
    refine S_nc rfl ?_
    first | refine S_fa0 T.f53_1 rfl ?_ | refine S_fa T.f53_1 rfl ?_
    refine S_ldK T.ag30 rfl (fun K' hK' => ?_)
    simp (disch := omega) only [slP hB, slT hB, slW hB, slL hB, slLog hB, slAct hB, slPh hB, slInc hB, slAl hB, slCt hB, slCf hB, slRs hB, slSi hB, oP_some, Nat.add_zero]
    refine hK' _ ?_; clear hK' K'
    refine S_mv rfl ?_
    refine S_call T.hb75 rfl ?_
    refine FC.mono (value_spec h X s p w.wx.t (v : Int)) ?_
    rintro v' h' ⟨rfl, rfl⟩
    refine S_as rfl ?_
    refine S_nil (hK9 _ _ (V_keep [0, 3, 4, 5] (by simp only [proj, lk, reduceIte, Nat.reduceEqDiff]; rfl) ?_)); clear hK9
    refine V_sr T.mix (by kernel_rfl) (fun K10 hK10 => ?_)
    refine S_mv rfl ?_
    refine S_bin rfl rfl rfl ?_
    refine S_nil (hK10 _ _ (V_keep [0, 3, 4, 17] (by simp only [proj, lk, reduceIte, Nat.reduceEqDiff]; rfl) ?_)); clear hK10
    refine V_condp rfl (fun c12 => ?_) (fun c12 => ?_)
    · skip
      refine V_sr T.mix (by kernel_rfl) (fun K11 hK11 => ?_)
      refine S_mv rfl ?_
      refine S_bin rfl rfl rfl ?_
      refine S_mv rfl ?_
      refine S_dec (fun g13 => ?_) (fun g13 => ?_)
      · skip
        refine S_gf rfl ?_
        refine S_gf rfl ?_
        refine S_gf rfl ?_
        refine S_gf rfl ?_
        refine S_gf rfl ?_
        refine S_gf rfl ?_
        refine S_gf rfl ?_
        refine S_gf rfl ?_
        refine S_gf rfl ?_
        refine S_gf rfl ?_
        refine S_gf rfl ?_
        refine S_gf rfl ?_
        refine S_gf rfl ?_
        refine S_pt rfl rfl ?_
        refine S_nil (hK11 _ _ (V_keep [0, 3, 4, 34] (by simp only [proj, lk, reduceIte, Nat.reduceEqDiff]; rfl) ?_)); clear hK11
        refine V_condt rfl ?_
        refine V_reg T.mix (by kernel_rfl) ?_
        refine S_mv rfl ?_
        refine S_as rfl ?_
        refine S_nilk [0, 3, 4] (by simp only [proj, lk, reduceIte, Nat.reduceEqDiff]; rfl) ?_
        refine hK8 _ _ ?_; clear hK8
        refine V_reg T.mix (by kernel_rfl) ?_
        refine S_mv rfl ?_
        first | refine S_add rfl rfl (by omega) (by omega) ?_ | refine S_bin rfl rfl rfl ?_
        refine S_as rfl ?_
        refine S_nilk [0, 3, 4] (by simp only [proj, lk, reduceIte, Nat.reduceEqDiff]; rfl) ?_
        exact hK5 _ _ ⟨_, by omega, v + 1, v, by omega, by omega, .inr ⟨hv1, by omega, by omega⟩, rfl, rfl, rfl⟩
      · skip
        refine S_gt rfl ?_
        refine S_mv rfl ?_
        refine S_gt rfl ?_
        refine S_mv rfl ?_
        refine S_gt rfl ?_
        refine S_nc rfl ?_
        refine S_gt rfl ?_
        first | refine S_fa0 T.f53_5 rfl ?_ | refine S_fa T.f53_5 rfl ?_
        refine S_gt rfl ?_
        first | refine S_ixan T.ar50 rfl rfl (by omega) ?_ | refine S_ixa1 T.ar50 rfl rfl (by omega) (by omega) ?_
        refine S_gt rfl ?_
        refine S_ldK T.ag3 rfl (fun K' hK' => ?_)
        simp (disch := omega) only [slP hB, slT hB, slW hB, slL hB, slLog hB, slAct hB, slPh hB, slInc hB, slAl hB, slCt hB, slCf hB, slRs hB, slSi hB, oP_some, Nat.add_zero]
        refine hK' _ ?_; clear hK' K'
        refine S_gt rfl ?_
        refine S_mv rfl ?_
        refine S_gt rfl ?_
        refine S_mv rfl ?_
        refine S_gt rfl ?_
        refine S_nc rfl ?_
        refine S_gt rfl ?_
        first | refine S_fa0 T.f53_5 rfl ?_ | refine S_fa T.f53_5 rfl ?_
        refine S_gt rfl ?_
        first | refine S_ixan T.ar50 rfl rfl (by omega) ?_ | refine S_ixa1 T.ar50 rfl rfl (by omega) (by omega) ?_
        refine S_gt rfl ?_
        refine S_ldK T.ag3 rfl (fun K' hK' => ?_)
        simp (disch := omega) only [slP hB, slT hB, slW hB, slL hB, slLog hB, slAct hB, slPh hB, slInc hB, slAl hB, slCt hB, slCf hB, slRs hB, slSi hB, oP_some, Nat.add_zero]
        refine hK' _ ?_; clear hK' K'
        refine S_gt rfl ?_
        refine S_bin rfl rfl rfl ?_
        refine S_pf rfl rfl ?_
        refine S_nil (hK11 _ _ (V_keep [0, 3, 4, 34] (by simp only [proj, lk, reduceIte, Nat.reduceEqDiff]; rfl) ?_)); clear hK11
        refine V_condp rfl (fun c13 => ?_) (fun c13 => ?_)
        · skip
          refine V_reg T.mix (by kernel_rfl) ?_
          refine S_mv rfl ?_
          refine S_as rfl ?_
          refine S_nilk [0, 3, 4] (by simp only [proj, lk, reduceIte, Nat.reduceEqDiff]; rfl) ?_
          refine hK8 _ _ ?_; clear hK8
          refine V_reg T.mix (by kernel_rfl) ?_
          refine S_mv rfl ?_
          first | refine S_add rfl rfl (by omega) (by omega) ?_ | refine S_bin rfl rfl rfl ?_
          refine S_as rfl ?_
          refine S_nilk [0, 3, 4] (by simp only [proj, lk, reduceIte, Nat.reduceEqDiff]; rfl) ?_
          exact hK5 _ _ ⟨_, by omega, v + 1, v, by omega, by omega, .inr ⟨hv1, by omega, by omega⟩, rfl, rfl, rfl⟩
        · skip
          refine V_skipk [0, 3, 4] (by simp only [proj, lk, reduceIte, Nat.reduceEqDiff]; rfl) ?_
          refine hK8 _ _ ?_; clear hK8
          refine V_reg T.mix (by kernel_rfl) ?_
          refine S_mv rfl ?_
          first | refine S_add rfl rfl (by omega) (by omega) ?_ | refine S_bin rfl rfl rfl ?_
          refine S_as rfl ?_
          refine S_nilk [0, 3, 4] (by simp only [proj, lk, reduceIte, Nat.reduceEqDiff]; rfl) ?_
          exact hK5 _ _ ⟨_, by omega, v + 1, b, by omega, by omega, by rcases hb with q | q; (exact absurd q.1 (by omega)); (exact .inr ⟨q.1, by omega, q.2.2⟩), rfl, rfl, rfl⟩
    · skip
      refine V_skipk [0, 3, 4] (by simp only [proj, lk, reduceIte, Nat.reduceEqDiff]; rfl) ?_
      refine hK8 _ _ ?_; clear hK8
      refine V_reg T.mix (by kernel_rfl) ?_
      refine S_mv rfl ?_
      first | refine S_add rfl rfl (by omega) (by omega) ?_ | refine S_bin rfl rfl rfl ?_
      refine S_as rfl ?_
      refine S_nilk [0, 3, 4] (by simp only [proj, lk, reduceIte, Nat.reduceEqDiff]; rfl) ?_
      exact hK5 _ _ ⟨_, by omega, v + 1, b, by omega, by omega, by rcases hb with q | q; (exact .inl ⟨q.1, fun u h1 h2 => by by_cases e : u = v; (subst e; omega); (exact q.2 u h1 (by omega))⟩); (exact .inr ⟨q.1, by omega, q.2.2⟩), rfl, rfl, rfl⟩
  · skip
    refine V_exitk [0, 3] rfl (by simp only [proj, lk, reduceIte, Nat.reduceEqDiff]; rfl) ?_
    refine hK3 _ _ ?_; clear hK3
    refine V_sr T.mix (by kernel_rfl) (fun K12 hK12 => ?_)
    refine S_mv rfl ?_
    refine S_mv rfl ?_
    refine S_mv rfl ?_
    refine S_nc rfl ?_
    first | refine S_fa0 T.f53_6 rfl ?_ | refine S_fa T.f53_6 rfl ?_
    first | refine S_ixan T.ar50 rfl rfl (by omega) ?_ | refine S_ixa1 T.ar50 rfl rfl (by omega) (by omega) ?_
    refine S_ldK T.ag3 rfl (fun K' hK' => ?_)
    simp (disch := omega) only [slP hB, slT hB, slW hB, slL hB, slLog hB, slAct hB, slPh hB, slInc hB, slAl hB, slCt hB, slCf hB, slRs hB, slSi hB, oP_some, Nat.add_zero]
    refine hK' _ ?_; clear hK' K'
    first | refine S_mul rfl rfl (by omega) (by omega) ?_ | refine S_bin rfl rfl rfl ?_
    refine S_as rfl ?_
    refine S_nil (hK12 _ _ (V_keep [2] (by simp only [proj, lk, reduceIte, Nat.reduceEqDiff]; rfl) ?_)); clear hK12
    refine V_ret ?_
    refine hR _ _ (ret1 rfl rfl ?_)
    rcases hb with q | q
    · exfalso; have h9 := all_set (s := s) (fun u h1 h2 => q.2 u h1 (by omega)); omega
    · have hp := ai.ph b (by omega)
      refine ⟨_, rfl, dec_ok q.1 (by omega) q.2.2 ?_, rfl⟩
      rcases hp with z | z
      · left; rw [z, Int.mul_one, wrap_i64 (by omega) (by omega)]
      · right; rw [z, wrap_i64 (by omega) (by omega)]; omega
set_option maxHeartbeats 400000 in
theorem begin_spec (h : Heap) (V P X C K : Nat) (la : Option Addr) (lc : Nat) (Q : SR) (lg : List Int) (W : WC) (cl : Nat → Option (List Int)) (s : TS) (p : Nat) (w : SX h V P X C K la lc Q lg W cl s p) (hp : p ≤ 1000000000000000000) :
    FC Tryz.prog 57 (#[.pointer (some ⟨V, 0, none⟩)] : Array Value) h fun rv h' => rv = .tuple #[] ∧ ∃ Q' W', SX h' V P X C K la lc Q' lg W' (fun _ => none) ⟨[], 0, 0⟩ (p + s.L.length) ∧ AI Q' ∧ Q'.inc = 1 ∧ Q'.al = 0 ∧ Q'.ct = 0 ∧ Q'.cf = 0 ∧ Q'.rs = 0 ∧ Q'.si = 0 ∧ SEx V X C K h h' la la := by
  have hB := w.sb
  refine FC_of [(0, .pointer (some ⟨V, 0, none⟩))] Tryz.func57 rfl Tryz.ntmps57 (by simp) rfl (fun R hR => ?_)
  refine V_sr T.mix (by kernel_rfl) (fun K1 hK1 => ?_)
  refine S_mv rfl ?_
  refine S_nc rfl ?_
  first | refine S_fa0 T.f53_1 rfl ?_ | refine S_fa T.f53_1 rfl ?_
  refine S_ldK T.ag30 rfl (fun K' hK' => ?_)
  simp (disch := omega) only [slP hB, slT hB, slW hB, slL hB, slLog hB, slAct hB, slPh hB, slInc hB, slAl hB, slCt hB, slCf hB, slRs hB, slSi hB, oP_some, Nat.add_zero]
  refine hK' _ ?_; clear hK' K'
  refine S_call T.hb88 rfl ?_
  refine FC.mono (reset_spec h X s p w.wx.t hp) ?_
  rintro v' h1 ⟨rfl, hr1, hE1⟩
  have hBh1 := hB.ext hE1 w.ne.1
  clear hB
  have hB := hBh1
  have hW1 := w.wx.b.ext hE1 (fun e => w.wx.ne e)
  have hL1 := w.lb.ext hE1 w.ne.2.2.2.2
  have hI1 := w.lo.ext hE1 (fun b e f => (w.lne b e).2.1 f)
  refine S_nil (hK1 _ _ (V_keep [0] (by simp only [proj, lk, reduceIte, Nat.reduceEqDiff]; rfl) ?_)); clear hK1
  refine V_sr T.mix (by kernel_rfl) (fun K2 hK2 => ?_)
  refine S_mv rfl ?_
  refine S_nc rfl ?_
  first | refine S_fa0 T.f53_2 rfl ?_ | refine S_fa T.f53_2 rfl ?_
  refine S_ldK T.ag31 rfl (fun K' hK' => ?_)
  simp (disch := omega) only [slP hB, slT hB, slW hB, slL hB, slLog hB, slAct hB, slPh hB, slInc hB, slAl hB, slCt hB, slCf hB, slRs hB, slSi hB, oP_some, Nat.add_zero]
  refine hK' _ ?_; clear hK' K'
  refine S_call T.hb89 rfl ?_
  refine FC.mono (wreset_spec h1 C X W hW1) ?_
  rintro v' h2 ⟨rfl, ⟨W', hW2, z1, z2, z3, z4, z5, z6⟩, hE2⟩
  have hBh2 := hB.ext hE2 w.ne.2.1
  clear hB
  have hB := hBh2
  have w2 : SX h2 V P X C K la lc Q lg W' (fun _ => none) ⟨[], 0, 0⟩ (p + s.L.length) := ⟨hB, ⟨hW2, wi_zero z1 z2 z3 z5 z6, hr1.ext hE2 (fun e => w.wx.ne e.symm), w.wx.ne⟩, hL1.ext hE2 w.ne.2.2.2.1, hI1.ext hE2 (fun b e f => (w.lne b e).2.2.1 f), w.ne, w.lne⟩
  have hX2 : SEx V X C K h h2 la la := ((SEx.refl V X C K h la).put hE1 (fun k e => .inr (.inl e))).put hE2 (fun k e => .inr (.inr (.inl e)))
  refine S_nil (hK2 _ _ (V_keep [0] (by simp only [proj, lk, reduceIte, Nat.reduceEqDiff]; rfl) ?_)); clear hK2
  refine V_seq (fun K3 hK3 => ?_)
  refine V_sr T.mix (by kernel_rfl) (fun K4 hK4 => ?_)
  refine S_as rfl ?_
  refine S_nil (hK4 _ _ (V_keep [0, 2] (by simp only [proj, lk, reduceIte, Nat.reduceEqDiff]; rfl) ?_)); clear hK4
  refine V_block ?_
  refine V_loop (fun m l h' => ∃ (v : Nat) (hk : Heap) (A F : Nat → Int), (v ≤ 13) ∧ (SB hk V P X C K la lg.length lc { Q with act := A, ph := F }) ∧ (∀ u, u < v → A u = 0 ∧ F u = -1) ∧ (Ext (fun z => z = V) h2 hk) ∧ m = 13 - v ∧ l = [(0, .pointer (some ⟨V, 0, none⟩)), (2, .int .i64 (v : Int))] ∧ hk = h') _ ⟨0, h2, Q.act, Q.ph, by omega, hB, fun u hu => by omega, Ext.refl _ _, rfl, rfl, rfl⟩ ?_
  rintro m l h' ⟨v, hk, A, F, hv, hBk, hA, hEk, rfl, rfl, rfl⟩ K5 hK5
  clear hB
  have hB := hBk
  refine V_seq (fun K6 hK6 => ?_)
  refine V_sr T.mix (by kernel_rfl) (fun K7 hK7 => ?_)
  refine S_mv rfl ?_
  refine S_bin rfl rfl rfl ?_
  refine S_nil (hK7 _ _ (V_keep [0, 2, 14] (by simp only [proj, lk, reduceIte, Nat.reduceEqDiff]; rfl) ?_)); clear hK7
  refine V_condp rfl (fun c11 => ?_) (fun c11 => ?_)
  · skip
    refine V_skipk [0, 2] (by simp only [proj, lk, reduceIte, Nat.reduceEqDiff]; rfl) ?_
    refine hK6 _ _ ?_; clear hK6
    refine V_seq (fun K8 hK8 => ?_)
    refine V_block ?_
    refine V_sr T.mix (by kernel_rfl) (fun K9 hK9 => ?_)
    refine S_mv rfl ?_
    refine S_mv rfl ?_
    refine S_nc rfl ?_
    first | refine S_fa0 T.f53_5 rfl ?_ | refine S_fa T.f53_5 rfl ?_
    first | refine S_ixan T.ar50 rfl rfl (by omega) ?_ | refine S_ixa1 T.ar50 rfl rfl (by omega) (by omega) ?_
    refine S_st T.sz3 rfl rfl rfl rfl (by simp (disch := omega) only [sok hB]) ?_
    generalize hh : putH _ _ _ = hk1
    have hBhk1 : SB hk1 V P X C K la lg.length lc { Q with act := upI A v 0, ph := F } := by rw [← hh]; exact ssAct hB v 0 (by omega)
    have hEhk1 : Ext (fun z => z = V) hk hk1 := by rw [← hh]; exact Ext.put _ _ rfl
    clear hh
    clear hB
    have hB := hBhk1
    refine S_nil (hK9 _ _ (V_keep [0, 2] (by simp only [proj, lk, reduceIte, Nat.reduceEqDiff]; rfl) ?_)); clear hK9
    refine V_reg T.mix (by kernel_rfl) ?_
    refine S_mv rfl ?_
    refine S_mv rfl ?_
    refine S_nc rfl ?_
    first | refine S_fa0 T.f53_6 rfl ?_ | refine S_fa T.f53_6 rfl ?_
    first | refine S_ixan T.ar50 rfl rfl (by omega) ?_ | refine S_ixa1 T.ar50 rfl rfl (by omega) (by omega) ?_
    refine S_st T.sz3 rfl rfl rfl rfl (by simp (disch := omega) only [sok hB]) ?_
    generalize hh : putH _ _ _ = hk2
    have hBhk2 : SB hk2 V P X C K la lg.length lc { Q with act := upI A v 0, ph := upI F v (-1) } := by rw [← hh]; exact ssPh hB v (-1) (by omega)
    have hEhk2 : Ext (fun z => z = V) hk1 hk2 := by rw [← hh]; exact Ext.put _ _ rfl
    clear hh
    clear hB
    have hB := hBhk2
    refine S_nilk [0, 2] (by simp only [proj, lk, reduceIte, Nat.reduceEqDiff]; rfl) ?_
    refine hK8 _ _ ?_; clear hK8
    refine V_reg T.mix (by kernel_rfl) ?_
    refine S_mv rfl ?_
    first | refine S_add rfl rfl (by omega) (by omega) ?_ | refine S_bin rfl rfl rfl ?_
    refine S_as rfl ?_
    refine S_nilk [0, 2] (by simp only [proj, lk, reduceIte, Nat.reduceEqDiff]; rfl) ?_
    exact hK5 _ _ ⟨_, by omega, v + 1, hk2, _, _, by omega, hB, fun u hu => by simp only [upI]; by_cases e : u = v; (rw [if_pos e, if_pos e]; exact ⟨rfl, rfl⟩); (rw [if_neg e, if_neg e]; exact hA u (by omega)), (hEk.trans hEhk1).trans hEhk2, rfl, rfl, rfl⟩
  · skip
    refine V_exitk [0] rfl (by simp only [proj, lk, reduceIte, Nat.reduceEqDiff]; rfl) ?_
    refine hK3 _ _ ?_; clear hK3
    refine V_sr T.mix (by kernel_rfl) (fun K10 hK10 => ?_)
    refine S_mv rfl ?_
    refine S_nc rfl ?_
    first | refine S_fa0 T.f53_7 rfl ?_ | refine S_fa T.f53_7 rfl ?_
    refine S_st T.sz3 rfl rfl rfl rfl (by simp (disch := omega) only [sok hB]) ?_
    generalize hh : putH _ _ _ = y1
    have hBy1 : SB y1 V P X C K la lg.length lc { Q with act := A, ph := F, inc := 1 } := by rw [← hh]; exact ssInc hB 1
    have hEy1 : Ext (fun z => z = V) hk y1 := by rw [← hh]; exact Ext.put _ _ rfl
    clear hh
    clear hB
    have hB := hBy1
    refine S_nil (hK10 _ _ (V_keep [0] (by simp only [proj, lk, reduceIte, Nat.reduceEqDiff]; rfl) ?_)); clear hK10
    refine V_sr T.mix (by kernel_rfl) (fun K11 hK11 => ?_)
    refine S_mv rfl ?_
    refine S_nc rfl ?_
    first | refine S_fa0 T.f53_8 rfl ?_ | refine S_fa T.f53_8 rfl ?_
    refine S_st T.sz51 rfl rfl rfl rfl (by simp (disch := omega) only [sok hB]) ?_
    generalize hh : putH _ _ _ = y2
    have hBy2 : SB y2 V P X C K la lg.length lc { Q with act := A, ph := F, inc := 1, al := 0 } := by rw [← hh]; exact ssAl hB 0
    have hEy2 : Ext (fun z => z = V) y1 y2 := by rw [← hh]; exact Ext.put _ _ rfl
    clear hh
    clear hB
    have hB := hBy2
    refine S_nil (hK11 _ _ (V_keep [0] (by simp only [proj, lk, reduceIte, Nat.reduceEqDiff]; rfl) ?_)); clear hK11
    refine V_sr T.mix (by kernel_rfl) (fun K12 hK12 => ?_)
    refine S_mv rfl ?_
    refine S_nc rfl ?_
    first | refine S_fa0 T.f53_9 rfl ?_ | refine S_fa T.f53_9 rfl ?_
    refine S_st T.sz3 rfl rfl rfl rfl (by simp (disch := omega) only [sok hB]) ?_
    generalize hh : putH _ _ _ = y3
    have hBy3 : SB y3 V P X C K la lg.length lc { Q with act := A, ph := F, inc := 1, al := 0, ct := 0 } := by rw [← hh]; exact ssCt hB 0
    have hEy3 : Ext (fun z => z = V) y2 y3 := by rw [← hh]; exact Ext.put _ _ rfl
    clear hh
    clear hB
    have hB := hBy3
    refine S_nil (hK12 _ _ (V_keep [0] (by simp only [proj, lk, reduceIte, Nat.reduceEqDiff]; rfl) ?_)); clear hK12
    refine V_sr T.mix (by kernel_rfl) (fun K13 hK13 => ?_)
    refine S_mv rfl ?_
    refine S_nc rfl ?_
    first | refine S_fa0 T.f53_10 rfl ?_ | refine S_fa T.f53_10 rfl ?_
    refine S_st T.sz3 rfl rfl rfl rfl (by simp (disch := omega) only [sok hB]) ?_
    generalize hh : putH _ _ _ = y4
    have hBy4 : SB y4 V P X C K la lg.length lc { Q with act := A, ph := F, inc := 1, al := 0, ct := 0, cf := 0 } := by rw [← hh]; exact ssCf hB 0
    have hEy4 : Ext (fun z => z = V) y3 y4 := by rw [← hh]; exact Ext.put _ _ rfl
    clear hh
    clear hB
    have hB := hBy4
    refine S_nil (hK13 _ _ (V_keep [0] (by simp only [proj, lk, reduceIte, Nat.reduceEqDiff]; rfl) ?_)); clear hK13
    refine V_sr T.mix (by kernel_rfl) (fun K14 hK14 => ?_)
    refine S_mv rfl ?_
    refine S_nc rfl ?_
    first | refine S_fa0 T.f53_11 rfl ?_ | refine S_fa T.f53_11 rfl ?_
    refine S_st T.sz3 rfl rfl rfl rfl (by simp (disch := omega) only [sok hB]) ?_
    generalize hh : putH _ _ _ = y5
    have hBy5 : SB y5 V P X C K la lg.length lc { Q with act := A, ph := F, inc := 1, al := 0, ct := 0, cf := 0, rs := 0 } := by rw [← hh]; exact ssRs hB 0
    have hEy5 : Ext (fun z => z = V) y4 y5 := by rw [← hh]; exact Ext.put _ _ rfl
    clear hh
    clear hB
    have hB := hBy5
    refine S_nil (hK14 _ _ (V_keep [0] (by simp only [proj, lk, reduceIte, Nat.reduceEqDiff]; rfl) ?_)); clear hK14
    refine V_reg T.mix (by kernel_rfl) ?_
    refine S_mv rfl ?_
    refine S_nc rfl ?_
    first | refine S_fa0 T.f53_12 rfl ?_ | refine S_fa T.f53_12 rfl ?_
    refine S_st T.sz3 rfl rfl rfl rfl (by simp (disch := omega) only [sok hB]) ?_
    generalize hh : putH _ _ _ = y6
    have hBy6 : SB y6 V P X C K la lg.length lc { Q with act := A, ph := F, inc := 1, al := 0, ct := 0, cf := 0, rs := 0, si := 0 } := by rw [← hh]; exact ssSi hB 0
    have hEy6 : Ext (fun z => z = V) y5 y6 := by rw [← hh]; exact Ext.put _ _ rfl
    clear hh
    clear hB
    have hB := hBy6
    refine S_nilk [] (by simp only [proj, lk, reduceIte, Nat.reduceEqDiff]; rfl) ?_
    -- end
    refine hR _ _ (ret0 rfl ?_)
    have hE9 := (((((hEk.trans hEy1).trans hEy2).trans hEy3).trans hEy4).trans hEy5).trans hEy6
    exact ⟨rfl, _, W', w2.own hE9 hB, ⟨(hA 0 (by omega)).1, (hA 0 (by omega)).2, fun u hu => by have h9 := hA u (by omega); simp only []; omega, fun u hu => .inr (hA u (by omega)).2, by simp, by simp⟩, rfl, rfl, rfl, rfl, rfl, rfl, hX2.put hE9 (fun k e => .inl e)⟩
set_option maxHeartbeats 400000 in
theorem jump_spec (h : Heap) (V P X C K : Nat) (la : Option Addr) (lc : Nat) (Q : SR) (lg : List Int) (W : WC) (cl : Nat → Option (List Int)) (s : TS) (p : Nat) (w : SX h V P X C K la lc Q lg W cl s p) (ai : AI Q) (lv : Int) (hp : p ≤ 1000000000000000000) :
    FC Tryz.prog 95 (#[.pointer (some ⟨V, 0, none⟩), .int .i64 lv] : Array Value) h fun rv h' => rv = .tuple #[] ∧ ∃ Q' p', SX h' V P X C K la lc Q' lg W cl (bjS s lv) p' ∧ AI Q' ∧ Q'.inc = Q.inc ∧ Sf Q Q' ∧ p' ≤ p + s.L.length ∧ SEx V X C K h h' la la := by
  have hB := w.sb
  have hok := w.wx.t.ok
  have h12 := TI.len hok
  refine FC_of [(0, .pointer (some ⟨V, 0, none⟩)), (1, .int .i64 lv)] Tryz.func95 rfl Tryz.ntmps95 (by simp) rfl (fun R hR => ?_)
  refine V_sr T.mix (by kernel_rfl) (fun K1 hK1 => ?_)
  refine S_mv rfl ?_
  refine S_nc rfl ?_
  first | refine S_fa0 T.f53_1 rfl ?_ | refine S_fa T.f53_1 rfl ?_
  refine S_ldK T.ag30 rfl (fun K' hK' => ?_)
  simp (disch := omega) only [slP hB, slT hB, slW hB, slL hB, slLog hB, slAct hB, slPh hB, slInc hB, slAl hB, slCt hB, slCf hB, slRs hB, slSi hB, oP_some, Nat.add_zero]
  refine hK' _ ?_; clear hK' K'
  refine S_call T.hb48 rfl ?_
  refine FC.mono (len_spec h X s p w.wx.t) ?_
  rintro v' h' ⟨rfl, rfl⟩
  refine S_as rfl ?_
  refine S_nil (hK1 _ _ (V_keep [0, 1, 4] (by simp only [proj, lk, reduceIte, Nat.reduceEqDiff]; rfl) ?_)); clear hK1
  refine V_seqJ (fun l h' => ∃ (hj : Heap) (F : Nat → Int), (SB hj V P X C K la lg.length lc { Q with ph := F }) ∧ (F 0 = -1) ∧ (∀ v, v < 13 → F v = 1 ∨ F v = -1) ∧ (Ext (fun z => z = V) h hj) ∧ l = [(0, .pointer (some ⟨V, 0, none⟩)), (1, .int .i64 lv)] ∧ hj = h') ?_ ?_
  · skip
    refine V_sr T.mix (by kernel_rfl) (fun K3 hK3 => ?_)
    refine S_mv rfl ?_
    first | refine S_sub rfl rfl (by omega) (by omega) ?_ | refine S_bin rfl rfl rfl ?_
    refine S_as rfl ?_
    refine S_nil (hK3 _ _ (V_keep [0, 1, 5] (by simp only [proj, lk, reduceIte, Nat.reduceEqDiff]; rfl) ?_)); clear hK3
    refine V_block ?_
    refine V_loop (fun m l h' => ∃ (i : Int) (hk : Heap) (F : Nat → Int), (-1 ≤ i) ∧ (i < s.L.length) ∧ (SB hk V P X C K la lg.length lc { Q with ph := F }) ∧ (F 0 = -1) ∧ (∀ v, v < 13 → F v = 1 ∨ F v = -1) ∧ (Ext (fun z => z = V) h hk) ∧ m = (i + 1).toNat ∧ l = [(0, .pointer (some ⟨V, 0, none⟩)), (1, .int .i64 lv), (5, .int .i64 i)] ∧ hk = h') _ ⟨(s.L.length : Int) - 1, h, Q.ph, by omega, by omega, hB, ai.p0, ai.ph, Ext.refl _ _, rfl, rfl, rfl⟩ ?_
    rintro m l h' ⟨i, hk, F, hi0, hi, hBk, hF0, hF, hEk, rfl, rfl, rfl⟩ K4 hK4
    clear hB
    have hB := hBk
    have wk : RS hk X s p := w.wx.t.ext hEk (fun e => w.ne.1 e.symm)
    refine V_seq (fun K5 hK5 => ?_)
    refine V_sr T.mix (by kernel_rfl) (fun K6 hK6 => ?_)
    refine S_mv rfl ?_
    refine S_bin rfl rfl rfl ?_
    refine S_nil (hK6 _ _ (V_keep [0, 1, 5, 17] (by simp only [proj, lk, reduceIte, Nat.reduceEqDiff]; rfl) ?_)); clear hK6
    refine V_condp rfl (fun c19 => ?_) (fun c19 => ?_)
    · skip
      have hgx := lev_at hok (show i.toNat < s.L.length by omega)
      rw [show ((i.toNat : Nat) : Int) = i by omega] at hgx
      unfold gd at hgx
      obtain ⟨q_, hq_⟩ : ∃ x, x = atL s.L i := ⟨_, rfl⟩
      rw [← hq_] at hgx
      refine V_skipk [0, 1, 5] (by simp only [proj, lk, reduceIte, Nat.reduceEqDiff]; rfl) ?_
      refine hK5 _ _ ?_; clear hK5
      refine V_seq (fun K7 hK7 => ?_)
      refine V_block ?_
      refine V_sr T.mix (by kernel_rfl) (fun K8 hK8 => ?_)
      refine S_mv rfl ?_
      refine S_nc rfl ?_
      first | refine S_fa0 T.f53_1 rfl ?_ | refine S_fa T.f53_1 rfl ?_
      refine S_ldK T.ag30 rfl (fun K' hK' => ?_)
      simp (disch := omega) only [slP hB, slT hB, slW hB, slL hB, slLog hB, slAct hB, slPh hB, slInc hB, slAl hB, slCt hB, slCf hB, slRs hB, slSi hB, oP_some, Nat.add_zero]
      refine hK' _ ?_; clear hK' K'
      refine S_mv rfl ?_
      refine S_call T.hb51 rfl ?_
      refine FC.mono (at_spec hk X s p wk i) ?_
      rintro v' h' ⟨rfl, rfl⟩
      rw [← hq_]
      refine S_as rfl ?_
      refine S_nil (hK8 _ _ (V_keep [0, 1, 5, 6] (by simp only [proj, lk, reduceIte, Nat.reduceEqDiff]; rfl) ?_)); clear hK8
      refine V_sr T.mix (by kernel_rfl) (fun K9 hK9 => ?_)
      refine S_mv rfl ?_
      refine S_call T.hb52 rfl ?_
      refine FC.mono (var_spec _ (q_) (by omega) (by omega)) ?_
      rintro v' h' ⟨rfl, rfl⟩
      refine S_as rfl ?_
      refine S_nil (hK9 _ _ (V_keep [0, 1, 5, 6, 7] (by simp only [proj, lk, reduceIte, Nat.reduceEqDiff]; rfl) ?_)); clear hK9
      refine V_sr T.mix (by kernel_rfl) (fun K10 hK10 => ?_)
      refine S_mv rfl ?_
      refine S_nc rfl ?_
      first | refine S_fa0 T.f53_1 rfl ?_ | refine S_fa T.f53_1 rfl ?_
      refine S_ldK T.ag30 rfl (fun K' hK' => ?_)
      simp (disch := omega) only [slP hB, slT hB, slW hB, slL hB, slLog hB, slAct hB, slPh hB, slInc hB, slAl hB, slCt hB, slCf hB, slRs hB, slSi hB, oP_some, Nat.add_zero]
      refine hK' _ ?_; clear hK' K'
      refine S_mv rfl ?_
      refine S_call T.hb54 rfl ?_
      refine FC.mono (levelof_spec hk X s p wk (q_.natAbs : Int)) ?_
      rintro v' h' ⟨rfl, rfl⟩
      refine S_as rfl ?_
      refine S_nil (hK10 _ _ (V_keep [0, 1, 5, 6, 7, 8] (by simp only [proj, lk, reduceIte, Nat.reduceEqDiff]; rfl) ?_)); clear hK10
      refine V_seq (fun K11 hK11 => ?_)
      refine V_sr T.mix (by kernel_rfl) (fun K12 hK12 => ?_)
      refine S_mv rfl ?_
      refine S_mv rfl ?_
      refine S_bin rfl rfl rfl ?_
      refine S_nil (hK12 _ _ (V_keep [0, 1, 5, 6, 7, 36] (by simp only [proj, lk, reduceIte, Nat.reduceEqDiff]; rfl) ?_)); clear hK12
      refine V_condp rfl (fun c23 => ?_) (fun c23 => ?_)
      · skip
        refine V_exitk [0, 1] rfl (by simp only [proj, lk, reduceIte, Nat.reduceEqDiff]; rfl) ?_
        exact ⟨hk, F, hB, hF0, hF, hEk, rfl, rfl⟩
      · skip
        refine V_skipk [0, 1, 5, 6, 7] (by simp only [proj, lk, reduceIte, Nat.reduceEqDiff]; rfl) ?_
        refine hK11 _ _ ?_; clear hK11
        refine V_sr T.mix (by kernel_rfl) (fun K13 hK13 => ?_)
        refine S_mv rfl ?_
        refine S_mv rfl ?_
        refine S_nc rfl ?_
        first | refine S_fa0 T.f53_6 rfl ?_ | refine S_fa T.f53_6 rfl ?_
        first | refine S_ixan T.ar50 rfl rfl (by omega) ?_ | refine S_ixa1 T.ar50 rfl rfl (by omega) (by omega) ?_
        refine S_st T.sz3 rfl rfl rfl rfl (by simp (disch := omega) only [sok hB]) ?_
        generalize hh : putH _ _ _ = hk1
        have hBhk1 : SB hk1 V P X C K la lg.length lc { Q with ph := upI F q_.natAbs (-1) } := by rw [← hh]; exact ssPh hB q_.natAbs (-1) (by omega)
        have hEhk1 : Ext (fun z => z = V) hk hk1 := by rw [← hh]; exact Ext.put _ _ rfl
        clear hh
        clear hB
        have hB := hBhk1
        refine S_nil (hK13 _ _ (V_keep [0, 1, 5, 6, 7] (by simp only [proj, lk, reduceIte, Nat.reduceEqDiff]; rfl) ?_)); clear hK13
        refine V_sr T.mix (by kernel_rfl) (fun K14 hK14 => ?_)
        refine S_mv rfl ?_
        refine S_bin rfl rfl rfl ?_
        refine S_nil (hK14 _ _ (V_keep [0, 1, 5, 7, 43] (by simp only [proj, lk, reduceIte, Nat.reduceEqDiff]; rfl) ?_)); clear hK14
        refine V_condp rfl (fun c27 => ?_) (fun c27 => ?_)
        · skip
          refine V_reg T.mix (by kernel_rfl) ?_
          refine S_mv rfl ?_
          refine S_mv rfl ?_
          refine S_nc rfl ?_
          first | refine S_fa0 T.f53_6 rfl ?_ | refine S_fa T.f53_6 rfl ?_
          first | refine S_ixan T.ar50 rfl rfl (by omega) ?_ | refine S_ixa1 T.ar50 rfl rfl (by omega) (by omega) ?_
          refine S_st T.sz3 rfl rfl rfl rfl (by simp (disch := omega) only [sok hB]) ?_
          generalize hh : putH _ _ _ = hk2
          have hBhk2 : SB hk2 V P X C K la lg.length lc { Q with ph := upI (upI F q_.natAbs (-1)) q_.natAbs 1 } := by rw [← hh]; exact ssPh hB q_.natAbs 1 (by omega)
          have hEhk2 : Ext (fun z => z = V) hk1 hk2 := by rw [← hh]; exact Ext.put _ _ rfl
          clear hh
          clear hB
          have hB := hBhk2
          refine S_nilk [0, 1, 5] (by simp only [proj, lk, reduceIte, Nat.reduceEqDiff]; rfl) ?_
          refine hK7 _ _ ?_; clear hK7
          refine V_reg T.mix (by kernel_rfl) ?_
          refine S_mv rfl ?_
          first | refine S_sub rfl rfl (by omega) (by omega) ?_ | refine S_bin rfl rfl rfl ?_
          refine S_as rfl ?_
          refine S_nilk [0, 1, 5] (by simp only [proj, lk, reduceIte, Nat.reduceEqDiff]; rfl) ?_
          exact hK4 _ _ ⟨_, by omega, i - 1, hk2, _, by omega, by omega, hB, by simp only [upI]; rw [if_neg (by omega), if_neg (by omega)]; exact hF0, fun v hv => by simp only [upI]; split; (exact .inl rfl); (exact hF v hv), (hEk.trans hEhk1).trans hEhk2, rfl, rfl, rfl⟩
        · skip
          refine V_skipk [0, 1, 5] (by simp only [proj, lk, reduceIte, Nat.reduceEqDiff]; rfl) ?_
          refine hK7 _ _ ?_; clear hK7
          refine V_reg T.mix (by kernel_rfl) ?_
          refine S_mv rfl ?_
          first | refine S_sub rfl rfl (by omega) (by omega) ?_ | refine S_bin rfl rfl rfl ?_
          refine S_as rfl ?_
          refine S_nilk [0, 1, 5] (by simp only [proj, lk, reduceIte, Nat.reduceEqDiff]; rfl) ?_
          exact hK4 _ _ ⟨_, by omega, i - 1, hk1, _, by omega, by omega, hB, by simp only [upI]; rw [if_neg (by omega)]; exact hF0, fun v hv => by simp only [upI]; split; (exact .inr rfl); (exact hF v hv), hEk.trans hEhk1, rfl, rfl, rfl⟩
    · skip
      refine V_exitk [0, 1] rfl (by simp only [proj, lk, reduceIte, Nat.reduceEqDiff]; rfl) ?_
      exact ⟨hk, F, hB, hF0, hF, hEk, rfl, rfl⟩
  rintro l h' ⟨hj, F, hBj, hF0, hF, hEj, rfl, rfl⟩
  try clear hB
  have hB := hBj
  have wj : SX hj V P X C K la lc { Q with ph := F } lg W cl s p := w.own hEj hB
  refine V_reg T.mix (by kernel_rfl) ?_
  refine S_mv rfl ?_
  refine S_nc rfl ?_
  first | refine S_fa0 T.f53_1 rfl ?_ | refine S_fa T.f53_1 rfl ?_
  refine S_ldK T.ag30 rfl (fun K' hK' => ?_)
  simp (disch := omega) only [slP hB, slT hB, slW hB, slL hB, slLog hB, slAct hB, slPh hB, slInc hB, slAl hB, slCt hB, slCf hB, slRs hB, slSi hB, oP_some, Nat.add_zero]
  refine hK' _ ?_; clear hK' K'
  refine S_mv rfl ?_
  refine S_call T.hb129 rfl ?_
  refine FC.mono (backjump_spec hj X s p wj.wx.t lv hp) ?_
  rintro v' hz ⟨rfl, hrz, hEz⟩
  refine S_nilk [] (by simp only [proj, lk, reduceIte, Nat.reduceEqDiff]; rfl) ?_
  -- end
  refine hR _ _ (ret0 rfl ?_)
  refine ⟨rfl, _, _, wj.trail hEz hrz (wi_bj w.wx.i lv), ⟨ai.a0, hF0, ai.ac, hF, ai.i1, ai.i2⟩, rfl, ⟨rfl, rfl, rfl, rfl, rfl⟩, by omega, ((SEx.refl V X C K h la).put hEj (fun k e => .inl e)).put hEz (fun k e => .inr (.inl e))⟩
set_option maxHeartbeats 400000 in
theorem restart_spec (h : Heap) (V P X C K : Nat) (la : Option Addr) (lc : Nat) (Q : SR) (lg : List Int) (W : WC) (cl : Nat → Option (List Int)) (s : TS) (p : Nat) (w : SX h V P X C K la lc Q lg W cl s p) (ai : AI Q) (hp : p ≤ 1000000000000000000) (hr : Q.rs ≤ 4) (hs : Q.si ≤ 5000) :
    FC Tryz.prog 98 (#[.pointer (some ⟨V, 0, none⟩)] : Array Value) h fun rv h' => rv = .tuple #[] ∧ ∃ Q' s' p', SX h' V P X C K la lc Q' lg W cl s' p' ∧ AI Q' ∧ Q'.inc = Q.inc ∧ Q'.al = Q.al ∧ Q'.ct = Q.ct ∧ Q'.cf = Q.cf ∧ p' ≤ p + s.L.length ∧ SEx V X C K h h' la la ∧ ((Q.rs < 4 ∧ Q.rs ≤ Q.si ∧ Q'.rs = Q.rs + 1 ∧ Q'.si = 0 ∧ s' = bjS s 0) ∨ (¬ (Q.rs < 4 ∧ Q.rs ≤ Q.si) ∧ Q'.rs = Q.rs ∧ Q'.si = Q.si + 1 ∧ s' = s)) := by
  have hB := w.sb
  have hiv : ivF Q.rs ≤ 5 ∧ (0 < ivF Q.rs ↔ Q.rs < 4) ∧ (Q.rs < 4 → ivF Q.rs = Q.rs + 1) := by unfold ivF; split <;> omega
  refine FC_of [(0, .pointer (some ⟨V, 0, none⟩))] Tryz.func98 rfl Tryz.ntmps98 (by simp) rfl (fun R hR => ?_)
  refine V_sr T.mix (by kernel_rfl) (fun K1 hK1 => ?_)
  refine S_mv rfl ?_
  refine S_nc rfl ?_
  first | refine S_fa0 T.f53_12 rfl ?_ | refine S_fa T.f53_12 rfl ?_
  refine S_ldK T.ag3 rfl (fun K' hK' => ?_)
  simp (disch := omega) only [slP hB, slT hB, slW hB, slL hB, slLog hB, slAct hB, slPh hB, slInc hB, slAl hB, slCt hB, slCf hB, slRs hB, slSi hB, oP_some, Nat.add_zero]
  refine hK' _ ?_; clear hK' K'
  first | refine S_add rfl rfl (by omega) (by omega) ?_ | refine S_bin rfl rfl rfl ?_
  refine S_nc rfl ?_
  first | refine S_fa0 T.f53_12 rfl ?_ | refine S_fa T.f53_12 rfl ?_
  refine S_st T.sz3 rfl rfl rfl rfl (by simp (disch := omega) only [sok hB]) ?_
  generalize hh : putH _ _ _ = h1
  have hBh1 : SB h1 V P X C K la lg.length lc { Q with si := Q.si + 1 } := by rw [← hh]; exact ssSi hB (Q.si + 1)
  have hEh1 : Ext (fun z => z = V) h h1 := by rw [← hh]; exact Ext.put _ _ rfl
  clear hh
  clear hB
  have hB := hBh1
  have w1 := w.own hEh1 hB
  refine S_nil (hK1 _ _ (V_keep [0] (by simp only [proj, lk, reduceIte, Nat.reduceEqDiff]; rfl) ?_)); clear hK1
  refine V_sr T.mix (by kernel_rfl) (fun K2 hK2 => ?_)
  refine S_mv rfl ?_
  refine S_nc rfl ?_
  first | refine S_fa0 T.f53_11 rfl ?_ | refine S_fa T.f53_11 rfl ?_
  refine S_ldK T.ag3 rfl (fun K' hK' => ?_)
  simp (disch := omega) only [slP hB, slT hB, slW hB, slL hB, slLog hB, slAct hB, slPh hB, slInc hB, slAl hB, slCt hB, slCf hB, slRs hB, slSi hB, oP_some, Nat.add_zero]
  refine hK' _ ?_; clear hK' K'
  refine S_call T.hb16 rfl ?_
  refine FC.mono (interval_spec h1 Q.rs (by omega)) ?_
  rintro v' h' ⟨rfl, rfl⟩
  refine S_as rfl ?_
  refine S_nil (hK2 _ _ (V_keep [0, 2] (by simp only [proj, lk, reduceIte, Nat.reduceEqDiff]; rfl) ?_)); clear hK2
  refine V_sr T.mix (by kernel_rfl) (fun K3 hK3 => ?_)
  refine S_mv rfl ?_
  refine S_bin rfl rfl rfl ?_
  refine S_mv rfl ?_
  refine S_dec (fun g58 => ?_) (fun g58 => ?_)
  · skip
    refine S_gt rfl ?_
    refine S_mv rfl ?_
    refine S_gt rfl ?_
    refine S_nc rfl ?_
    refine S_gt rfl ?_
    first | refine S_fa0 T.f53_12 rfl ?_ | refine S_fa T.f53_12 rfl ?_
    refine S_gt rfl ?_
    refine S_ldK T.ag3 rfl (fun K' hK' => ?_)
    simp (disch := omega) only [slP hB, slT hB, slW hB, slL hB, slLog hB, slAct hB, slPh hB, slInc hB, slAl hB, slCt hB, slCf hB, slRs hB, slSi hB, oP_some, Nat.add_zero]
    refine hK' _ ?_; clear hK' K'
    refine S_gt rfl ?_
    refine S_mv rfl ?_
    refine S_gt rfl ?_
    refine S_bin rfl rfl rfl ?_
    refine S_pt rfl rfl ?_
    refine S_nil (hK3 _ _ (V_keep [0, 24] (by simp only [proj, lk, reduceIte, Nat.reduceEqDiff]; rfl) ?_)); clear hK3
    refine V_condp rfl (fun c58 => ?_) (fun c58 => ?_)
    · skip
      refine V_sr T.mix (by kernel_rfl) (fun K4 hK4 => ?_)
      refine S_mv rfl ?_
      refine S_call T.hb95 rfl ?_
      refine FC.mono (jump_spec h1 V P X C K la lc _ lg W cl s p w1 ⟨ai.a0, ai.p0, ai.ac, ai.ph, ai.i1, ai.i2⟩ 0 hp) ?_
      rintro v' h2 ⟨rfl, Q2, p2, w2, ai2, hi2, ⟨f1, f2, f3, f4, f5⟩, hp2, hX2⟩
      clear hB
      have hB := w2.sb
      have hf4 : Q2.rs = Q.rs := f4
      refine S_nil (hK4 _ _ (V_keep [0] (by simp only [proj, lk, reduceIte, Nat.reduceEqDiff]; rfl) ?_)); clear hK4
      refine V_sr T.mix (by kernel_rfl) (fun K5 hK5 => ?_)
      refine S_mv rfl ?_
      refine S_nc rfl ?_
      first | refine S_fa0 T.f53_11 rfl ?_ | refine S_fa T.f53_11 rfl ?_
      refine S_ldK T.ag3 rfl (fun K' hK' => ?_)
      simp (disch := omega) only [slP hB, slT hB, slW hB, slL hB, slLog hB, slAct hB, slPh hB, slInc hB, slAl hB, slCt hB, slCf hB, slRs hB, slSi hB, oP_some, Nat.add_zero]
      refine hK' _ ?_; clear hK' K'
      first | refine S_add rfl rfl (by omega) (by omega) ?_ | refine S_bin rfl rfl rfl ?_
      refine S_nc rfl ?_
      first | refine S_fa0 T.f53_11 rfl ?_ | refine S_fa T.f53_11 rfl ?_
      refine S_st T.sz3 rfl rfl rfl rfl (by simp (disch := omega) only [sok hB]) ?_
      generalize hh : putH _ _ _ = h3
      have hB3 : SB h3 V P X C K la lg.length lc { Q2 with rs := Q2.rs + 1 } := by rw [← hh]; exact ssRs hB _
      have hE3 : Ext (fun z => z = V) h2 h3 := by rw [← hh]; exact Ext.put _ _ rfl
      clear hh
      clear hB
      have hB := hB3
      refine S_nil (hK5 _ _ (V_keep [0] (by simp only [proj, lk, reduceIte, Nat.reduceEqDiff]; rfl) ?_)); clear hK5
      refine V_reg T.mix (by kernel_rfl) ?_
      refine S_mv rfl ?_
      refine S_nc rfl ?_
      first | refine S_fa0 T.f53_12 rfl ?_ | refine S_fa T.f53_12 rfl ?_
      refine S_st T.sz3 rfl rfl rfl rfl (by simp (disch := omega) only [sok hB]) ?_
      generalize hh : putH _ _ _ = h4
      have hB4 : SB h4 V P X C K la lg.length lc { Q2 with rs := Q2.rs + 1, si := 0 } := by rw [← hh]; exact ssSi hB 0
      have hE4 : Ext (fun z => z = V) h3 h4 := by rw [← hh]; exact Ext.put _ _ rfl
      clear hh
      clear hB
      have hB := hB4
      refine S_nilk [] (by simp only [proj, lk, reduceIte, Nat.reduceEqDiff]; rfl) ?_
      -- end
      refine hR _ _ (ret0 rfl ?_)
      first | exact ⟨rfl, _, _, p2, (w2.own hE3 hB3).own hE4 hB, ⟨ai2.a0, ai2.p0, ai2.ac, ai2.ph, ai2.i1, ai2.i2⟩, hi2, f1, f2, f3, hp2, ((((SEx.refl V X C K h la).put hEh1 (fun k e => .inl e)).trans hX2).put hE3 (fun k e => .inl e)).put hE4 (fun k e => .inl e), .inl ⟨by omega, by omega, by simp only []; omega, rfl, rfl⟩⟩ | exact ⟨rfl, _, s, p, w1, ⟨ai.a0, ai.p0, ai.ac, ai.ph, ai.i1, ai.i2⟩, rfl, rfl, rfl, rfl, by omega, (SEx.refl V X C K h la).put hEh1 (fun k e => .inl e), .inr ⟨by omega, rfl, rfl, rfl⟩⟩
    · skip
      refine V_skipk [] (by simp only [proj, lk, reduceIte, Nat.reduceEqDiff]; rfl) ?_
      -- end
      refine hR _ _ (ret0 rfl ?_)
      first | exact ⟨rfl, _, _, p2, (w2.own hE3 hB3).own hE4 hB, ⟨ai2.a0, ai2.p0, ai2.ac, ai2.ph, ai2.i1, ai2.i2⟩, hi2, f1, f2, f3, hp2, ((((SEx.refl V X C K h la).put hEh1 (fun k e => .inl e)).trans hX2).put hE3 (fun k e => .inl e)).put hE4 (fun k e => .inl e), .inl ⟨by omega, by omega, by simp only []; omega, rfl, rfl⟩⟩ | exact ⟨rfl, _, s, p, w1, ⟨ai.a0, ai.p0, ai.ac, ai.ph, ai.i1, ai.i2⟩, rfl, rfl, rfl, rfl, by omega, (SEx.refl V X C K h la).put hEh1 (fun k e => .inl e), .inr ⟨by omega, rfl, rfl, rfl⟩⟩
  · skip
    refine S_gf rfl ?_
    refine S_gf rfl ?_
    refine S_gf rfl ?_
    refine S_gf rfl ?_
    refine S_gf rfl ?_
    refine S_gf rfl ?_
    refine S_pf rfl rfl ?_
    refine S_nil (hK3 _ _ (V_keep [0, 24] (by simp only [proj, lk, reduceIte, Nat.reduceEqDiff]; rfl) ?_)); clear hK3
    refine V_condf rfl ?_
    refine V_skipk [] (by simp only [proj, lk, reduceIte, Nat.reduceEqDiff]; rfl) ?_
    -- end
    refine hR _ _ (ret0 rfl ?_)
    first | exact ⟨rfl, _, _, p2, (w2.own hE3 hB3).own hE4 hB, ⟨ai2.a0, ai2.p0, ai2.ac, ai2.ph, ai2.i1, ai2.i2⟩, hi2, f1, f2, f3, hp2, ((((SEx.refl V X C K h la).put hEh1 (fun k e => .inl e)).trans hX2).put hE3 (fun k e => .inl e)).put hE4 (fun k e => .inl e), .inl ⟨by omega, by omega, by simp only []; omega, rfl, rfl⟩⟩ | exact ⟨rfl, _, s, p, w1, ⟨ai.a0, ai.p0, ai.ac, ai.ph, ai.i1, ai.i2⟩, rfl, rfl, rfl, rfl, by omega, (SEx.refl V X C K h la).put hEh1 (fun k e => .inl e), .inr ⟨by omega, rfl, rfl, rfl⟩⟩
end Go.Proofs.Qxb6500401aGreat
