import Derived.Test.Qxb6500401aGreatMc
set_option linter.unusedVariables false
set_option linter.unusedSimpArgs false
namespace Go.Proofs.Qxb6500401aGreat
open Go.Eng Go.Trl Go.Chk Go.Wat

def FarB (V X C K : Nat) (la : Option Addr) (b : Nat) : Prop := b ≠ V ∧ b ≠ X ∧ b ≠ C ∧ b ≠ K ∧ blkA la ≠ some b
theorem SEx.blk {V X C K : Nat} {h h' : Heap} {la la' : Option Addr} {b : Nat} {cs : Array Value} {t : TypeId} (e : SEx V X C K h h' la la') (hb : B h b cs t) (hf : FarB V X C K la b) : B h' b cs t ∧ FarB V X C K la' b := by
  obtain ⟨f1, f2, f3, f4, f5⟩ := hf
  refine ⟨hb.ext e.1 (fun q => ?_), f1, f2, f3, f4, fun q => ?_⟩
  · rcases q with q | q | q | q | q
    · exact f1 q
    · exact f2 q
    · exact f3 q
    · exact f4 q
    · exact f5 q
  · rcases e.2 b q with r | r
    · exact f5 r
    · have := hb.lt; omega
theorem AI.kf {Q Q' : SR} (h : AI Q) (k : Kf Q Q') : AI Q' := by
  obtain ⟨k1, k2, k3, _⟩ := k
  exact ⟨by rw [k1]; exact h.a0, by rw [k2]; exact h.p0, by rw [k1, k3]; exact h.ac, by rw [k2]; exact h.ph, by rw [k3]; exact h.i1, by rw [k3]; exact h.i2⟩
theorem AL.sf {Q Q' : SR} {cl : Nat → Option (List Int)} (h : AL Q cl) (h1 : Q'.al = Q.al) (h2 : Q'.ct = Q.ct) : AL Q' cl := ⟨by rw [h1]; exact h.lt, by rw [h1]; exact h.bit, by rw [h2]; exact h.ct⟩
theorem lq4 {h : Heap} {b : Nat} {e a k : Int} {xa : Option Addr} {n c t : Nat} (hB : B h b #[.int .i64 e, .slice xa n c, .int .i64 a, .int .i64 k] t) : cellH h ⟨b, 0, none⟩ = some (.int .i64 e) ∧ cellH h ⟨b, 1, none⟩ = some (.slice xa n c) ∧ cellH h ⟨b, 2, none⟩ = some (.int .i64 a) ∧ cellH h ⟨b, 3, none⟩ = some (.int .i64 k) ∧ ∀ j, j < 4 → okPut h ⟨b, j, none⟩ = true :=
  ⟨hB.cell 0, hB.cell 1, hB.cell 2, hB.cell 3, fun j hj => hB.ok (by simpa using hj)⟩
/-- how a conflict ends -/
def CfE (cs : Sto) (cl : Nat → Option (List Int)) (s : TS) (r n f : Nat) (lr : List Rw) (b : Bool) (Q' : SR) (lr' : List Rw) (cl' : Nat → Option (List Int)) (s' : TS) : Prop :=
  (b = false ∧ s' = s ∧ cl' = cl ∧ lr' = lr ++ [(false, [])] ∧ Q'.cf = f + 1 ∧ Q'.rs = r ∧ Q'.si = n ∧ AL Q' cl ∧ ¬ Fix (rowsS cl 52) (deny [])) ∨ (b = true ∧ ∃ r' n', SC cs cl' s' r' n' (f + 1) lr' ∧ NH cl' r' n' s' ∧ AL Q' cl' ∧ Q'.cf = f + 1 ∧ Q'.rs = r' ∧ Q'.si = n' ∧ Q'.inc = f + 2)
theorem add_room {cl : Nat → Option (List Int)} {c : List Int} {id : Nat} (hn : Nrm c) (hf : frI cl 40 12 = some id) : addV cl c true = (id, 0) ∧ addS cl c true = upO cl id (some c) := by
  unfold addV addS
  rw [if_pos (nrm_ccE hn), if_pos (nrm_ccE hn)]
  simp only [loI, nI, if_true]
  rw [hf]; exact ⟨rfl, rfl⟩
set_option maxHeartbeats 3200000 in
theorem conflict_spec (h : Heap) (V P X C K : Nat) (la : Option Addr) (lc : Nat) (Q : SR) (lr : List Rw) (W : WC) (cl : Nat → Option (List Int)) (s : TS) (p : Nat) (w : SX h V P X C K la lc Q (flatR lr) W cl s p) (cs : Sto) (r n f : Nat) (sc : SC cs cl s r n f lr) (np : NP r n s) (al : AL Q cl) (ai : AI Q) (hqf : Q.cf = f) (hqr : Q.rs = r) (hqn : Q.si = n) (hqi : Q.inc = f + 1) (hp : p ≤ 900000000000000000) (id : Nat) (hid : id < 52) (af : AF cl id (lits s.L)) :
    FC Tryz.prog 60 (#[.pointer (some ⟨V, 0, none⟩), .int .i64 (id : Int)] : Array Value) h fun rv h' => ∃ la' lc' Q' lr' W' cl' s' p' b, rv = .bool b ∧ SX h' V P X C K la' lc' Q' (flatR lr') W' cl' s' p' ∧ AI Q' ∧ SEx V X C K h h' la la' ∧ p' ≤ p + 24 ∧ CfE cs cl s r n f lr b Q' lr' cl' s' := by
  have hB := w.sb
  have hlt := w.lt
  have hle := np.le sc
  have hln := sc.ln
  have h12 := TI.len sc.ci.ok
  obtain ⟨g0, g1, g2, g3, gok⟩ : True ∧ True ∧ True ∧ True ∧ True := ⟨trivial, trivial, trivial, trivial, trivial⟩
  have hr4 := sc.r4
  have hcf := sc.cf
  refine FC_of [(0, .pointer (some ⟨V, 0, none⟩)), (1, .int .i64 (id : Int))] Tryz.func60 rfl Tryz.ntmps60 (by simp) rfl (fun R hR => ?_)
  refine V_sr T.mix (by kernel_rfl) (fun K1 hK1 => ?_)
  refine S_as rfl ?_
  refine S_nil (hK1 _ _ (V_keep [0, 1] (by simp only [proj, lk, reduceIte, Nat.reduceEqDiff]; rfl) ?_)); clear hK1
  refine V_sr T.mix (by kernel_rfl) (fun K2 hK2 => ?_)
  refine S_mv rfl ?_
  refine S_nc rfl ?_
  first | refine S_fa0 T.f53_10 rfl ?_ | refine S_fa T.f53_10 rfl ?_
  refine S_ldK T.ag3 rfl (fun K' hK' => ?_)
  simp (disch := omega) only [slP hB, slT hB, slW hB, slL hB, slLog hB, slAct hB, slPh hB, slInc hB, slAl hB, slCt hB, slCf hB, slRs hB, slSi hB, g0, g1, g2, g3, oP_some, Nat.add_zero]
  refine hK' _ ?_; clear hK' K'
  first | refine S_add rfl rfl (by omega) (by omega) ?_ | refine S_bin rfl rfl rfl ?_
  refine S_nc rfl ?_
  first | refine S_fa0 T.f53_10 rfl ?_ | refine S_fa T.f53_10 rfl ?_
  refine S_st T.sz3 rfl rfl rfl rfl (by simp (disch := omega) only [sok hB, gok]) ?_
  generalize hh : putH _ _ _ = h1
  have hBh1 : SB h1 V P X C K la (flatR lr).length lc { Q with cf := Q.cf + 1 } := by rw [← hh]; exact ssCf hB (Q.cf + 1)
  have hEh1 : Ext (fun z => z = V) h h1 := by rw [← hh]; exact Ext.put _ _ rfl
  clear hh
  clear hB
  have hB := hBh1
  have w1 := w.own hEh1 hB
  refine S_nil (hK2 _ _ (V_keep [0, 1] (by simp only [proj, lk, reduceIte, Nat.reduceEqDiff]; rfl) ?_)); clear hK2
  refine V_sr T.mix (by kernel_rfl) (fun K3 hK3 => ?_)
  refine S_mv rfl ?_
  refine S_nc rfl ?_
  first | refine S_fa0 T.f53_3 rfl ?_ | refine S_fa T.f53_3 rfl ?_
  refine S_ldK T.ag32 rfl (fun K' hK' => ?_)
  simp (disch := omega) only [slP hB, slT hB, slW hB, slL hB, slLog hB, slAct hB, slPh hB, slInc hB, slAl hB, slCt hB, slCf hB, slRs hB, slSi hB, g0, g1, g2, g3, oP_some, Nat.add_zero]
  refine hK' _ ?_; clear hK' K'
  refine S_mv rfl ?_
  refine S_call T.hb93 rfl ?_
  refine FC.mono (analyze_spec h1 K C X w1.lb W cl s p w1.wx ⟨w.ne.2.2.2.1, w.ne.2.2.2.2⟩ (id : Int)) ?_
  rw [an_real sc.ci.ok sc.ci.sn sc.ci.nl]
  obtain ⟨G, hG⟩ : ∃ G, G = ansF s cl (id : Int) := ⟨_, rfl⟩
  rw [← hG]
  rintro v' h2 ⟨xa, rfl, hI2, hn2, hb2, hL2, hE2⟩
  have w2 := w1.learn hE2 hL2
  clear hB
  have hB := w2.sb
  refine S_allocA T.z148 ?_
  generalize hh : Array.push h2 _ = h3
  have hG3 : B h3 h2.size #[.int .i64 0, .slice none 0 0, .int .i64 0, .int .i64 0] 148 := by rw [← hh]; exact B.new _ _ _
  have hEh3 : Ext (fun _ => False) h2 h3 := by rw [← hh]; exact Ext.push _ _ _
  have hsh3 : h3.size = h2.size + 1 := by rw [← hh]; simp
  clear hh
  try clear g0 g1 g2 g3 gok
  obtain ⟨g0, g1, g2, g3, gok⟩ := lq4 (hG3)
  refine S_stl T.sz148 rfl rfl rfl rfl (fun j hj => by simp (disch := omega) only [sok hB, gok]) ?_
  generalize hh : putsH _ _ _ _ = h4
  have hG4 : B h4 (h2.size) #[.int .i64 (G.err : Int), .slice xa G.lits.length G.lits.length, .int .i64 G.asr, .int .i64 G.back] 148 := by rw [← hh]; exact B.puts_all (hG3) (cs' := #[.int .i64 (G.err : Int), .slice xa G.lits.length G.lits.length, .int .i64 G.asr, .int .i64 G.back]) rfl
  have hEh4 : Ext (fun k => k = h2.size) h3 h4 := by rw [← hh]; exact Ext.puts (S := fun k => k = h2.size) rfl _ _ _
  clear hh
  try clear g0 g1 g2 g3 gok
  obtain ⟨g0, g1, g2, g3, gok⟩ := lq4 (hG4)
  have hE24 : Ext (fun _ => False) h2 h4 := hEh3.step hEh4 (fun z hz e => by omega)
  have w4 := w2.new hE24
  clear hB
  have hB := w4.sb
  have hI4 := hI2.ext hE24 (fun _ _ f => f)
  have hs1 := hEh1.1
  have hs2 := hE2.1
  have hs4 := hE24.1
  have hlt2 := w2.lt
  have hgb4 : FarB V X C K la h2.size := ⟨by omega, by omega, by omega, by omega, fun q => by have h9 := (OwnR.blk2 w2.lo q).2; omega⟩
  have hxf4 : Far V X C K la xa := fun z e => by
    have h9 := hb2 z e
    exact ⟨by omega, by omega, by omega, by omega, fun q => by have h8 := (OwnR.blk2 w1.lo q).2; omega⟩
  have hX4 : SEx V X C K h h4 la la := (((SEx.refl V X C K h la).put hEh1 (fun k e => .inl e)).put hE2 (fun k e => .inr (.inr (.inr (.inl e))))).put hE24 (fun k f => f.elim)
  refine S_nil (hK3 _ _ (V_keep [0, 5] (by simp only [proj, lk, reduceIte, Nat.reduceEqDiff]; rfl) ?_)); clear hK3
  refine V_seq (fun K4 hK4 => ?_)
  refine V_sr T.mix (by kernel_rfl) (fun K5 hK5 => ?_)
  first | refine S_fa0 T.f148_0 rfl ?_ | refine S_fa T.f148_0 rfl ?_
  refine S_ldK T.ag54 rfl (fun K' hK' => ?_)
  simp (disch := omega) only [slP hB, slT hB, slW hB, slL hB, slLog hB, slAct hB, slPh hB, slInc hB, slAl hB, slCt hB, slCf hB, slRs hB, slSi hB, g0, g1, g2, g3, oP_some, Nat.add_zero]
  refine hK' _ ?_; clear hK' K'
  refine S_bin rfl rfl rfl ?_
  refine S_nil (hK5 _ _ (V_keep [0, 5, 23] (by simp only [proj, lk, reduceIte, Nat.reduceEqDiff]; rfl) ?_)); clear hK5
  refine V_condp rfl (fun c107 => ?_) (fun c107 => ?_)
  · skip
    have hk0 : s.k = 0 := by
      rcases Nat.eq_zero_or_pos s.k with q | q
      · exact q
      · have h9 := conf_ok sc.ci (by omega) hid af
        rw [← hG] at h9; omega
    have hnf := (conf_end sc.ci hk0 hid af).2
    refine V_sr T.mix (by kernel_rfl) (fun K6 hK6 => ?_)
    refine S_mv rfl ?_
    refine S_call T.hb94 rfl ?_
    refine FC.mono (note_spec h4 V P X C K la lc _ (flatR lr) W cl s p w4 (by omega) false none 0 [] (IL.nil _) (by simp) (fun z e => by simp [blkA] at e)) ?_
    rintro v' h5 ⟨rfl, la5, lc5, w5, hX5, _⟩
    rw [← flatR_one, ← flatR_app] at w5
    refine S_nil (hK6 _ _ (V_keep [] (by simp only [proj, lk, reduceIte, Nat.reduceEqDiff]; rfl) ?_)); clear hK6
    refine V_sr T.mix (by kernel_rfl) (fun K7 hK7 => ?_)
    refine S_as rfl ?_
    refine S_nil (hK7 _ _ (V_keep [4] (by simp only [proj, lk, reduceIte, Nat.reduceEqDiff]; rfl) ?_)); clear hK7
    refine V_ret ?_
    refine hR _ _ (ret1 rfl rfl ?_)
    exact ⟨la5, lc5, _, _, W, cl, s, p, false, rfl, w5, ⟨ai.a0, ai.p0, ai.ac, ai.ph, ai.i1, ai.i2⟩, hX4.trans hX5, by omega, .inl ⟨rfl, rfl, rfl, rfl, by simp only []; omega, hqr, hqn, al.sf rfl rfl, hnf⟩⟩
  · skip
    have he0 : (ansF s cl (id : Int)).err = 0 := by rw [← hG]; omega
    obtain ⟨c, j0, hlv, hank⟩ := ansK sc.ci.ok sc.ci.sn sc.ci.nl he0
    rw [← hG] at hank
    obtain ⟨jb, hjb, hjk, fi⟩ := FI.start sc np hlv hank
    have hnr := hank.nr
    refine V_skipk [0, 5] (by simp only [proj, lk, reduceIte, Nat.reduceEqDiff]; rfl) ?_
    refine hK4 _ _ ?_; clear hK4
    refine V_sr T.mix (by kernel_rfl) (fun K8 hK8 => ?_)
    refine S_mv rfl ?_
    first | refine S_fa0 T.f148_1 rfl ?_ | refine S_fa T.f148_1 rfl ?_
    refine S_ldK T.ag49 rfl (fun K' hK' => ?_)
    simp (disch := omega) only [slP hB, slT hB, slW hB, slL hB, slLog hB, slAct hB, slPh hB, slInc hB, slAl hB, slCt hB, slCf hB, slRs hB, slSi hB, g0, g1, g2, g3, oP_some, Nat.add_zero]
    refine hK' _ ?_; clear hK' K'
    refine S_call T.hb94 rfl ?_
    refine FC.mono (note_spec h4 V P X C K la lc _ (flatR lr) W cl s p w4 (by omega) false xa _ G.lits hI4 hnr.len (fun z e => ⟨(hxf4 z e).1, (hxf4 z e).2.2.2.2⟩)) ?_
    rintro v' h5 ⟨rfl, la5, lc5, w5, hX5, _⟩
    rw [← flatR_one, ← flatR_app] at w5
    obtain ⟨hI5, hxf5⟩ := hX5.il hI4 hxf4
    obtain ⟨hG5, hgb5⟩ := hX5.blk hG4 hgb4
    clear hB
    have hB := w5.sb
    try clear g0 g1 g2 g3 gok
    obtain ⟨g0, g1, g2, g3, gok⟩ := lq4 (hG5)
    refine S_nil (hK8 _ _ (V_keep [0, 5] (by simp only [proj, lk, reduceIte, Nat.reduceEqDiff]; rfl) ?_)); clear hK8
    refine V_sr T.mix (by kernel_rfl) (fun K9 hK9 => ?_)
    refine S_mv rfl ?_
    first | refine S_fa0 T.f148_3 rfl ?_ | refine S_fa T.f148_3 rfl ?_
    refine S_ldK T.ag3 rfl (fun K' hK' => ?_)
    simp (disch := omega) only [slP hB, slT hB, slW hB, slL hB, slLog hB, slAct hB, slPh hB, slInc hB, slAl hB, slCt hB, slCf hB, slRs hB, slSi hB, g0, g1, g2, g3, oP_some, Nat.add_zero]
    refine hK' _ ?_; clear hK' K'
    refine S_call T.hb95 rfl ?_
    refine FC.mono (jump_spec h5 V P X C K la5 lc5 _ _ W cl s p w5 ⟨ai.a0, ai.p0, ai.ac, ai.ph, ai.i1, ai.i2⟩ G.back (by omega)) ?_
    rintro v' h6 ⟨rfl, Q6, p6, w6, ai6, hi6, ⟨f61, f62, f63, f64, f65⟩, hp6, hX6⟩
    simp only [] at hi6 f63 f64 f65
    obtain ⟨hI6, hxf6⟩ := hX6.il hI5 hxf5
    obtain ⟨hG6, hgb6⟩ := hX6.blk hG5 hgb5
    clear hB
    have hB := w6.sb
    try clear g0 g1 g2 g3 gok
    obtain ⟨g0, g1, g2, g3, gok⟩ := lq4 (hG6)
    refine S_nil (hK9 _ _ (V_keep [0, 5] (by simp only [proj, lk, reduceIte, Nat.reduceEqDiff]; rfl) ?_)); clear hK9
    refine V_sr T.mix (by kernel_rfl) (fun K10 hK10 => ?_)
    refine S_mv rfl ?_
    refine S_call T.hb96 rfl ?_
    refine FC.mono (forget_spec h6 V P X C K la5 lc5 Q6 (lr ++ [(false, G.lits)]) W cl (bjS s G.back) p6 w6 cs G r n (f + 1) fi (al.sf f61 f62)) ?_
    rintro v' h7 ⟨rfl, la7, lc7, Q7, lr7, W7, cl7, k7, w7, fi7, hk7, al7, kf7, hX7⟩
    obtain ⟨hI7, hxf7⟩ := hX7.il hI6 hxf6
    obtain ⟨hG7, hgb7⟩ := hX7.blk hG6 hgb6
    clear hB
    have hB := w7.sb
    try clear g0 g1 g2 g3 gok
    obtain ⟨g0, g1, g2, g3, gok⟩ := lq4 (hG7)
    obtain ⟨id2, hf2⟩ := fi7.room hk7
    obtain ⟨i1, i2, hc2, _⟩ := frI_some _ _ hf2
    obtain ⟨k2, rfl⟩ : ∃ k2, id2 = 40 + k2 := ⟨id2 - 40, by omega⟩
    have hk2 : k2 < 12 := by omega
    have hct7 := al7.ct
    have hacl7 := aL_le cl7
    obtain ⟨av1, av2⟩ := add_room hnr hf2
    have hlt7 := w7.lt
    refine S_nil (hK10 _ _ (V_keep [0, 5] (by simp only [proj, lk, reduceIte, Nat.reduceEqDiff]; rfl) ?_)); clear hK10
    refine V_sr T.mix (by kernel_rfl) (fun K11 hK11 => ?_)
    refine S_mv rfl ?_
    refine S_nc rfl ?_
    first | refine S_fa0 T.f53_2 rfl ?_ | refine S_fa T.f53_2 rfl ?_
    refine S_ldK T.ag31 rfl (fun K' hK' => ?_)
    simp (disch := omega) only [slP hB, slT hB, slW hB, slL hB, slLog hB, slAct hB, slPh hB, slInc hB, slAl hB, slCt hB, slCf hB, slRs hB, slSi hB, g0, g1, g2, g3, oP_some, Nat.add_zero]
    refine hK' _ ?_; clear hK' K'
    first | refine S_fa0 T.f148_1 rfl ?_ | refine S_fa T.f148_1 rfl ?_
    refine S_ldK T.ag49 rfl (fun K' hK' => ?_)
    simp (disch := omega) only [slP hB, slT hB, slW hB, slL hB, slLog hB, slAct hB, slPh hB, slInc hB, slAl hB, slCt hB, slCf hB, slRs hB, slSi hB, g0, g1, g2, g3, oP_some, Nat.add_zero]
    refine hK' _ ?_; clear hK' K'
    refine S_call T.hb90 rfl ?_
    have hws := wadd_spec h7 C X W7 cl7 (bjS s G.back) p6 w7.wx xa _ G.lits hI7 (by have h9 := hnr.len; omega) (fun b e => (hxf7 b e).2.2.1) true
    rw [av1, av2] at hws
    refine FC.mono hws ?_
    rintro v' h8 ⟨W8, rfl, hW8, _, _, hE8⟩
    have w8 := w7.watch hE8 (fun b e => .inl e) hW8
    have hI8 := hI7.ext hE8 (fun b e f => (hxf7 b e).2.2.1 f)
    have hG8 := hG7.ext hE8 (fun e => hgb7.2.2.1 e)
    have hX8 : SEx V X C K h h8 la la7 := (((hX4.trans hX5).trans hX6).trans hX7).put hE8 (fun k e => .inr (.inr (.inl e)))
    clear hB
    have hB := w8.sb
    try clear g0 g1 g2 g3 gok
    obtain ⟨g0, g1, g2, g3, gok⟩ := lq4 (hG8)
    refine S_mv rfl ?_
    refine S_ex rfl rfl ?_
    refine S_ex rfl rfl ?_
    refine S_as rfl ?_
    refine S_as rfl ?_
    refine S_nil (hK11 _ _ (V_keep [0, 5, 6, 7] (by simp only [proj, lk, reduceIte, Nat.reduceEqDiff]; rfl) ?_)); clear hK11
    refine V_seq (fun K12 hK12 => ?_)
    refine V_sr T.mix (by kernel_rfl) (fun K13 hK13 => ?_)
    refine S_mv rfl ?_
    refine S_bin rfl rfl rfl ?_
    refine S_nil (hK13 _ _ (V_keep [0, 5, 6, 47] (by simp only [proj, lk, reduceIte, Nat.reduceEqDiff]; rfl) ?_)); clear hK13
    refine V_condp rfl (fun c115 => ?_) (fun c115 => ?_)
    · skip
      refine V_sr T.mix (by kernel_rfl) (fun K14 hK14 => ?_)
      refine S_mv rfl ?_
      refine S_mv rfl ?_
      refine S_nc rfl ?_
      first | refine S_fa0 T.f53_8 rfl ?_ | refine S_fa T.f53_8 rfl ?_
      refine S_ldK T.ag51 rfl (fun K' hK' => ?_)
      simp (disch := omega) only [slP hB, slT hB, slW hB, slL hB, slLog hB, slAct hB, slPh hB, slInc hB, slAl hB, slCt hB, slCf hB, slRs hB, slSi hB, g0, g1, g2, g3, oP_some, Nat.add_zero]
      refine hK' _ ?_; clear hK' K'
      refine S_mv rfl ?_
      refine S_subN k2 rfl rfl (by omega) (by omega) ?_
      first | refine S_cvn T.us3 T.in57 rfl rfl (by first | omega | (simp only [IntKind.bits]; omega)) ?_ | refine S_cvu T.us3 T.in57 rfl (by omega) (by omega) ?_ | refine S_cv T.us3 T.in57 rfl ?_
      refine S_nshl 1 k2 (2 ^ k2) rfl rfl rfl rfl (Nat.one_mul _) (show k2 ≤ 16 by omega) (t16 (p12 hk2)) ?_
      refine S_nor Q7.al (2 ^ k2) _ rfl rfl rfl rfl rfl (t16 al7.lt) (t16 (p12 hk2)) ?_
      refine S_nc rfl ?_
      first | refine S_fa0 T.f53_8 rfl ?_ | refine S_fa T.f53_8 rfl ?_
      refine S_st T.sz51 rfl rfl rfl rfl (by simp (disch := omega) only [sok hB, gok]) ?_
      generalize hh : putH _ _ _ = h9
      have hB9 : SB h9 V P X C K la7 (flatR lr7).length lc7 { Q7 with al := Q7.al ||| 2 ^ k2 } := by rw [← hh]; exact ssAl hB _
      have hE9 : Ext (fun z => z = V) h8 h9 := by rw [← hh]; exact Ext.put _ _ rfl
      clear hh
      clear hB
      have hB := hB9
      refine S_nil (hK14 _ _ (V_keep [0, 5] (by simp only [proj, lk, reduceIte, Nat.reduceEqDiff]; rfl) ?_)); clear hK14
      refine V_reg T.mix (by kernel_rfl) ?_
      refine S_mv rfl ?_
      refine S_nc rfl ?_
      first | refine S_fa0 T.f53_9 rfl ?_ | refine S_fa T.f53_9 rfl ?_
      refine S_ldK T.ag3 rfl (fun K' hK' => ?_)
      simp (disch := omega) only [slP hB, slT hB, slW hB, slL hB, slLog hB, slAct hB, slPh hB, slInc hB, slAl hB, slCt hB, slCf hB, slRs hB, slSi hB, g0, g1, g2, g3, oP_some, Nat.add_zero]
      refine hK' _ ?_; clear hK' K'
      first | refine S_add rfl rfl (by omega) (by omega) ?_ | refine S_bin rfl rfl rfl ?_
      refine S_nc rfl ?_
      first | refine S_fa0 T.f53_9 rfl ?_ | refine S_fa T.f53_9 rfl ?_
      refine S_st T.sz3 rfl rfl rfl rfl (by simp (disch := omega) only [sok hB, gok]) ?_
      generalize hh : putH _ _ _ = h10
      have hB10 : SB h10 V P X C K la7 (flatR lr7).length lc7 { Q7 with al := Q7.al ||| 2 ^ k2, ct := Q7.ct + 1 } := by rw [← hh]; exact ssCt hB (Q7.ct + 1)
      have hE10 : Ext (fun z => z = V) h9 h10 := by rw [← hh]; exact Ext.put _ _ rfl
      clear hh
      have w10 := (w8.own hE9 hB9).own hE10 hB10
      clear hB
      have hB := hB10
      have hX10 := (hX8.put hE9 (fun k e => .inl e)).put hE10 (fun k e => .inl e)
      have hI10 := (hI8.ext hE9 (fun b e f => (hxf7 b e).1 f)).ext hE10 (fun b e f => (hxf7 b e).1 f)
      have hG10 := (hG8.ext hE9 (fun e => hgb7.1 e)).ext hE10 (fun e => hgb7.1 e)
      try clear g0 g1 g2 g3 gok
      obtain ⟨g0, g1, g2, g3, gok⟩ := lq4 (hG10)
      have al10 := al7.add (c := G.lits) hk2 hc2
      refine S_nilk [0, 5] (by simp only [proj, lk, reduceIte, Nat.reduceEqDiff]; rfl) ?_
      refine hK12 _ _ ?_; clear hK12
      refine V_sr T.mix (by kernel_rfl) (fun K15 hK15 => ?_)
      refine S_mv rfl ?_
      first | refine S_fa0 T.f148_1 rfl ?_ | refine S_fa T.f148_1 rfl ?_
      refine S_ldK T.ag49 rfl (fun K' hK' => ?_)
      simp (disch := omega) only [slP hB, slT hB, slW hB, slL hB, slLog hB, slAct hB, slPh hB, slInc hB, slAl hB, slCt hB, slCf hB, slRs hB, slSi hB, g0, g1, g2, g3, oP_some, Nat.add_zero]
      refine hK' _ ?_; clear hK' K'
      refine S_call T.hb97 rfl ?_
      have ai7 := ai6.kf kf7
      obtain ⟨_, _, k73, k74, k75, k76⟩ := kf7
      refine FC.mono (bump_spec h10 V P X C K la7 lc7 _ _ W8 _ _ p6 w10 ⟨ai7.a0, ai7.p0, ai7.ac, ai7.ph, ai7.i1, ai7.i2⟩ (by simp only []; omega) xa _ G.lits hI10 hnr (fun z e => (hxf7 z e).1)) ?_
      rintro v' h11 ⟨rfl, Q11, w11, ai11, hi11, ⟨f11, f12, f13, f14, f15⟩, hE11⟩
      simp only [] at hi11 f11 f12 f13 f14 f15
      clear hB
      have hB := w11.sb
      refine S_nil (hK15 _ _ (V_keep [0] (by simp only [proj, lk, reduceIte, Nat.reduceEqDiff]; rfl) ?_)); clear hK15
      refine V_sr T.mix (by kernel_rfl) (fun K16 hK16 => ?_)
      refine S_mv rfl ?_
      refine S_call T.hb98 rfl ?_
      refine FC.mono (restart_spec h11 V P X C K la7 lc7 Q11 _ W8 _ _ p6 w11 ai11 (by omega) (by omega) (by omega)) ?_
      rintro v' h12 ⟨rfl, Q12, s12, p12, w12, ai12, hi12, f21, f22, f23, hp12, hX12, hor⟩
      refine S_nil (hK16 _ _ (V_keep [] (by simp only [proj, lk, reduceIte, Nat.reduceEqDiff]; rfl) ?_)); clear hK16
      refine V_sr T.mix (by kernel_rfl) (fun K17 hK17 => ?_)
      refine S_as rfl ?_
      refine S_nil (hK17 _ _ (V_keep [4] (by simp only [proj, lk, reduceIte, Nat.reduceEqDiff]; rfl) ?_)); clear hK17
      refine V_ret ?_
      refine hR _ _ (ret1 rfl rfl ?_)
      have hbl : (bjS s G.back).L.length ≤ 12 := TI.len w6.wx.t.ok
      have hbs : (bjS s G.back).L.length ≤ s.L.length := by rw [hjb, bj_eq (by omega)]; simp only []; unfold backL; rw [List.length_take]; omega
      obtain ⟨sc2, nh2⟩ := fi7.add hf2
      refine ⟨la7, lc7, Q12, lr7, W8, _, s12, p12, true, rfl, w12, ai12, (hX10.put hE11 (fun k e => .inl e)).trans hX12, by omega, .inr ⟨rfl, ?_⟩⟩
      rcases hor with ⟨q1, q2, q3, q4, q5⟩ | ⟨q1, q3, q4, q5⟩
      · have hnr2 := np.1 (by omega)
        obtain ⟨sc3, nh3⟩ := sc2.back (by omega) (by omega)
        rw [q5]
        exact ⟨r + 1, 0, sc3, nh3, (al10.sf f11 f12).sf f21 f22, by omega, by omega, q4, by omega⟩
      · rw [q5]
        refine ⟨r, n + 1, sc2, sc2.stay nh2 (fun q => ?_), (al10.sf f11 f12).sf f21 f22, by omega, by omega, by omega, by omega⟩
        have hnr2 := np.1 q
        omega
    · skip
      exfalso; exact c115 rfl
end Go.Proofs.Qxb6500401aGreat
