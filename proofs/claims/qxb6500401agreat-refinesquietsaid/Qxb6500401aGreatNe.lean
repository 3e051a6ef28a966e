import Derived.Test.Qxb6500401aGreatNd
import Derived.Test.Qxb6500401aGreatEn
set_option linter.unusedVariables false
set_option linter.unusedSimpArgs false
namespace Go.Proofs.Qxb6500401aGreat
open Go.Eng Go.Trl Go.Chk Go.Wat Go.Cnf

/-- the answer, in one form -/
theorem SAns.uni {t : ByteArray} {h h' : Heap} {V P X C K : Nat} {la' pa' : Option Addr} {W W' : WC} {cl cl' : Nat → Option (List Int)} {s s' : TS} {p p' : Nat} {rv : Value} (a : SAns t h h' V P X C K la' pa' W cl s p W' cl' s' p' rv) :
    ∃ (e q : Nat) (sb : Bool) (xm : Option Addr) (mn : Nat) (pf : ByteArray) (cf rs : Nat), rv = .agg #[.int .i64 (e : Int), .int .i64 (q : Int), .bool sb, .slice xm mn mn, .string pf, .int .i64 (cf : Int), .int .i64 (rs : Int)] ∧ e = ChkW.prE t ∧ q = ChkW.prP t ∧
      ((e ≠ 0 ∧ sb = false ∧ xm = none ∧ mn = 0 ∧ pf = ⟨#[]⟩ ∧ cf = 0 ∧ rs = 0 ∧ W' = W ∧ cl' = cl ∧ s' = s ∧ p' = p) ∨
       (e = 0 ∧ ∃ r n f lr, SC (csOf t) cl' s' r n f lr ∧ NP r n s' ∧ rs = r ∧ cf = f + (if sb then 0 else 1) ∧
        (sb = true → IL h' xm 12 (mdF s') ∧ mn = 12 ∧ pf = ⟨#[]⟩ ∧ (∀ b, blkA xm = some b → h.size ≤ b ∧ blkA la' ≠ some b ∧ blkA pa' ≠ some b) ∧ s'.L.length = 12 ∧ ∀ j, j < 52 → ∀ cc, cl' j = some cc → Done (· ∈ lits s'.L) cc) ∧
        (sb = false → xm = none ∧ mn = 0 ∧ pf = textOf (printB (flatR (lr ++ [(false, [])]))) ∧ ¬ Fix (rowsS cl' 52) (deny []))))  := by
  rcases a with ⟨h1, rfl, h2, h3, h4, h5⟩ | ⟨h0, r, n, f, lr, sc, np, ⟨ma, rfl, q1, q2, q3, q4⟩ | ⟨rfl, q1⟩⟩
  · exact ⟨ChkW.prE t, ChkW.prP t, false, none, 0, ⟨#[]⟩, 0, 0, rfl, rfl, rfl, .inl ⟨h1, rfl, rfl, rfl, rfl, rfl, rfl, h2, h3, h4, h5⟩⟩
  · exact ⟨0, 0, true, ma, 12, ⟨#[]⟩, f, r, rfl, h0.symm, (ChkW.prP_ok h0).symm, .inr ⟨rfl, r, n, f, lr, sc, np, rfl, by simp, fun _ => ⟨q1, rfl, rfl, q2, q3, q4⟩, fun z => (by cases z)⟩⟩
  · exact ⟨0, 0, false, none, 0, _, f + 1, r, rfl, h0.symm, (ChkW.prP_ok h0).symm, .inr ⟨rfl, r, n, f, lr, sc, np, rfl, by simp, fun z => (by cases z), fun _ => ⟨rfl, rfl, rfl, q1⟩⟩⟩
theorem cs_ok {t : ByteArray} (h : ChkW.prE t = 0) : (∀ c ∈ csOf t, Nrm c) ∧ (csOf t).length ≤ 40 := ChkW.prob_rows h
theorem sb_eq {t : ByteArray} {cl : Nat → Option (List Int)} {s : TS} {r n f : Nat} {lr : List Rw} {sb sb2 : Bool} (h0 : ChkW.prE t = 0) (sc : SC (csOf t) cl s r n f lr) (h1 : sb = true → s.L.length = 12 ∧ ∀ j, j < 52 → ∀ cc, cl j = some cc → Done (· ∈ lits s.L) cc) (h2 : sb = false → ¬ Fix (rowsS cl 52) (deny [])) (h3 : sb2 = true ↔ ∃ m, m < 4096 ∧ sat (csOf t) m) : sb2 = sb := by
  cases sb with
  | true => exact h3.2 ⟨mskF s 12, msk_lt, full_sat sc (h1 rfl).2 (h1 rfl).1⟩
  | false =>
    cases e : sb2 with
    | false => rfl
    | true =>
      exfalso
      obtain ⟨m, _, hm⟩ := h3.1 e
      obtain ⟨_, hN, hf, _⟩ := sc.last (h2 rfl)
      exact fol_sound _ _ 0 m hN (cs_ok h0).1 hm (by rw [hf])
theorem chk_ok {t : ByteArray} {rows : List Rw} (h0 : ChkW.prE t = 0) (hN : NrmR rows) (hl : (flatR rows).length ≤ 262144) (hf : fol rows (csOf t) 0 = (0, 0)) : (chkF t (textOf (printB (flatR rows)))).1 = 0 := by
  have hr := round (rows_flat hN) hl
  obtain ⟨p1, p2⟩ := ChkW.pr_ok h0
  unfold chkF
  rw [if_neg (by omega), if_neg (by omega), hr]
  simp only []
  rw [if_neg (by simp), rowsOf_flat hN]
  show (fol rows (csOf t) 0).1 = 0
  rw [hf]
theorem vq3 {h : Heap} {b : Nat} {e a k : Int} {t : TypeId} (hB : B h b #[.int .i64 e, .int .i64 a, .int .i64 k] t) : cellH h ⟨b, 0, none⟩ = some (.int .i64 e) ∧ ∀ j, j < 3 → okPut h ⟨b, j, none⟩ = true := ⟨hB.cell 0, fun j hj => hB.ok (by simpa using hj)⟩
set_option maxHeartbeats 6400000 in
theorem wsolve_spec (h : Heap) (c : CF) (la : Option Addr) (lc : Nat) (Q : SR) (W : WC) (cl : Nat → Option (List Int)) (s : TS) (p : Nat) (pa : Option Addr) (pc : Nat) (txt : ByteArray) (ma : Option Addr) (mc : Nat) (mine : List (Option Addr)) (w : LW h c la lc Q W cl s p pa pc txt ma mc mine) (t : ByteArray) (hp : p ≤ 800000000000000000) :
    FC Tryz.prog 19 (#[.pointer (some ⟨c.D, 0, none⟩), .string t] : Array Value) h fun rv h' => rv = .bool true ∧ ∃ la' lc' Q' W' cl' s' p' pa' pc' ma' mc' mine', LW h' c la' lc' Q' W' cl' s' p' pa' pc' txt ma' mc' mine' ∧ p' ≤ p + 100000 ∧ Ext (fun z => c.base ≤ z) h h' := by
  try clear d0 d1 d2 d3 d4 d5 d6 d7 d8 dok
  obtain ⟨d0, d1, d2, d3, d4, d5, d6, d7, d8, dok⟩ := dq (w.dd)
  obtain ⟨o1, o2, o3, o4, o5, o6, o7, o8, o9, o10⟩ := w.od.o
  have hD := w.lt
  obtain ⟨a0, a1, a2, a3, a4, a5, a6⟩ : True ∧ True ∧ True ∧ True ∧ True ∧ True ∧ True := ⟨trivial, trivial, trivial, trivial, trivial, trivial, trivial⟩
  obtain ⟨m0, m1, m2, m3, m4, m5, m6⟩ : True ∧ True ∧ True ∧ True ∧ True ∧ True ∧ True := ⟨trivial, trivial, trivial, trivial, trivial, trivial, trivial⟩
  obtain ⟨aok, mok, vok, v0⟩ : True ∧ True ∧ True ∧ True := ⟨trivial, trivial, trivial, trivial⟩
  refine FC_of [(0, .pointer (some ⟨c.D, 0, none⟩)), (1, .string t)] Tryz.func19 rfl Tryz.ntmps19 (by simp) rfl (fun R hR => ?_)
  refine V_sr T.mix (by kernel_rfl) (fun K1 hK1 => ?_)
  refine S_as rfl ?_
  refine S_nil (hK1 _ _ (V_keep [0, 1] (by simp only [proj, lk, reduceIte, Nat.reduceEqDiff]; rfl) ?_)); clear hK1
  refine V_sr T.mix (by kernel_rfl) (fun K2 hK2 => ?_)
  refine S_mv rfl ?_
  refine S_nc rfl ?_
  first | refine S_fa0 T.f40_0 rfl ?_ | refine S_fa T.f40_0 rfl ?_
  refine S_ldnK T.ag34 rfl (fun K' hK' => ?_)
  simp (disch := omega) only [d0, d1, d2, d3, d4, d5, d6, d7, d8, a0, a1, a2, a3, a4, a5, a6, m0, m1, m2, m3, m4, m5, m6, v0, oPs_cons, oPs_nil, oP_some, Nat.reduceAdd, Nat.add_zero]
  refine hK' _ ?_; clear hK' K'
  refine S_call T.hb27 rfl ?_
  refine FC.mono (shot_spec h c.P c.X c.C c.K W cl s p w.gs.sx.wx) ?_
  rintro v' h1 ⟨x1, y1, hv1, hO1, hl1, hE1⟩
  generalize hL1 : shotF s W.vis cl = l1 at hv1 hO1 hl1
  subst hv1
  have w1 := w.new hE1
  try clear d0 d1 d2 d3 d4 d5 d6 d7 d8 dok
  obtain ⟨d0, d1, d2, d3, d4, d5, d6, d7, d8, dok⟩ := dq (w1.dd)
  have hs1 := hE1.1
  refine S_as rfl ?_
  refine S_nil (hK2 _ _ (V_keep [0, 1, 5] (by simp only [proj, lk, reduceIte, Nat.reduceEqDiff]; rfl) ?_)); clear hK2
  refine V_sr T.mix (by kernel_rfl) (fun K3 hK3 => ?_)
  refine S_mv rfl ?_
  refine S_nc rfl ?_
  first | refine S_fa0 T.f40_0 rfl ?_ | refine S_fa T.f40_0 rfl ?_
  refine S_ldnK T.ag34 rfl (fun K' hK' => ?_)
  simp (disch := omega) only [d0, d1, d2, d3, d4, d5, d6, d7, d8, a0, a1, a2, a3, a4, a5, a6, m0, m1, m2, m3, m4, m5, m6, v0, oPs_cons, oPs_nil, oP_some, Nat.reduceAdd, Nat.add_zero]
  refine hK' _ ?_; clear hK' K'
  refine S_call T.hb28 rfl ?_
  refine FC.mono (mark_spec_ h1 c.P c.X c.C c.K) ?_
  rintro v' h2 ⟨rfl, hE2⟩
  have w2 := w1.new hE2
  try clear d0 d1 d2 d3 d4 d5 d6 d7 d8 dok
  obtain ⟨d0, d1, d2, d3, d4, d5, d6, d7, d8, dok⟩ := dq (w2.dd)
  have hs2 := hE2.1
  refine S_nil (hK3 _ _ (V_keep [0, 1, 5] (by simp only [proj, lk, reduceIte, Nat.reduceEqDiff]; rfl) ?_)); clear hK3
  refine V_sr T.mix (by kernel_rfl) (fun K4 hK4 => ?_)
  refine S_mv rfl ?_
  refine S_nc rfl ?_
  first | refine S_fa0 T.f40_1 rfl ?_ | refine S_fa T.f40_1 rfl ?_
  refine S_ldK T.ag35 rfl (fun K' hK' => ?_)
  simp (disch := omega) only [d0, d1, d2, d3, d4, d5, d6, d7, d8, a0, a1, a2, a3, a4, a5, a6, m0, m1, m2, m3, m4, m5, m6, v0, oP_some, Nat.add_zero]
  refine hK' _ ?_; clear hK' K'
  refine S_mv rfl ?_
  refine S_call T.hb29 rfl ?_
  refine FC.mono (xsolve_spec h2 c.V c.P c.X c.C c.K la lc Q W cl s p pa pc w2.gs t hp) ?_
  rintro v' h3 ⟨la5, lc5, Q5, W5, cl5, s5, p5, pa5, pc5, gs3, hp5, gx3, han⟩
  obtain ⟨e, q, sb, xm, mn, pf, cf, rs, rfl, he, hq, hcs⟩ := han.uni
  have w3 := w2.solved gs3 gx3
  have hs3 := gx3.1.1
  have hZ3 : Ext (fun z => c.base ≤ z) h h3 := ((hE1.mono fun _ f => f.elim).trans (hE2.mono fun _ f => f.elim)).trans (gx3.1.mono fun z f => by rcases f with f | f | f | f | f | f | f; (omega); (omega); (omega); (omega); (omega); (have h9 := w.hla z f; omega); (have h9 := w.hpa z f; omega))
  have hO3 : OwnR h.size h3 x1 l1.length y1 (ints l1) 3 1 := OwnR.ext (OwnR.ext hO1 hE2 (fun _ _ f => f)) gx3.1 (fun b eb f => by
    have hb9 := OwnR.blk2 hO1 (show blkA x1 = some b by rw [eb]; rfl)
    rcases f with f | f | f | f | f | f | f
    · omega
    · omega
    · omega
    · omega
    · omega
    · have h9 := (OwnR.blk2 w.gs.sx.lo f).2; omega
    · have h9 := (OwnR.blk2 w.gs.pr.ar f).2; omega)
  refine S_allocA T.z82 ?_
  generalize hh : Array.push h3 _ = h4
  have hA4 : B h4 h3.size #[.int .i64 0, .int .i64 0, .bool false, .slice none 0 0, .string ⟨#[]⟩, .int .i64 0, .int .i64 0] 82 := by rw [← hh]; exact B.new _ _ _
  have hEh4 : Ext (fun _ => False) h3 h4 := by rw [← hh]; exact Ext.push _ _ _
  have hsh4 : h4.size = h3.size + 1 := by rw [← hh]; simp
  clear hh
  have aok : ∀ j, j < 7 → okPut h4 ⟨h3.size, j, none⟩ = true := fun j hj => hA4.ok (by simpa using hj)
  refine S_stl T.sz82 rfl rfl rfl rfl (fun j hj => by simp (disch := omega) only [aok, mok, vok]) ?_
  generalize hh : putsH _ _ _ _ = h5
  have hAh5 : B h5 (h3.size) #[.int .i64 (e : Int), .int .i64 (q : Int), .bool sb, .slice xm mn mn, .string pf, .int .i64 (cf : Int), .int .i64 (rs : Int)] 82 := by rw [← hh]; exact B.puts_all (hA4) (cs' := #[.int .i64 (e : Int), .int .i64 (q : Int), .bool sb, .slice xm mn mn, .string pf, .int .i64 (cf : Int), .int .i64 (rs : Int)]) rfl
  have hEh5 : Ext (fun k => k = h3.size) h4 h5 := by rw [← hh]; exact Ext.puts (S := fun k => k = h3.size) rfl _ _ _
  clear hh
  have hE35 : Ext (fun _ => False) h3 h5 := hEh4.step hEh5 (fun z hz k => by omega)
  have wh5 := w3.new hE35
  try clear a0 a1 a2 a3 a4 a5 a6
  obtain ⟨a0, a1, a2, a3, a4, a5, a6⟩ := aq7 (hAh5)
  try clear d0 d1 d2 d3 d4 d5 d6 d7 d8 dok
  obtain ⟨d0, d1, d2, d3, d4, d5, d6, d7, d8, dok⟩ := dq (wh5.dd)
  have hZh5 : Ext (fun z => c.base ≤ z) h h5 := hZ3.trans (hE35.mono fun _ f => f.elim)
  have hs5 := hE35.1
  have aok := True.intro
  refine S_nil (hK4 _ _ (V_keep [0, 1, 5, 6] (by simp only [proj, lk, reduceIte, Nat.reduceEqDiff]; rfl) ?_)); clear hK4
  refine V_sr T.mix (by kernel_rfl) (fun K5 hK5 => ?_)
  refine S_mv rfl ?_
  refine S_call T.hb10 rfl ?_
  refine FC.mono (untouched_spec h5 c la5 lc5 Q5 W5 cl5 s5 p5 pa5 pc5 txt ma mc mine wh5) ?_
  rintro v' h' ⟨rfl, rfl⟩
  refine S_as rfl ?_
  refine S_nil (hK5 _ _ (V_keep [0, 1, 5, 6, 7] (by simp only [proj, lk, reduceIte, Nat.reduceEqDiff]; rfl) ?_)); clear hK5
  refine V_seq (fun K6 hK6 => ?_)
  refine V_sr T.mix (by kernel_rfl) (fun K7 hK7 => ?_)
  refine S_mv rfl ?_
  refine S_notb rfl ?_
  refine S_nil (hK7 _ _ (V_keep [0, 1, 5, 6, 35] (by simp only [proj, lk, reduceIte, Nat.reduceEqDiff]; rfl) ?_)); clear hK7
  refine V_condb rfl (fun c352 => ?_) (fun c352 => ?_)
  · skip
    exfalso; simp at c352
  · skip
    refine V_skipk [0, 1, 5, 6] (by simp only [proj, lk, reduceIte, Nat.reduceEqDiff]; rfl) ?_
    refine hK6 _ _ ?_; clear hK6
    refine V_sr T.mix (by kernel_rfl) (fun K8 hK8 => ?_)
    refine S_mv rfl ?_
    refine S_nc rfl ?_
    first | refine S_fa0 T.f40_2 rfl ?_ | refine S_fa T.f40_2 rfl ?_
    refine S_ldK T.ag36 rfl (fun K' hK' => ?_)
    simp (disch := omega) only [d0, d1, d2, d3, d4, d5, d6, d7, d8, a0, a1, a2, a3, a4, a5, a6, m0, m1, m2, m3, m4, m5, m6, v0, oP_some, Nat.add_zero]
    refine hK' _ ?_; clear hK' K'
    refine S_mv rfl ?_
    refine S_call T.hb30 rfl ?_
    obtain ⟨u_, w_, hmm⟩ := wh5.mm
    refine FC.mono (ChkW.solve2_spec h5 c.Sv c.M wh5.sv u_ w_ hmm (by omega) t) ?_
    rintro v' h6 ⟨e2, q2_, sb2, xm2, mn2, mc2, pf2, rfl, _, hE6, ⟨he2, hq2, hsb2⟩, hmm6⟩
    have wh6 := wh5.model hE6 hmm6
    have hs6 := hE6.1
    have hAh6 := hAh5.ext hE6 (fun f => by omega)
    have hZh6 : Ext (fun z => c.base ≤ z) h h6 := hZh5.trans (hE6.mono fun z f => by omega)
    have hsbe : sb2 = sb := by
      rcases hcs with ⟨z1, z2, _⟩ | ⟨z1, r, n, f, lr, sc, _, _, _, z5, z6⟩
      · rcases hsb2 with q9 | q9
        · rw [z2, q9.2]
        · omega
      · rcases hsb2 with q9 | q9
        · omega
        · exact sb_eq (by omega) sc (fun k => ⟨(z5 k).2.2.2.2.1, (z5 k).2.2.2.2.2⟩) (fun k => (z6 k).2.2.2) q9.2
    rw [show e2 = e by omega, show q2_ = q by omega, hsbe]
    refine S_allocA T.z82 ?_
    generalize hh : Array.push h6 _ = h7
    have hM7 : B h7 h6.size #[.int .i64 0, .int .i64 0, .bool false, .slice none 0 0, .string ⟨#[]⟩, .int .i64 0, .int .i64 0] 82 := by rw [← hh]; exact B.new _ _ _
    have hEh7 : Ext (fun _ => False) h6 h7 := by rw [← hh]; exact Ext.push _ _ _
    have hsh7 : h7.size = h6.size + 1 := by rw [← hh]; simp
    clear hh
    have mok : ∀ j, j < 7 → okPut h7 ⟨h6.size, j, none⟩ = true := fun j hj => hM7.ok (by simpa using hj)
    refine S_stl T.sz82 rfl rfl rfl rfl (fun j hj => by simp (disch := omega) only [aok, mok, vok]) ?_
    generalize hh : putsH _ _ _ _ = h8
    have hMh8 : B h8 (h6.size) #[.int .i64 (e : Int), .int .i64 (q : Int), .bool sb, .slice xm2 mn2 mc2, .string pf2, .int .i64 0, .int .i64 0] 82 := by rw [← hh]; exact B.puts_all (hM7) (cs' := #[.int .i64 (e : Int), .int .i64 (q : Int), .bool sb, .slice xm2 mn2 mc2, .string pf2, .int .i64 0, .int .i64 0]) rfl
    have hEh8 : Ext (fun k => k = h6.size) h7 h8 := by rw [← hh]; exact Ext.puts (S := fun k => k = h6.size) rfl _ _ _
    clear hh
    have hEh8_ : Ext (fun _ => False) h6 h8 := hEh7.step hEh8 (fun z hz k => by omega)
    have wh8 := wh6.new hEh8_
    have hAh8 := hAh6.ext hEh8_ (fun f => f)
    try clear a0 a1 a2 a3 a4 a5 a6
    clear m0 m1 m2 m3 m4 m5 m6
    obtain ⟨a0, a1, a2, a3, a4, a5, a6⟩ := aq7 (hAh8)
    obtain ⟨m0, m1, m2, m3, m4, m5, m6⟩ := aq7 (hMh8)
    try clear d0 d1 d2 d3 d4 d5 d6 d7 d8 dok
    obtain ⟨d0, d1, d2, d3, d4, d5, d6, d7, d8, dok⟩ := dq (wh8.dd)
    have hZh8 : Ext (fun z => c.base ≤ z) h h8 := hZh6.trans (hEh8_.mono fun _ f => f.elim)
    have mok := True.intro
    have hs8 := hEh8_.1
    refine S_nil (hK8 _ _ (V_keep [0, 1, 5, 6, 8] (by simp only [proj, lk, reduceIte, Nat.reduceEqDiff]; rfl) ?_)); clear hK8
    refine V_seq (fun K9 hK9 => ?_)
    refine V_sr T.mix (by kernel_rfl) (fun K10 hK10 => ?_)
    refine S_ldnK T.ag82 rfl (fun K' hK' => ?_)
    simp (disch := omega) only [d0, d1, d2, d3, d4, d5, d6, d7, d8, a0, a1, a2, a3, a4, a5, a6, m0, m1, m2, m3, m4, m5, m6, v0, oPs_cons, oPs_nil, oP_some, Nat.reduceAdd, Nat.add_zero]
    refine hK' _ ?_; clear hK' K'
    refine S_ldnK T.ag82 rfl (fun K' hK' => ?_)
    simp (disch := omega) only [d0, d1, d2, d3, d4, d5, d6, d7, d8, a0, a1, a2, a3, a4, a5, a6, m0, m1, m2, m3, m4, m5, m6, v0, oPs_cons, oPs_nil, oP_some, Nat.reduceAdd, Nat.add_zero]
    refine hK' _ ?_; clear hK' K'
    refine S_call T.hb31 rfl ?_
    refine FC.mono (same_spec h8 (e : Int) (q : Int) sb xm mn mn pf (cf : Int) (rs : Int) xm2 mn2 mc2 pf2 0 0) ?_
    rintro v' h9 ⟨rfl, hEh9⟩
    have wh9 := wh8.new hEh9
    try clear d0 d1 d2 d3 d4 d5 d6 d7 d8 dok
    obtain ⟨d0, d1, d2, d3, d4, d5, d6, d7, d8, dok⟩ := dq (wh9.dd)
    have hAh9 := hAh8.ext hEh9 (fun f => f)
    try clear a0 a1 a2 a3 a4 a5 a6
    obtain ⟨a0, a1, a2, a3, a4, a5, a6⟩ := aq7 (hAh9)
    have hZh9 : Ext (fun z => c.base ≤ z) h h9 := hZh8.trans (hEh9.mono fun _ f => f.elim)
    have hsh9 := hEh9.1
    refine S_notb rfl ?_
    refine S_nil (hK10 _ _ (V_keep [0, 1, 5, 6, 45] (by simp only [proj, lk, reduceIte, Nat.reduceEqDiff]; rfl) ?_)); clear hK10
    refine V_condb rfl (fun c356 => ?_) (fun c356 => ?_)
    · skip
      exfalso; simp at c356
    · skip
      refine V_skipk [0, 1, 5, 6] (by simp only [proj, lk, reduceIte, Nat.reduceEqDiff]; rfl) ?_
      refine hK9 _ _ ?_; clear hK9
      refine V_sr T.mix (by kernel_rfl) (fun K11 hK11 => ?_)
      refine S_mv rfl ?_
      refine S_call T.hb32 rfl ?_
      refine FC.mono (refusal_spec h9 t) ?_
      rintro v' h10 ⟨rfl, hEh10⟩
      rw [← he, ← hq]
      have wh10 := wh9.new hEh10
      try clear d0 d1 d2 d3 d4 d5 d6 d7 d8 dok
      obtain ⟨d0, d1, d2, d3, d4, d5, d6, d7, d8, dok⟩ := dq (wh10.dd)
      have hAh10 := hAh9.ext hEh10 (fun f => f)
      try clear a0 a1 a2 a3 a4 a5 a6
      obtain ⟨a0, a1, a2, a3, a4, a5, a6⟩ := aq7 (hAh10)
      have hZh10 : Ext (fun z => c.base ≤ z) h h10 := hZh9.trans (hEh10.mono fun _ f => f.elim)
      have hsh10 := hEh10.1
      refine S_mv rfl ?_
      refine S_ex rfl rfl ?_
      refine S_ex rfl rfl ?_
      refine S_as rfl ?_
      refine S_as rfl ?_
      refine S_nil (hK11 _ _ (V_keep [0, 1, 5, 6, 9, 10] (by simp only [proj, lk, reduceIte, Nat.reduceEqDiff]; rfl) ?_)); clear hK11
      refine V_seq (fun K12 hK12 => ?_)
      refine V_sr T.mix (by kernel_rfl) (fun K13 hK13 => ?_)
      first | refine S_fa0 T.f82_0 rfl ?_ | refine S_fa T.f82_0 rfl ?_
      refine S_ldK T.ag54 rfl (fun K' hK' => ?_)
      simp (disch := omega) only [d0, d1, d2, d3, d4, d5, d6, d7, d8, a0, a1, a2, a3, a4, a5, a6, m0, m1, m2, m3, m4, m5, m6, v0, oP_some, Nat.add_zero]
      refine hK' _ ?_; clear hK' K'
      refine S_mv rfl ?_
      refine S_bin rfl rfl rfl ?_
      refine S_mv rfl ?_
      refine S_dec (fun g360 => ?_) (fun g360 => ?_)
      · skip
        exfalso; exact g360 rfl
      · skip
        refine S_gt rfl ?_
        first | refine S_fa0 T.f82_1 rfl ?_ | refine S_fa T.f82_1 rfl ?_
        refine S_gt rfl ?_
        refine S_ldK T.ag3 rfl (fun K' hK' => ?_)
        simp (disch := omega) only [d0, d1, d2, d3, d4, d5, d6, d7, d8, a0, a1, a2, a3, a4, a5, a6, m0, m1, m2, m3, m4, m5, m6, v0, oP_some, Nat.add_zero]
        refine hK' _ ?_; clear hK' K'
        refine S_gt rfl ?_
        refine S_mv rfl ?_
        refine S_gt rfl ?_
        refine S_bin rfl rfl rfl ?_
        refine S_pf rfl rfl ?_
        refine S_nil (hK13 _ _ (V_keep [0, 1, 5, 6, 60] (by simp only [proj, lk, reduceIte, Nat.reduceEqDiff]; rfl) ?_)); clear hK13
        refine V_condp rfl (fun c360 => ?_) (fun c360 => ?_)
        · skip
          exfalso; exact c360 rfl
        · skip
          refine V_skipk [0, 1, 5, 6] (by simp only [proj, lk, reduceIte, Nat.reduceEqDiff]; rfl) ?_
          refine hK12 _ _ ?_; clear hK12
          refine V_seq (fun K14 hK14 => ?_)
          refine V_sr T.mix (by kernel_rfl) (fun K15 hK15 => ?_)
          refine S_mv rfl ?_
          refine S_nc rfl ?_
          first | refine S_fa0 T.f40_0 rfl ?_ | refine S_fa T.f40_0 rfl ?_
          refine S_ldnK T.ag34 rfl (fun K' hK' => ?_)
          simp (disch := omega) only [d0, d1, d2, d3, d4, d5, d6, d7, d8, a0, a1, a2, a3, a4, a5, a6, m0, m1, m2, m3, m4, m5, m6, v0, oPs_cons, oPs_nil, oP_some, Nat.reduceAdd, Nat.add_zero]
          refine hK' _ ?_; clear hK' K'
          refine S_ldnK T.ag82 rfl (fun K' hK' => ?_)
          simp (disch := omega) only [d0, d1, d2, d3, d4, d5, d6, d7, d8, a0, a1, a2, a3, a4, a5, a6, m0, m1, m2, m3, m4, m5, m6, v0, oPs_cons, oPs_nil, oP_some, Nat.reduceAdd, Nat.add_zero]
          refine hK' _ ?_; clear hK' K'
          refine S_call T.hb33 rfl ?_
          refine FC.mono (worked_spec h10 c.P c.X c.C c.K (e : Int) (q : Int) sb xm mn mn pf (cf : Int) (rs : Int)) ?_
          rintro v' h11 ⟨rfl, hEh11⟩
          have wh11 := wh10.new hEh11
          try clear d0 d1 d2 d3 d4 d5 d6 d7 d8 dok
          obtain ⟨d0, d1, d2, d3, d4, d5, d6, d7, d8, dok⟩ := dq (wh11.dd)
          have hAh11 := hAh10.ext hEh11 (fun f => f)
          try clear a0 a1 a2 a3 a4 a5 a6
          obtain ⟨a0, a1, a2, a3, a4, a5, a6⟩ := aq7 (hAh11)
          have hZh11 : Ext (fun z => c.base ≤ z) h h11 := hZh10.trans (hEh11.mono fun _ f => f.elim)
          have hsh11 := hEh11.1
          refine S_notb rfl ?_
          refine S_nil (hK15 _ _ (V_keep [0, 1, 5, 6, 67] (by simp only [proj, lk, reduceIte, Nat.reduceEqDiff]; rfl) ?_)); clear hK15
          refine V_condb rfl (fun c363 => ?_) (fun c363 => ?_)
          · skip
            exfalso; simp at c363
          · skip
            refine V_skipk [0, 1, 5, 6] (by simp only [proj, lk, reduceIte, Nat.reduceEqDiff]; rfl) ?_
            refine hK14 _ _ ?_; clear hK14
            refine V_seq (fun K16 hK16 => ?_)
            refine V_sr T.mix (by kernel_rfl) (fun K17 hK17 => ?_)
            refine S_mv rfl ?_
            refine S_nc rfl ?_
            first | refine S_fa0 T.f40_0 rfl ?_ | refine S_fa T.f40_0 rfl ?_
            refine S_ldnK T.ag34 rfl (fun K' hK' => ?_)
            simp (disch := omega) only [d0, d1, d2, d3, d4, d5, d6, d7, d8, a0, a1, a2, a3, a4, a5, a6, m0, m1, m2, m3, m4, m5, m6, v0, oPs_cons, oPs_nil, oP_some, Nat.reduceAdd, Nat.add_zero]
            refine hK' _ ?_; clear hK' K'
            refine S_ldnK T.ag82 rfl (fun K' hK' => ?_)
            simp (disch := omega) only [d0, d1, d2, d3, d4, d5, d6, d7, d8, a0, a1, a2, a3, a4, a5, a6, m0, m1, m2, m3, m4, m5, m6, v0, oPs_cons, oPs_nil, oP_some, Nat.reduceAdd, Nat.add_zero]
            refine hK' _ ?_; clear hK' K'
            refine S_call T.hb34 rfl ?_
            refine FC.mono (spoken_spec h11 c.P c.X c.C c.K (e : Int) (q : Int) sb xm mn mn pf (cf : Int) (rs : Int)) ?_
            rintro v' h12 ⟨rfl, hEh12⟩
            have wh12 := wh11.new hEh12
            try clear d0 d1 d2 d3 d4 d5 d6 d7 d8 dok
            obtain ⟨d0, d1, d2, d3, d4, d5, d6, d7, d8, dok⟩ := dq (wh12.dd)
            have hAh12 := hAh11.ext hEh12 (fun f => f)
            try clear a0 a1 a2 a3 a4 a5 a6
            obtain ⟨a0, a1, a2, a3, a4, a5, a6⟩ := aq7 (hAh12)
            have hZh12 : Ext (fun z => c.base ≤ z) h h12 := hZh11.trans (hEh12.mono fun _ f => f.elim)
            have hsh12 := hEh12.1
            refine S_notb rfl ?_
            refine S_nil (hK17 _ _ (V_keep [0, 1, 5, 6, 74] (by simp only [proj, lk, reduceIte, Nat.reduceEqDiff]; rfl) ?_)); clear hK17
            refine V_condb rfl (fun c366 => ?_) (fun c366 => ?_)
            · skip
              exfalso; simp at c366
            · skip
              refine V_skipk [0, 1, 5, 6] (by simp only [proj, lk, reduceIte, Nat.reduceEqDiff]; rfl) ?_
              refine hK16 _ _ ?_; clear hK16
              refine V_seq (fun K18 hK18 => ?_)
              refine V_sr T.mix (by kernel_rfl) (fun K19 hK19 => ?_)
              first | refine S_fa0 T.f82_0 rfl ?_ | refine S_fa T.f82_0 rfl ?_
              refine S_ldK T.ag54 rfl (fun K' hK' => ?_)
              simp (disch := omega) only [d0, d1, d2, d3, d4, d5, d6, d7, d8, a0, a1, a2, a3, a4, a5, a6, m0, m1, m2, m3, m4, m5, m6, v0, oP_some, Nat.add_zero]
              refine hK' _ ?_; clear hK' K'
              refine S_bin rfl rfl rfl ?_
              refine S_nil (hK19 _ _ (V_keep [0, 1, 5, 6, 77] (by simp only [proj, lk, reduceIte, Nat.reduceEqDiff]; rfl) ?_)); clear hK19
              refine V_condp rfl (fun c369 => ?_) (fun c369 => ?_)
              · skip
                obtain ⟨_, rfl, rfl, rfl, rfl, rfl, rfl, rfl, rfl, rfl, rfl⟩ : e ≠ 0 ∧ sb = false ∧ xm = none ∧ mn = 0 ∧ pf = ⟨#[]⟩ ∧ cf = 0 ∧ rs = 0 ∧ W5 = W ∧ cl5 = cl ∧ s5 = s ∧ p5 = p := by
                  rcases hcs with z | z
                  · exact z
                  · omega
                have hO12 := OwnR.ext (OwnR.ext (OwnR.ext (OwnR.ext (OwnR.ext (OwnR.ext (OwnR.ext hO3 hE35 (fun _ _ f => f)) hE6 (fun b k f => by have h9 := OwnR.blk2 hO3 (show blkA x1 = some b by rw [k]; rfl); omega)) hEh8_ (fun _ _ f => f)) hEh9 (fun _ _ f => f)) hEh10 (fun _ _ f => f)) hEh11 (fun _ _ f => f)) hEh12 (fun _ _ f => f)
                refine V_seq (fun K20 hK20 => ?_)
                refine V_sr T.mix (by kernel_rfl) (fun K21 hK21 => ?_)
                refine S_ldnK T.ag82 rfl (fun K' hK' => ?_)
                simp (disch := omega) only [d0, d1, d2, d3, d4, d5, d6, d7, d8, a0, a1, a2, a3, a4, a5, a6, m0, m1, m2, m3, m4, m5, m6, v0, oPs_cons, oPs_nil, oP_some, Nat.reduceAdd, Nat.add_zero]
                refine hK' _ ?_; clear hK' K'
                refine S_call T.hb35 rfl ?_
                refine FC.mono (bare_spec h12 (e : Int) (q : Int)) ?_
                rintro v' he1 ⟨rfl, hEhe1⟩
                have whe1 := wh12.new hEhe1
                try clear d0 d1 d2 d3 d4 d5 d6 d7 d8 dok
                obtain ⟨d0, d1, d2, d3, d4, d5, d6, d7, d8, dok⟩ := dq (whe1.dd)
                have hOe := OwnR.ext hO12 hEhe1 (fun _ _ f => f)
                refine S_notb rfl ?_
                refine S_nil (hK21 _ _ (V_keep [0, 5, 80] (by simp only [proj, lk, reduceIte, Nat.reduceEqDiff]; rfl) ?_)); clear hK21
                refine V_condb rfl (fun c370 => ?_) (fun c370 => ?_)
                · skip
                  exfalso; simp at c370
                · skip
                  refine V_skipk [0, 5] (by simp only [proj, lk, reduceIte, Nat.reduceEqDiff]; rfl) ?_
                  refine hK20 _ _ ?_; clear hK20
                  refine V_sr T.mix (by kernel_rfl) (fun K22 hK22 => ?_)
                  refine S_mv rfl ?_
                  refine S_nc rfl ?_
                  first | refine S_fa0 T.f40_0 rfl ?_ | refine S_fa T.f40_0 rfl ?_
                  refine S_ldnK T.ag34 rfl (fun K' hK' => ?_)
                  simp (disch := omega) only [d0, d1, d2, d3, d4, d5, d6, d7, d8, a0, a1, a2, a3, a4, a5, a6, m0, m1, m2, m3, m4, m5, m6, v0, oPs_cons, oPs_nil, oP_some, Nat.reduceAdd, Nat.add_zero]
                  refine hK' _ ?_; clear hK' K'
                  refine S_call T.hb27 rfl ?_
                  refine FC.mono (shot_spec he1 c.P c.X c.C c.K W5 cl5 s5 p5 whe1.gs.sx.wx) ?_
                  rintro v' he2 ⟨x2, y2, hv2, hO2, _, hE2_⟩
                  rw [hL1] at hv2 hO2
                  subst hv2
                  refine S_as rfl ?_
                  refine S_nil (hK22 _ _ (V_keep [5, 11] (by simp only [proj, lk, reduceIte, Nat.reduceEqDiff]; rfl) ?_)); clear hK22
                  refine V_sr T.mix (by kernel_rfl) (fun K23 hK23 => ?_)
                  refine S_mv rfl ?_
                  refine S_mv rfl ?_
                  refine S_call T.hb36 rfl ?_
                  refine FC.mono (sameints_spec he2 x1 x2 y1 y2 l1 l1 (own0 (OwnR.ext hOe hE2_ (fun _ _ f => f))) (own0 hO2) (by omega) (by omega)) ?_
                  rintro v' h' ⟨rfl, rfl⟩
                  refine S_as rfl ?_
                  refine S_nil (hK23 _ _ (V_keep [4] (by simp only [proj, lk, reduceIte, Nat.reduceEqDiff]; rfl) ?_)); clear hK23
                  refine V_ret ?_
                  refine hR _ _ (ret1 rfl rfl ?_)
                  exact ⟨by simp, la5, lc5, Q5, W5, cl5, s5, p5, pa5, pc5, ma, mc, mine, whe1.new hE2_, by omega, (hZh12.trans (hEhe1.mono fun _ f => f.elim)).trans (hE2_.mono fun _ f => f.elim)⟩
              · skip
                obtain ⟨_, r, n, f, lr, sc, np, hrs, hcf, hS, hU⟩ := hcs.resolve_left (fun z => z.1 (by omega))
                have hcok := cs_ok (t := t) (by omega)
                have hE3_12 : Ext (fun z => z = c.M) h3 h12 := ((((((hE35.mono fun _ f => f.elim).trans hE6).trans (hEh8_.mono fun _ f => f.elim)).trans (hEh9.mono fun _ f => f.elim)).trans (hEh10.mono fun _ f => f.elim)).trans (hEh11.mono fun _ f => f.elim)).trans (hEh12.mono fun _ f => f.elim)
                refine V_skipk [0, 1, 6] (by simp only [proj, lk, reduceIte, Nat.reduceEqDiff]; rfl) ?_
                refine hK18 _ _ ?_; clear hK18
                refine V_seq (fun K24 hK24 => ?_)
                refine V_sr T.mix (by kernel_rfl) (fun K25 hK25 => ?_)
                refine S_ldnK T.ag82 rfl (fun K' hK' => ?_)
                simp (disch := omega) only [d0, d1, d2, d3, d4, d5, d6, d7, d8, a0, a1, a2, a3, a4, a5, a6, m0, m1, m2, m3, m4, m5, m6, v0, oPs_cons, oPs_nil, oP_some, Nat.reduceAdd, Nat.add_zero]
                refine hK' _ ?_; clear hK' K'
                refine S_call T.hb37 rfl ?_
                refine FC.mono (gauges_spec h12 (e : Int) (q : Int) sb xm mn mn pf cf rs f hcf (by rw [hcf]; have h9 := np.le sc; split <;> omega) (by rw [hrs, due_eq sc.r4 sc.cf np.1])) ?_
                rintro v' h13 ⟨rfl, hEh13⟩
                have wh13 := wh12.new hEh13
                try clear d0 d1 d2 d3 d4 d5 d6 d7 d8 dok
                obtain ⟨d0, d1, d2, d3, d4, d5, d6, d7, d8, dok⟩ := dq (wh13.dd)
                have hAh13 := hAh12.ext hEh13 (fun f => f)
                try clear a0 a1 a2 a3 a4 a5 a6
                obtain ⟨a0, a1, a2, a3, a4, a5, a6⟩ := aq7 (hAh13)
                have hZh13 : Ext (fun z => c.base ≤ z) h h13 := hZh12.trans (hEh13.mono fun _ f => f.elim)
                have hsh13 := hEh13.1
                refine S_notb rfl ?_
                refine S_nil (hK25 _ _ (V_keep [0, 1, 6, 91] (by simp only [proj, lk, reduceIte, Nat.reduceEqDiff]; rfl) ?_)); clear hK25
                refine V_condb rfl (fun c376 => ?_) (fun c376 => ?_)
                · skip
                  exfalso; simp at c376
                · skip
                  refine V_skipk [0, 1, 6] (by simp only [proj, lk, reduceIte, Nat.reduceEqDiff]; rfl) ?_
                  refine hK24 _ _ ?_; clear hK24
                  refine V_sr T.mix (by kernel_rfl) (fun K26 hK26 => ?_)
                  refine S_mv rfl ?_
                  refine S_call T.hb38 rfl ?_
                  refine FC.mono (prob_spec h13 t) ?_
                  rintro v' h14 ⟨ca, cc, Lp, lo, rfl, hlo, hlv14, hLp, hEh14⟩
                  obtain rfl := hLp (by omega)
                  have wh14 := wh13.new hEh14
                  try clear d0 d1 d2 d3 d4 d5 d6 d7 d8 dok
                  obtain ⟨d0, d1, d2, d3, d4, d5, d6, d7, d8, dok⟩ := dq (wh14.dd)
                  have hAh14 := hAh13.ext hEh14 (fun f => f)
                  try clear a0 a1 a2 a3 a4 a5 a6
                  obtain ⟨a0, a1, a2, a3, a4, a5, a6⟩ := aq7 (hAh14)
                  have hZh14 : Ext (fun z => c.base ≤ z) h h14 := hZh13.trans (hEh14.mono fun _ f => f.elim)
                  have hsh14 := hEh14.1
                  have hE3_14 : Ext (fun z => z = c.M) h3 h14 := (hE3_12.trans (hEh13.mono fun _ f => f.elim)).trans (hEh14.mono fun _ f => f.elim)
                  have hxm2 : ∀ (k : sb = true) (z : Nat), blkA xm = some z → ¬ z = c.M := fun k z k2 k3 => by have h9 := ((hS k).2.2.2.1 z k2).1; omega
                  refine S_mv rfl ?_
                  refine S_ex rfl rfl ?_
                  refine S_ex rfl rfl ?_
                  refine S_ex rfl rfl ?_
                  refine S_as rfl ?_
                  refine S_as rfl ?_
                  refine S_as rfl ?_
                  refine S_nil (hK26 _ _ (V_keep [0, 1, 6, 12] (by simp only [proj, lk, reduceIte, Nat.reduceEqDiff]; rfl) ?_)); clear hK26
                  refine V_seq (fun K27 hK27 => ?_)
                  refine V_sr T.mix (by kernel_rfl) (fun K28 hK28 => ?_)
                  refine S_mv rfl ?_
                  refine S_nc rfl ?_
                  first | refine S_fa0 T.f40_0 rfl ?_ | refine S_fa T.f40_0 rfl ?_
                  refine S_ldnK T.ag34 rfl (fun K' hK' => ?_)
                  simp (disch := omega) only [d0, d1, d2, d3, d4, d5, d6, d7, d8, a0, a1, a2, a3, a4, a5, a6, m0, m1, m2, m3, m4, m5, m6, v0, oPs_cons, oPs_nil, oP_some, Nat.reduceAdd, Nat.add_zero]
                  refine hK' _ ?_; clear hK' K'
                  refine S_mv rfl ?_
                  refine S_ldnK T.ag82 rfl (fun K' hK' => ?_)
                  simp (disch := omega) only [d0, d1, d2, d3, d4, d5, d6, d7, d8, a0, a1, a2, a3, a4, a5, a6, m0, m1, m2, m3, m4, m5, m6, v0, oPs_cons, oPs_nil, oP_some, Nat.reduceAdd, Nat.add_zero]
                  refine hK' _ ?_; clear hK' K'
                  refine S_call T.hb39 rfl ?_
                  refine FC.mono (handed_spec h14 c.P c.X c.C c.K W5 cl5 s5 p5 wh14.gs.sx.wx ca cc lo h14.size (csOf t) hlv14 hcok.1 hcok.2 sc.pb sb xm mn mn pf (e : Int) (q : Int) (cf : Int) (rs : Int) (fun k => ⟨(hS k).1.ext hE3_14 (fun z k2 k3 => hxm2 k z k2 k3), (hS k).2.1, (hS k).2.2.2.2.1⟩)) ?_
                  rintro v' h15 ⟨rfl, hEh15⟩
                  have wh15 := wh14.new hEh15
                  try clear d0 d1 d2 d3 d4 d5 d6 d7 d8 dok
                  obtain ⟨d0, d1, d2, d3, d4, d5, d6, d7, d8, dok⟩ := dq (wh15.dd)
                  have hAh15 := hAh14.ext hEh15 (fun f => f)
                  try clear a0 a1 a2 a3 a4 a5 a6
                  obtain ⟨a0, a1, a2, a3, a4, a5, a6⟩ := aq7 (hAh15)
                  have hZh15 : Ext (fun z => c.base ≤ z) h h15 := hZh14.trans (hEh15.mono fun _ f => f.elim)
                  have hsh15 := hEh15.1
                  refine S_notb rfl ?_
                  refine S_nil (hK28 _ _ (V_keep [0, 1, 6, 12, 105] (by simp only [proj, lk, reduceIte, Nat.reduceEqDiff]; rfl) ?_)); clear hK28
                  refine V_condb rfl (fun c380 => ?_) (fun c380 => ?_)
                  · skip
                    exfalso; simp at c380
                  · skip
                    refine V_skipk [0, 1, 6, 12] (by simp only [proj, lk, reduceIte, Nat.reduceEqDiff]; rfl) ?_
                    refine hK27 _ _ ?_; clear hK27
                    refine V_seq (fun K29 hK29 => ?_)
                    refine V_sr T.mix (by kernel_rfl) (fun K30 hK30 => ?_)
                    refine S_mv rfl ?_
                    refine S_nc rfl ?_
                    first | refine S_fa0 T.f40_0 rfl ?_ | refine S_fa T.f40_0 rfl ?_
                    refine S_ldnK T.ag34 rfl (fun K' hK' => ?_)
                    simp (disch := omega) only [d0, d1, d2, d3, d4, d5, d6, d7, d8, a0, a1, a2, a3, a4, a5, a6, m0, m1, m2, m3, m4, m5, m6, v0, oPs_cons, oPs_nil, oP_some, Nat.reduceAdd, Nat.add_zero]
                    refine hK' _ ?_; clear hK' K'
                    refine S_ldnK T.ag82 rfl (fun K' hK' => ?_)
                    simp (disch := omega) only [d0, d1, d2, d3, d4, d5, d6, d7, d8, a0, a1, a2, a3, a4, a5, a6, m0, m1, m2, m3, m4, m5, m6, v0, oPs_cons, oPs_nil, oP_some, Nat.reduceAdd, Nat.add_zero]
                    refine hK' _ ?_; clear hK' K'
                    refine S_call T.hb40 rfl ?_
                    refine FC.mono (learnt_spec h15 c.P c.X c.C c.K (e : Int) (q : Int) sb xm mn mn pf (cf : Int) (rs : Int)) ?_
                    rintro v' h16 ⟨rfl, hEh16⟩
                    have wh16 := wh15.new hEh16
                    try clear d0 d1 d2 d3 d4 d5 d6 d7 d8 dok
                    obtain ⟨d0, d1, d2, d3, d4, d5, d6, d7, d8, dok⟩ := dq (wh16.dd)
                    have hAh16 := hAh15.ext hEh16 (fun f => f)
                    try clear a0 a1 a2 a3 a4 a5 a6
                    obtain ⟨a0, a1, a2, a3, a4, a5, a6⟩ := aq7 (hAh16)
                    have hZh16 : Ext (fun z => c.base ≤ z) h h16 := hZh15.trans (hEh16.mono fun _ f => f.elim)
                    have hsh16 := hEh16.1
                    refine S_notb rfl ?_
                    refine S_nil (hK30 _ _ (V_keep [0, 1, 6, 12, 112] (by simp only [proj, lk, reduceIte, Nat.reduceEqDiff]; rfl) ?_)); clear hK30
                    refine V_condb rfl (fun c383 => ?_) (fun c383 => ?_)
                    · skip
                      exfalso; simp at c383
                    · skip
                      refine V_skipk [0, 1, 6, 12] (by simp only [proj, lk, reduceIte, Nat.reduceEqDiff]; rfl) ?_
                      refine hK29 _ _ ?_; clear hK29
                      refine V_seq (fun K31 hK31 => ?_)
                      refine V_sr T.mix (by kernel_rfl) (fun K32 hK32 => ?_)
                      refine S_mv rfl ?_
                      refine S_nc rfl ?_
                      first | refine S_fa0 T.f40_0 rfl ?_ | refine S_fa T.f40_0 rfl ?_
                      refine S_ldnK T.ag34 rfl (fun K' hK' => ?_)
                      simp (disch := omega) only [d0, d1, d2, d3, d4, d5, d6, d7, d8, a0, a1, a2, a3, a4, a5, a6, m0, m1, m2, m3, m4, m5, m6, v0, oPs_cons, oPs_nil, oP_some, Nat.reduceAdd, Nat.add_zero]
                      refine hK' _ ?_; clear hK' K'
                      refine S_call T.hb41 rfl ?_
                      refine FC.mono (jumped_spec h16 c.P c.X c.C c.K) ?_
                      rintro v' hw ⟨rfl, hEhw⟩
                      have whw := wh16.new hEhw
                      try clear d0 d1 d2 d3 d4 d5 d6 d7 d8 dok
                      obtain ⟨d0, d1, d2, d3, d4, d5, d6, d7, d8, dok⟩ := dq (whw.dd)
                      have hAhw := hAh16.ext hEhw (fun f => f)
                      try clear a0 a1 a2 a3 a4 a5 a6
                      obtain ⟨a0, a1, a2, a3, a4, a5, a6⟩ := aq7 (hAhw)
                      have hZhw : Ext (fun z => c.base ≤ z) h hw := hZh16.trans (hEhw.mono fun _ f => f.elim)
                      have hshw := hEhw.1
                      have hlvw := ((hlv14.ext hEh15 (fun _ _ _ f => f)).ext hEh16 (fun _ _ _ f => f)).ext hEhw (fun _ _ _ f => f)
                      refine S_notb rfl ?_
                      refine S_nil (hK32 _ _ (V_keep [0, 1, 6, 12, 118] (by simp only [proj, lk, reduceIte, Nat.reduceEqDiff]; rfl) ?_)); clear hK32
                      refine V_condb rfl (fun c386 => ?_) (fun c386 => ?_)
                      · skip
                        exfalso; simp at c386
                      · skip
                        refine V_skipk [0, 1, 6, 12] (by simp only [proj, lk, reduceIte, Nat.reduceEqDiff]; rfl) ?_
                        refine hK31 _ _ ?_; clear hK31
                        refine V_seq (fun K33 hK33 => ?_)
                        refine V_sr T.mix (by kernel_rfl) (fun K34 hK34 => ?_)
                        first | refine S_fa0 T.f82_2 rfl ?_ | refine S_fa T.f82_2 rfl ?_
                        refine S_ldK T.ag4 rfl (fun K' hK' => ?_)
                        simp (disch := omega) only [d0, d1, d2, d3, d4, d5, d6, d7, d8, a0, a1, a2, a3, a4, a5, a6, m0, m1, m2, m3, m4, m5, m6, v0, oP_some, Nat.add_zero]
                        refine hK' _ ?_; clear hK' K'
                        refine S_nil (hK34 _ _ (V_keep [0, 1, 6, 12, 120] (by simp only [proj, lk, reduceIte, Nat.reduceEqDiff]; rfl) ?_)); clear hK34
                        refine V_condb rfl (fun c389 => ?_) (fun c389 => ?_)
                        · skip
                          have hsbt : sb = true := by simpa using c389
                          obtain ⟨rfl, rfl⟩ : mn = 12 ∧ pf = ⟨#[]⟩ := ⟨(hS hsbt).2.1, (hS hsbt).2.2.1⟩
                          subst hsbt
                          have hsbt : true = true := rfl
                          have hE3_w : Ext (fun z => z = c.M) h3 hw := (((hE3_14.trans (hEh15.mono fun _ f => f.elim)).trans (hEh16.mono fun _ f => f.elim)).trans (hEhw.mono fun _ f => f.elim))
                          refine V_seq (fun K35 hK35 => ?_)
                          refine V_sr T.mix (by kernel_rfl) (fun K36 hK36 => ?_)
                          refine S_mv rfl ?_
                          refine S_ldnK T.ag82 rfl (fun K' hK' => ?_)
                          simp (disch := omega) only [d0, d1, d2, d3, d4, d5, d6, d7, d8, a0, a1, a2, a3, a4, a5, a6, m0, m1, m2, m3, m4, m5, m6, v0, oPs_cons, oPs_nil, oP_some, Nat.reduceAdd, Nat.add_zero]
                          refine hK' _ ?_; clear hK' K'
                          refine S_call T.hb42 rfl ?_
                          refine FC.mono (witness_spec hw ca cc lo h14.size (csOf t) hlvw hcok.1 hcok.2 s5 xm ((hS hsbt).1.ext hE3_w (fun z k2 k3 => hxm2 hsbt z k2 k3)) (full_sat sc (hS hsbt).2.2.2.2.2 (hS hsbt).2.2.2.2.1) (e : Int) (q : Int) (cf : Int) (rs : Int)) ?_
                          rintro v' hx ⟨rfl, hEhx⟩
                          have whx := whw.new hEhx
                          try clear d0 d1 d2 d3 d4 d5 d6 d7 d8 dok
                          obtain ⟨d0, d1, d2, d3, d4, d5, d6, d7, d8, dok⟩ := dq (whx.dd)
                          have hAhx := hAhw.ext hEhx (fun f => f)
                          try clear a0 a1 a2 a3 a4 a5 a6
                          obtain ⟨a0, a1, a2, a3, a4, a5, a6⟩ := aq7 (hAhx)
                          have hZhx : Ext (fun z => c.base ≤ z) h hx := hZhw.trans (hEhx.mono fun _ f => f.elim)
                          have hshx := hEhx.1
                          refine S_notb rfl ?_
                          refine S_nil (hK36 _ _ (V_keep [0, 6, 124] (by simp only [proj, lk, reduceIte, Nat.reduceEqDiff]; rfl) ?_)); clear hK36
                          refine V_condb rfl (fun c390 => ?_) (fun c390 => ?_)
                          · skip
                            exfalso; simp at c390
                          · skip
                            refine V_skipk [0, 6] (by simp only [proj, lk, reduceIte, Nat.reduceEqDiff]; rfl) ?_
                            refine hK35 _ _ ?_; clear hK35
                            refine V_sr T.mix (by kernel_rfl) (fun K37 hK37 => ?_)
                            refine S_mv rfl ?_
                            first | refine S_fa0 T.f82_3 rfl ?_ | refine S_fa T.f82_3 rfl ?_
                            refine S_ldK T.ag49 rfl (fun K' hK' => ?_)
                            simp (disch := omega) only [d0, d1, d2, d3, d4, d5, d6, d7, d8, a0, a1, a2, a3, a4, a5, a6, m0, m1, m2, m3, m4, m5, m6, v0, oP_some, Nat.add_zero]
                            refine hK' _ ?_; clear hK' K'
                            refine S_call T.hb43 rfl ?_
                            have hxm := (hS hsbt).2.2.2.1
                            refine FC.mono (own_spec hx c la5 lc5 Q5 W5 cl5 s5 p5 pa5 pc5 txt ma mc mine whx xm (mdF s5) (md_len s5) ((hS hsbt).1.ext (hE3_w.trans (hEhx.mono fun _ f => f.elim)) (fun z k2 k3 => hxm2 hsbt z k2 k3)) (fun z k => ⟨by have h9 := (hxm z k).1; omega, (hxm z k).2.1, (hxm z k).2.2, fun k2 => by have h9 := (hxm z k).1; have h8 := (OwnR.blk2 w.mi k2).2; omega⟩) (fun a ha z k k2 => by have h9 := (hxm z k).1; have h8 := (w.kp a ha).1.lt k2; omega)) ?_
                            rintro v' h9_ ⟨rfl, ma9, mc9, mine9, w9, hE9⟩
                            refine S_nil (hK37 _ _ (V_keep [] (by simp only [proj, lk, reduceIte, Nat.reduceEqDiff]; rfl) ?_)); clear hK37
                            refine V_sr T.mix (by kernel_rfl) (fun K38 hK38 => ?_)
                            refine S_as rfl ?_
                            refine S_nil (hK38 _ _ (V_keep [4] (by simp only [proj, lk, reduceIte, Nat.reduceEqDiff]; rfl) ?_)); clear hK38
                            refine V_ret ?_
                            refine hR _ _ (ret1 rfl rfl ?_)
                            exact ⟨rfl, la5, lc5, Q5, W5, cl5, s5, p5, pa5, pc5, ma9, mc9, mine9, w9, hp5, hZhx.trans (hE9.mono fun z k => by omega)⟩
                        · skip
                          have hsbf : sb = false := by simpa using c389
                          obtain ⟨hxm0, hmn0, hpf, hnf⟩ := hU hsbf
                          have hcfe : cf = f + 1 := by rw [hcf, hsbf]; simp
                          have hlast := sc.last hnf
                          have hfl9 : (flatR (lr ++ [(false, [])])).length ≤ 262144 := by have h9 := sc.ln; have h8 := np.le sc; rw [flatR_app, flatR_one, List.length_append, oneR_len]; simp [dl]; omega
                          have hck : (chkF t pf).1 = 0 := by rw [hpf]; exact chk_ok (by omega) hlast.2.1 hfl9 hlast.2.2.1
                          refine V_skipk [0, 1, 6, 12] (by simp only [proj, lk, reduceIte, Nat.reduceEqDiff]; rfl) ?_
                          refine hK33 _ _ ?_; clear hK33
                          refine V_seq (fun K39 hK39 => ?_)
                          refine V_sr T.mix (by kernel_rfl) (fun K40 hK40 => ?_)
                          first | refine S_fa0 T.f82_3 rfl ?_ | refine S_fa T.f82_3 rfl ?_
                          refine S_ldK T.ag49 rfl (fun K' hK' => ?_)
                          simp (disch := omega) only [d0, d1, d2, d3, d4, d5, d6, d7, d8, a0, a1, a2, a3, a4, a5, a6, m0, m1, m2, m3, m4, m5, m6, v0, oP_some, Nat.add_zero]
                          refine hK' _ ?_; clear hK' K'
                          refine S_bin rfl rfl (by simp only [binV, T.kd49]; rfl) ?_
                          refine S_nil (hK40 _ _ (V_keep [0, 1, 6, 12, 131] (by simp only [proj, lk, reduceIte, Nat.reduceEqDiff]; rfl) ?_)); clear hK40
                          refine V_condb rfl (fun c396 => ?_) (fun c396 => ?_)
                          · skip
                            exfalso; rw [hxm0] at c396; simp at c396
                          · skip
                            refine V_skipk [0, 1, 6, 12] (by simp only [proj, lk, reduceIte, Nat.reduceEqDiff]; rfl) ?_
                            refine hK39 _ _ ?_; clear hK39
                            refine V_srX #[0, 1, 2, 3, 4, 5, 6, 7, 8, 9] [0, 1, 2, 3, 4, 5, 6, 7, 8, 9] #[0, 1, 2, 3, 4, 5, 6, 8, 7, 9] [0, 1, 2, 3, 4, 5, 6, 8, 7, 9] 8 7 T.mix (by kernel_rfl) (fun K41 hK41 => ?_)
                            suffices hJ41 : ∀ l h', (∃ (hc3 : Heap) (vb : Nat), (LW hc3 c la5 lc5 Q5 W5 cl5 s5 p5 pa5 pc5 txt ma mc mine) ∧ (B hc3 vb #[.int .i64 ((chkF t pf).1 : Int), .int .i64 ((chkF t pf).2.1 : Int), .int .i64 ((chkF t pf).2.2 : Int)] 97) ∧ (B hc3 h3.size #[.int .i64 (e : Int), .int .i64 (q : Int), .bool sb, .slice xm mn mn, .string pf, .int .i64 (cf : Int), .int .i64 (rs : Int)] 82) ∧ (Ext (fun z => c.base ≤ z) h hc3) ∧ (Ext (fun z => z = c.N) hw hc3) ∧ l = [(0, .pointer (some ⟨c.D, 0, none⟩)), (6, .pointer (some ⟨h3.size, 0, none⟩)), (12, .slice ca (List.length (csOf t)) cc), (15, .pointer (some ⟨vb, 0, none⟩))] ∧ hc3 = h') → K41 l h' by
                              refine ⟨?_, ?_⟩
                              · skip
                                refine S_mv rfl ?_
                                refine S_nc rfl ?_
                                first | refine S_fa0 T.f40_3 rfl ?_ | refine S_fa T.f40_3 rfl ?_
                                refine S_ldK T.ag37 rfl (fun K' hK' => ?_)
                                simp (disch := omega) only [d0, d1, d2, d3, d4, d5, d6, d7, d8, a0, a1, a2, a3, a4, a5, a6, m0, m1, m2, m3, m4, m5, m6, v0, oP_some, Nat.add_zero]
                                refine hK' _ ?_; clear hK' K'
                                refine S_mv rfl ?_
                                first | refine S_fa0 T.f82_4 rfl ?_ | refine S_fa T.f82_4 rfl ?_
                                refine S_ldK T.ag9 rfl (fun K' hK' => ?_)
                                simp (disch := omega) only [d0, d1, d2, d3, d4, d5, d6, d7, d8, a0, a1, a2, a3, a4, a5, a6, m0, m1, m2, m3, m4, m5, m6, v0, oP_some, Nat.add_zero]
                                refine hK' _ ?_; clear hK' K'
                                refine S_call T.hb44 rfl ?_
                                refine FC.mono (ChkW.mcheck_spec hw c.KC c.N whw.km t pf) ?_
                                rintro v' hc1 ⟨rfl, hEc1, kmc1⟩
                                have wc1 := whw.chk hEc1 kmc1
                                have hsc1 := hEc1.1
                                have hAc1 := hAhw.ext hEc1 (fun k => by omega)
                                refine S_allocA T.z97 ?_
                                generalize hh : Array.push hc1 _ = hc2
                                have hV2 : B hc2 hc1.size #[.int .i64 0, .int .i64 0, .int .i64 0] 97 := by rw [← hh]; exact B.new _ _ _
                                have hEhc2 : Ext (fun _ => False) hc1 hc2 := by rw [← hh]; exact Ext.push _ _ _
                                have hshc2 : hc2.size = hc1.size + 1 := by rw [← hh]; simp
                                clear hh
                                try clear v0 vok
                                obtain ⟨v0, vok⟩ := vq3 (hV2)
                                refine S_stl T.sz97 rfl rfl rfl rfl (fun j hj => by simp (disch := omega) only [aok, mok, vok]) ?_
                                generalize hh : putsH _ _ _ _ = hc3
                                have hV3 : B hc3 (hc1.size) #[.int .i64 ((chkF t pf).1 : Int), .int .i64 ((chkF t pf).2.1 : Int), .int .i64 ((chkF t pf).2.2 : Int)] 97 := by rw [← hh]; exact B.puts_all (hV2) (cs' := #[.int .i64 ((chkF t pf).1 : Int), .int .i64 ((chkF t pf).2.1 : Int), .int .i64 ((chkF t pf).2.2 : Int)]) rfl
                                have hEhc3 : Ext (fun k => k = hc1.size) hc2 hc3 := by rw [← hh]; exact Ext.puts (S := fun k => k = hc1.size) rfl _ _ _
                                clear hh
                                refine S_nilk [0, 6, 12, 15] (by simp only [proj, lk, reduceIte, Nat.reduceEqDiff]; rfl) ?_
                                have hE9 : Ext (fun _ => False) hc1 hc3 := hEhc2.step hEhc3 (fun z hz k => by omega)
                                exact hJ41 _ _ ⟨hc3, hc1.size, wc1.new hE9, hV3, hAc1.ext hE9 (fun f => f), (hZhw.trans (hEc1.mono fun z k => by omega)).trans (hE9.mono fun _ f => f.elim), hEc1.trans (hE9.mono fun _ f => f.elim), rfl, rfl⟩
                              · skip
                                refine S_mv rfl ?_
                                refine S_nc rfl ?_
                                first | refine S_fa0 T.f40_3 rfl ?_ | refine S_fa T.f40_3 rfl ?_
                                refine S_ldK T.ag37 rfl (fun K' hK' => ?_)
                                simp (disch := omega) only [d0, d1, d2, d3, d4, d5, d6, d7, d8, a0, a1, a2, a3, a4, a5, a6, m0, m1, m2, m3, m4, m5, m6, v0, oP_some, Nat.add_zero]
                                refine hK' _ ?_; clear hK' K'
                                refine S_mv rfl ?_
                                first | refine S_fa0 T.f82_4 rfl ?_ | refine S_fa T.f82_4 rfl ?_
                                refine S_ldK T.ag9 rfl (fun K' hK' => ?_)
                                simp (disch := omega) only [d0, d1, d2, d3, d4, d5, d6, d7, d8, a0, a1, a2, a3, a4, a5, a6, m0, m1, m2, m3, m4, m5, m6, v0, oP_some, Nat.add_zero]
                                refine hK' _ ?_; clear hK' K'
                                refine S_allocA T.z97 ?_
                                generalize hh : Array.push hw _ = hc1
                                have hV1 : B hc1 hw.size #[.int .i64 0, .int .i64 0, .int .i64 0] 97 := by rw [← hh]; exact B.new _ _ _
                                have hEhc1 : Ext (fun _ => False) hw hc1 := by rw [← hh]; exact Ext.push _ _ _
                                have hshc1 : hc1.size = hw.size + 1 := by rw [← hh]; simp
                                clear hh
                                have wc1 := whw.new hEhc1
                                try clear d0 d1 d2 d3 d4 d5 d6 d7 d8 dok
                                obtain ⟨d0, d1, d2, d3, d4, d5, d6, d7, d8, dok⟩ := dq (wc1.dd)
                                have hAc1 := hAhw.ext hEhc1 (fun f => f)
                                try clear a0 a1 a2 a3 a4 a5 a6
                                obtain ⟨a0, a1, a2, a3, a4, a5, a6⟩ := aq7 (hAc1)
                                refine S_call T.hb44 rfl ?_
                                refine FC.mono (ChkW.mcheck_spec hc1 c.KC c.N wc1.km t pf) ?_
                                rintro v' hc2 ⟨rfl, hEc2, kmc2⟩
                                have wc2 := wc1.chk hEc2 kmc2
                                have hsc2 := hEc2.1
                                have hAc2 := hAc1.ext hEc2 (fun k => by omega)
                                have hV2 := hV1.ext hEc2 (fun k => by have h9 := whw.lt; omega)
                                try clear v0 vok
                                obtain ⟨v0, vok⟩ := vq3 (hV2)
                                refine S_stl T.sz97 rfl rfl rfl rfl (fun j hj => by simp (disch := omega) only [aok, mok, vok]) ?_
                                generalize hh : putsH _ _ _ _ = hc3
                                have hV3 : B hc3 (hw.size) #[.int .i64 ((chkF t pf).1 : Int), .int .i64 ((chkF t pf).2.1 : Int), .int .i64 ((chkF t pf).2.2 : Int)] 97 := by rw [← hh]; exact B.puts_all (hV2) (cs' := #[.int .i64 ((chkF t pf).1 : Int), .int .i64 ((chkF t pf).2.1 : Int), .int .i64 ((chkF t pf).2.2 : Int)]) rfl
                                have hEhc3 : Ext (fun k => k = hw.size) hc2 hc3 := by rw [← hh]; exact Ext.puts (S := fun k => k = hw.size) rfl _ _ _
                                clear hh
                                refine S_nilk [0, 6, 12, 15] (by simp only [proj, lk, reduceIte, Nat.reduceEqDiff]; rfl) ?_
                                have hwl := whw.lt
                                have w9 : LW hc3 c la5 lc5 Q5 W5 cl5 s5 p5 pa5 pc5 txt ma mc mine := wc2.far hEhc3 (fun z h1 h2 k => by omega) (fun z k f => by have h9 := (OwnR.blk2 whw.gs.sx.lo k).2; omega) (fun z k f => by have h9 := (OwnR.blk2 whw.gs.pr.ar k).2; omega) (fun z k f => by have h9 := (OwnR.blk2 whw.mi k).2; omega) (fun a ha z k f => by have h9 := (whw.kp a ha).1.lt k; omega)
                                exact hJ41 _ _ ⟨hc3, hw.size, w9, hV3, hAc2.ext hEhc3 (fun k => by have h9 := hAhw.lt; omega), (((hZhw.trans (hEhc1.mono fun _ f => f.elim)).trans (hEc2.mono fun z k => by omega)).trans (hEhc3.mono fun z k => by omega)), ((hEhc1.mono fun _ f => f.elim).trans hEc2).step hEhc3 (fun b hb k => by omega), rfl, rfl⟩
                            rintro l h' ⟨hc3, vb, wc3, hV3, hAc3, hZc3, hEwc, rfl, rfl⟩
                            refine hK41 _ _ ?_; clear hK41
                            try clear d0 d1 d2 d3 d4 d5 d6 d7 d8 dok
                            obtain ⟨d0, d1, d2, d3, d4, d5, d6, d7, d8, dok⟩ := dq (wc3.dd)
                            try clear a0 a1 a2 a3 a4 a5 a6
                            obtain ⟨a0, a1, a2, a3, a4, a5, a6⟩ := aq7 (hAc3)
                            try clear v0 vok
                            obtain ⟨v0, vok⟩ := vq3 (hV3)
                            have hlvc := hlvw.ext hEwc (fun z h1 h2 k => by omega)
                            refine V_seq (fun K42 hK42 => ?_)
                            refine V_sr T.mix (by kernel_rfl) (fun K43 hK43 => ?_)
                            first | refine S_fa0 T.f97_0 rfl ?_ | refine S_fa T.f97_0 rfl ?_
                            refine S_ldK T.ag54 rfl (fun K' hK' => ?_)
                            simp (disch := omega) only [d0, d1, d2, d3, d4, d5, d6, d7, d8, a0, a1, a2, a3, a4, a5, a6, m0, m1, m2, m3, m4, m5, m6, v0, oP_some, Nat.add_zero]
                            refine hK' _ ?_; clear hK' K'
                            refine S_bin rfl rfl rfl ?_
                            refine S_nil (hK43 _ _ (V_keep [0, 6, 12, 142] (by simp only [proj, lk, reduceIte, Nat.reduceEqDiff]; rfl) ?_)); clear hK43
                            refine V_condp rfl (fun c400 => ?_) (fun c400 => ?_)
                            · skip
                              exfalso; exact c400 (by rw [hck]; rfl)
                            · skip
                              rw [hsbf] at a2
                              rw [hxm0, hmn0] at a3
                              rw [hpf] at a4
                              rw [hcfe] at a5
                              refine V_skipk [0, 6, 12] (by simp only [proj, lk, reduceIte, Nat.reduceEqDiff]; rfl) ?_
                              refine hK42 _ _ ?_; clear hK42
                              refine V_sr T.mix (by kernel_rfl) (fun K44 hK44 => ?_)
                              refine S_mv rfl ?_
                              refine S_nc rfl ?_
                              first | refine S_fa0 T.f40_0 rfl ?_ | refine S_fa T.f40_0 rfl ?_
                              refine S_ldnK T.ag34 rfl (fun K' hK' => ?_)
                              simp (disch := omega) only [d0, d1, d2, d3, d4, d5, d6, d7, d8, a0, a1, a2, a3, a4, a5, a6, m0, m1, m2, m3, m4, m5, m6, v0, oPs_cons, oPs_nil, oP_some, Nat.reduceAdd, Nat.add_zero]
                              refine hK' _ ?_; clear hK' K'
                              refine S_mv rfl ?_
                              refine S_ldnK T.ag82 rfl (fun K' hK' => ?_)
                              simp (disch := omega) only [d0, d1, d2, d3, d4, d5, d6, d7, d8, a0, a1, a2, a3, a4, a5, a6, m0, m1, m2, m3, m4, m5, m6, v0, oPs_cons, oPs_nil, oP_some, Nat.reduceAdd, Nat.add_zero]
                              refine hK' _ ?_; clear hK' K'
                              refine S_call T.hb45 rfl ?_
                              refine FC.mono (logis_spec hc3 c.P c.X c.C c.K W5 cl5 s5 p5 wc3.gs.sx.wx ca cc lo h14.size (csOf t) hlvc hcok.1 hcok.2 (lr ++ [(false, [])]) hlast.2.1 hfl9 hlast.1 (f + 1) hlast.2.2.2 (e : Int) (q : Int) (rs : Int)) ?_
                              rintro v' hc4 ⟨rfl, hEc4⟩
                              refine S_as rfl ?_
                              refine S_nil (hK44 _ _ (V_keep [4] (by simp only [proj, lk, reduceIte, Nat.reduceEqDiff]; rfl) ?_)); clear hK44
                              refine V_ret ?_
                              refine hR _ _ (ret1 rfl rfl ?_)
                              exact ⟨rfl, la5, lc5, Q5, W5, cl5, s5, p5, pa5, pc5, ma, mc, mine, wc3.new hEc4, hp5, hZc3.trans (hEc4.mono fun _ f => f.elim)⟩
end Go.Proofs.Qxb6500401aGreat
